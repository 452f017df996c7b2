/- trace.Calm: the steps that bring all to an end that is begun. -/
import Derived.Test.YtmfheghbgihdmaaGreatDoorWchD
import Derived.Test.YtmfheghbgihdmaaGreatDoorDkS
import Derived.Test.YtmfheghbgihdmaaGreatDoorDkF
import Derived.Test.YtmfheghbgihdmaaGreatDoorScI
import Derived.Test.YtmfheghbgihdmaaGreatDoorInsM2
import Derived.Test.YtmfheghbgihdmaaGreatDoorEntBits
import Derived.Lib.SmallJoins
namespace Go.Proofs.YtmfheghbgihdmaaGreatDoor
open Go.Value renaming bool→vB
open Go.Value renaming int→D
open Go.IntKind renaming i64→G
open Go.Lib renaming hid→I
open Option renaming some→M,none→U
open Go.Addr renaming mk→Z
open Bool renaming false→ad
open Go renaming World→af,Calls→ax,bodyPost_ret→a6,Addr→a7
open List renaming length_append→ag
open Go.World renaming size_alloc→an
open Tryz
open Go.RowKit
set_option maxRecDepth 100000
def fz(O:Nat)(l:List Ev):ab:=ex fun A=>ex fun c=>aa O #[.slice A l.length c] 101*fu (.slice A l.length c) l
theorem lH{O:Nat}{l:List Ev}{R:ab}{w:af}(h:Has w (fz O l*R)):∃A c,Has w (aa O #[.slice A l.length c] 101*(fu (.slice A l.length c) l*R)):=by
 unfold fz at h;obtain⟨A,h⟩:=aw.1 h;obtain⟨c,h⟩:=aw.1 h;exact⟨A,c,h.a1⟩
theorem lI{O c:Nat}{A:Option a7}{l:List Ev}{R:ab}{w:af}(h:Has w (aa O #[.slice A l.length c] 101*(fu (.slice A l.length c) l*R))):Has w (fz O l*R):=by
 unfold fz;exact aw.2 ⟨A,aw.2 ⟨c,h.a2⟩⟩
set_option maxHeartbeats 8000000 in
theorem xI(p sp X1 O:Nat)(W:Wc)(P:List Mp)(x:Stp)(hW:W.Ok P)(hx:x.ok)(hH:W.H.length≤999999)(out:List Ev)(hol:out.length≤1000)(R:ab)(w:af)
  (h:Has w (aE p sp W.H W.f W.since*(ah sp W.σ*(aa X1 #[.pointer (M (Z p 0 U))] 45*(fz O out*R))))):
  ax prog 124 #[.agg #[D G x.kind,D G x.core,D G x.m.page,D G x.m.size,D G x.m.frame,D G x.m.rights,D G x.a.page,D G x.a.kind,vB x.a.user],.pointer (M (Z X1 0 U)),.pointer (M (Z O 0 U))] w
   (cF (.tuple #[(W.act x).2.val,.agg #[D G 0,D G 0]]) (aE p sp (W.act x).1.H (W.act x).1.f (W.act x).1.since*(ah sp (W.act x).1.σ*(aa X1 #[.pointer (M (Z p 0 U))] 45*(fz O (out++[(W.act x).2])*R)))) w):=by
 have HD:=I (fun R w h=>Bl p sp W P x hW hx hH R w h);obtain⟨A,c,h1⟩:=lH (h.eq (show _=fz O out*(aE p sp W.H W.f W.since*(ah sp W.σ*(aa X1 #[.pointer (M (Z p 0 U))] 45*R))) by ac_rfl));unfold Ev.val at HD⊢;clear hW hx hH h;obtain⟨σ1,H1,f1,S1⟩:=W;generalize hz:Wc.act ⟨σ1,H1,f1,S1⟩ x=z at*
 obtain⟨W2,⟨ec,ef,⟨ea,eb,er⟩,ek⟩⟩:=z;obtain⟨yk,yc,ym,ya⟩:=x;dsimp only at*
 clear hz;obtain⟨out2,ho2⟩:∃z,out++[(⟨ec,ef,⟨ea,eb,er⟩,ek⟩:Ev)]=z:=⟨_,rfl⟩;rw[ho2];replace ho2:=I ho2;have h2:Has _ (aE p sp H1 f1 S1*(ah sp σ1*(aa (w.heap.size+1) #[D G 0,vB ad,D G 0,D G 0,D G 0,vB ad] 72*(aa (w.heap.size+1+1) #[D G 0,D G 0] 33*(aa X1 #[.pointer (M (Z p 0 U))] 45*(aa w.heap.size #[D G yk,D G yc,D G ym.page,D G ym.size,D G ym.frame,D G ym.rights,D G ya.page,D G ya.kind,vB ya.user] 79*(aa O #[.slice A out.length c] 101*(fu (.slice A out.length c) out*R)))))))):=
  (((h1.new #[D G yk,D G yc,D G ym.page,D G ym.size,D G ym.frame,D G ym.rights,D G ya.page,D G ya.kind,vB ya.user] 79).new #[D G 0,vB ad,D G 0,D G 0,D G 0,vB ad] 72).new #[D G 0,D G 0] 33).eq (by simp only[an]<;>ac_rfl)
 have x2:=(((Ext.refl w).alloc (.cells #[D G yk,D G yc,D G ym.page,D G ym.size,D G ym.frame,D G ym.rights,D G ya.page,D G ya.kind,vB ya.user] 79)).alloc (.cells #[D G 0,vB ad,D G 0,D G 0,D G 0,vB ad] 72)).alloc (.cells #[D G 0,D G 0] 33);clear h1;go_enter func124,ntmps124;go_upto_region 1 with fail;generalize ((w.alloc (.cells #[D G yk,D G yc,D G ym.page,D G ym.size,D G ym.frame,D G ym.rights,D G ya.page,D G ya.kind,vB ya.user] 79)).alloc (.cells #[D G 0,vB ad,D G 0,D G 0,D G 0,vB ad] 72)).alloc (.cells #[D G 0,D G 0] 33)=w1 at*
 generalize w.heap.size+1+1=F at*
 generalize w.heap.size+1=E at*
 generalize w.heap.size=S0 at*
 have g0:=h2.right.r3.cell 0;have gl:=h2.right.r3.lt;obtain⟨d0,d1,d2,d3,d4,d5,d6,d7,d8⟩:=h2.right.right.r3.cells9;have dl:=h2.right.right.r3.lt;go_wp2_with fail
 refine(HD.out _ _ h2).mono ?_;rintro e w5 ⟨rfl,h5,x5⟩;have h6:Has _ (fu (.slice A out.length c) out*(aa O #[.slice A out.length c] 101*(aa w5.heap.size #[D G ec,vB ef,D G ea,D G eb,D G er,vB ek] 72*(aa (w5.heap.size+1) #[D G 0,D G 0] 33*(aa E #[D G 0,vB ad,D G 0,D G 0,D G 0,vB ad] 72*(aa F #[D G 0,D G 0] 33*(aE p sp W2.H W2.f W2.since*(ah sp W2.σ*(aa X1 #[.pointer (M (Z p 0 U))] 45*(aa S0 #[D G yk,D G yc,D G ym.page,D G ym.size,D G ym.frame,D G ym.rights,D G ya.page,D G ya.kind,vB ya.user] 79*R)))))))))):=
  ((h5.new #[D G ec,vB ef,D G ea,D G eb,D G er,vB ek] 72).new #[D G 0,D G 0] 33).eq (by simp only[an]<;>ac_rfl)
 have x6:=((x2.trans x5).alloc (.cells #[D G ec,vB ef,D G ea,D G eb,D G er,vB ek] 72)).alloc (.cells #[D G 0,D G 0] 33);clear h2 x2 h5 x5 HD g0 gl d0 d1 d2 d3 d4 d5 d6 d7 d8 dl;go_upto_region 2 with fail;generalize (w5.alloc (.cells #[D G ec,vB ef,D G ea,D G eb,D G er,vB ek] 72)).alloc (.cells #[D G 0,D G 0] 33)=w6 at*
 generalize w5.heap.size+1=FX at*
 generalize w5.heap.size=V at*
 obtain⟨e0,e1,e2,e3,e4,e5⟩:=h6.right.right.cells6;have el:=h6.right.right.lt;have f0:=h6.r3.cell 0;have fl:=h6.r3.lt;have o0:=h6.right.cell 0;have ol:=h6.right.lt;go_wp2_with(at_builtin;refine a8 rfl _ _ 101 rfl underlying101 zu _ _ _ rfl (h6.alloc (.cells #[D G ec,vB ef,D G ea,D G eb,D G er,vB ek] 72)) (Z w6.heap.size 0 U) 1 1 (⟨ec,ef,⟨ea,eb,er⟩,ek⟩:Ev).cells rfl rfl (jH w6 (⟨ec,ef,⟨ea,eb,er⟩,ek⟩:Ev).cells 72) (Aw ⟨ec,ef,⟨ea,eb,er⟩,ek⟩) ?_ ?_ ?_)
 rotate_left;rotate_left
 ·intro v3 w7 h8 x8
  obtain⟨A3,c3,hv,h9⟩:=tP h8;rw[ho2.out] at hv h9;subst hv;clear h8 e0 e1 e2 e3 e4 e5 el f0 fl o0 ol h6;have o0:=h9.right.cell 0;have of:=h9.right.free 0;have ol:=h9.right.lt;have h10:Has _ (aa E #[D G 0,vB ad,D G 0,D G 0,D G 0,vB ad] 72*(aa F #[D G 0,D G 0] 33*(aa V #[D G ec,vB ef,D G ea,D G eb,D G er,vB ek] 72*(aa FX #[D G 0,D G 0] 33*(aa O #[.slice A3 out2.length c3] 101*(fu (.slice A3 out2.length c3) out2*(aE p sp W2.H W2.f W2.since*(ah sp W2.σ*(aa X1 #[.pointer (M (Z p 0 U))] 45*(aa S0 #[D G yk,D G yc,D G ym.page,D G ym.size,D G ym.frame,D G ym.rights,D G ya.page,D G ya.kind,vB ya.user] 79*R)))))))))):=(h9.p2.set 0 (.slice A3 out2.length c3)).eq (by
   show aa O #[.slice A3 out2.length c3] 101*_=_;ac_rfl)
  have x10:=((x6.alloc (.cells #[D G ec,vB ef,D G ea,D G eb,D G er,vB ek] 72)).trans x8).set (Z O 0 U) (.slice A3 out2.length c3);clear h9 x8 x6;go_upto_region 4 with fail;generalize w7.setCell (Z O 0 U) (.slice A3 out2.length c3)=w2 at*
  clear o0 of ol;have hE:Has _ (aa E #[D G ec,vB ef,D G ea,D G eb,D G er,vB ek] 72*(aa F #[D G 0,D G 0] 33*(aa V #[D G ec,vB ef,D G ea,D G eb,D G er,vB ek] 72*(aa FX #[D G 0,D G 0] 33*(aa O #[.slice A3 out2.length c3] 101*(fu (.slice A3 out2.length c3) out2*(aE p sp W2.H W2.f W2.since*(ah sp W2.σ*(aa X1 #[.pointer (M (Z p 0 U))] 45*(aa S0 #[D G yk,D G yc,D G ym.page,D G ym.size,D G ym.frame,D G ym.rights,D G ya.page,D G ya.kind,vB ya.user] 79*R)))))))))):=(h10.set6 (D G ec) (vB ef) (D G ea) (D G eb) (D G er) (vB ek)).drew;have hF:Has _ (aa F #[D G 0,D G 0] 33*(aa E #[D G 0,vB ad,D G 0,D G 0,D G 0,vB ad] 72*(aa V #[D G ec,vB ef,D G ea,D G eb,D G er,vB ek] 72*(aa FX #[D G 0,D G 0] 33*(aa O #[.slice A3 out2.length c3] 101*(fu (.slice A3 out2.length c3) out2*(aE p sp W2.H W2.f W2.since*(ah sp W2.σ*(aa X1 #[.pointer (M (Z p 0 U))] 45*(aa S0 #[D G yk,D G yc,D G ym.page,D G ym.size,D G ym.frame,D G ym.rights,D G ya.page,D G ya.kind,vB ya.user] 79*R)))))))))):=((h10.p2.set 0 (D G 0)).set 1 (D G 0)).drew;have hEF:Has _ (aa F #[D G 0,D G 0] 33*(aa E #[D G ec,vB ef,D G ea,D G eb,D G er,vB ek] 72*(aa V #[D G ec,vB ef,D G ea,D G eb,D G er,vB ek] 72*(aa FX #[D G 0,D G 0] 33*(aa O #[.slice A3 out2.length c3] 101*(fu (.slice A3 out2.length c3) out2*(aE p sp W2.H W2.f W2.since*(ah sp W2.σ*(aa X1 #[.pointer (M (Z p 0 U))] 45*(aa S0 #[D G yk,D G yc,D G ym.page,D G ym.size,D G ym.frame,D G ym.rights,D G ya.page,D G ya.kind,vB ya.user] 79*R)))))))))):=(((h10.set6 (D G ec) (vB ef) (D G ea) (D G eb) (D G er) (vB ek)).p2.set 0 (D G 0)).set 1 (D G 0)).drew;have hFE:Has _ (aa E #[D G ec,vB ef,D G ea,D G eb,D G er,vB ek] 72*(aa F #[D G 0,D G 0] 33*(aa V #[D G ec,vB ef,D G ea,D G eb,D G er,vB ek] 72*(aa FX #[D G 0,D G 0] 33*(aa O #[.slice A3 out2.length c3] 101*(fu (.slice A3 out2.length c3) out2*(aE p sp W2.H W2.f W2.since*(ah sp W2.σ*(aa X1 #[.pointer (M (Z p 0 U))] 45*(aa S0 #[D G yk,D G yc,D G ym.page,D G ym.size,D G ym.frame,D G ym.rights,D G ya.page,D G ya.kind,vB ya.user] 79*R)))))))))):=(((h10.p2.set 0 (D G 0)).set 1 (D G 0)).p2.set6 (D G ec) (vB ef) (D G ea) (D G eb) (D G er) (vB ek)).drew;have hd:=h10.drew;obtain⟨e0,e1,e2,e3,e4,e5⟩:=h10.cells6;obtain⟨f0,f1,f2',f3,f4,f5⟩:=h10.frees6;have el:=h10.lt;have k0:w2.cell? (Z F 0 U)=M (D G 0):=h10.right.cell 0;have k1:w2.cell? (Z F 1 U)=M (D G 0):=h10.right.cell 1;have l0:w2.frozen? (Z F 0 U)=ad:=h10.right.free 0;have l1:w2.frozen? (Z F 1 U)=ad:=h10.right.free 1;have fl:=h10.right.lt;have HK:=I (fun(w':af) (P Q:ab) (h:Has w' (P*(Q*(aa V #[D G ec,vB ef,D G ea,D G eb,D G er,vB ek] 72*(aa FX #[D G 0,D G 0] 33*(aa O #[.slice A3 out2.length c3] 101*(fu (.slice A3 out2.length c3) out2*(aE p sp W2.H W2.f W2.since*(ah sp W2.σ*(aa X1 #[.pointer (M (Z p 0 U))] 45*(aa S0 #[D G yk,D G yc,D G ym.page,D G ym.size,D G ym.frame,D G ym.rights,D G ya.page,D G ya.kind,vB ya.user] 79*R)))))))))))=>(by
   obtain⟨c0,c1,c2,c3,c4,c5⟩:=h.right.right.cells6;exact⟨c0,c1,c2,c3,c4,c5,h.r3.cell 0,h.r3.cell 1⟩:w'.cell? (Z V 0 U)=M (D G ec)∧w'.cell? (Z V 1 U)=M (vB ef)∧w'.cell? (Z V 2 U)=M (D G ea)∧w'.cell? (Z V 3 U)=M (D G eb)∧w'.cell? (Z V 4 U)=M (D G er)∧w'.cell? (Z V 5 U)=M (vB ek)∧w'.cell? (Z FX 0 U)=M (D G 0)∧w'.cell? (Z FX 1 U)=M (D G 0)))
  have hne:E≠F:=h10.ne;have hne':F≠E:=fun e=>hne e.symm;have vl:=h10.right.right.lt;have xl:=h10.r3.lt;have HEN:=I (fun(w':af) (h:Has w' (aa V #[D G ec,vB ef,D G ea,D G eb,D G er,vB ek] 72*(aa FX #[D G 0,D G 0] 33*(aa O #[.slice A3 out2.length c3] 101*(fu (.slice A3 out2.length c3) out2*(aE p sp W2.H W2.f W2.since*(ah sp W2.σ*(aa X1 #[.pointer (M (Z p 0 U))] 45*(aa S0 #[D G yk,D G yc,D G ym.page,D G ym.size,D G ym.frame,D G ym.rights,D G ya.page,D G ya.kind,vB ya.user] 79*R)))))))))=>(by
   have h1:=lI (h.eq (show _=aa O #[.slice A3 out2.length c3] 101*(fu (.slice A3 out2.length c3) out2*(aa V #[D G ec,vB ef,D G ea,D G eb,D G er,vB ek] 72*(aa FX #[D G 0,D G 0] 33*(aa S0 #[D G yk,D G yc,D G ym.page,D G ym.size,D G ym.frame,D G ym.rights,D G ya.page,D G ya.kind,vB ya.user] 79*(aE p sp W2.H W2.f W2.since*(ah sp W2.σ*(aa X1 #[.pointer (M (Z p 0 U))] 45*R))))))) by ac_rfl));exact(h1.eq (show _=aa V #[D G ec,vB ef,D G ea,D G eb,D G er,vB ek] 72*(aa FX #[D G 0,D G 0] 33*(aa S0 #[D G yk,D G yc,D G ym.page,D G ym.size,D G ym.frame,D G ym.rights,D G ya.page,D G ya.kind,vB ya.user] 79*(aE p sp W2.H W2.f W2.since*(ah sp W2.σ*(aa X1 #[.pointer (M (Z p 0 U))] 45*(fz O out2*R)))))) by ac_rfl)).r3 :Has w' (aE p sp W2.H W2.f W2.since*(ah sp W2.σ*(aa X1 #[.pointer (M (Z p 0 U))] 45*(fz O out2*R))))))
  go_region_held3 (fun w'=>w'.cell? (Z V 0 U)=M (D G ec)∧w'.cell? (Z V 1 U)=M (vB ef)∧w'.cell? (Z V 2 U)=M (D G ea)∧w'.cell? (Z V 3 U)=M (D G eb)∧w'.cell? (Z V 4 U)=M (D G er)∧w'.cell? (Z V 5 U)=M (vB ek)∧w'.cell? (Z FX 0 U)=M (D G 0)∧w'.cell? (Z FX 1 U)=M (D G 0)) (first|(with_reducible exact HK.out _ _ _ hd)|(with_reducible exact HK.out _ _ _ hE)|(with_reducible exact HK.out _ _ _ hF)|(with_reducible exact HK.out _ _ _ hEF)|(with_reducible exact HK.out _ _ _ hFE)|go_keep) (fail)
  all_goals
   go_wp2_with fail
   refine ay (fun wz=>Has wz (aa E #[D G ec,vB ef,D G ea,D G eb,D G er,vB ek] 72*(aa F #[D G 0,D G 0] 33*(aa V #[D G ec,vB ef,D G ea,D G eb,D G er,vB ek] 72*(aa FX #[D G 0,D G 0] 33*(aa O #[.slice A3 out2.length c3] 101*(fu (.slice A3 out2.length c3) out2*(aE p sp W2.H W2.f W2.since*(ah sp W2.σ*(aa X1 #[.pointer (M (Z p 0 U))] 45*(aa S0 #[D G yk,D G yc,D G ym.page,D G ym.size,D G ym.frame,D G ym.rights,D G ya.page,D G ya.kind,vB ya.user] 79*R))))))))))∧Ext w wz) ?_ ?_
   ·first
     |exact⟨hEF.p2,(((((((((x10.set _ _).set _ _).set _ _).set _ _).set _ _).set _ _).set _ _).set _ _).drew)⟩
     |exact⟨hFE,(((((((((x10.set _ _).set _ _).set _ _).set _ _).set _ _).set _ _).set _ _).set _ _).drew)⟩
   ·rintro wz ⟨hz,xz⟩
    exact a6 (nb results124 rfl rfl (bh hz) (cI hz.right)) rfl ⟨rfl,HEN.out _ hz.right.right,xz⟩
 ·unfold maxLen;omega
 ·omega
theorem lJ:∀(m k:Nat) (σ:Sc),(dZ m k σ).2.length≤m
 |0,_,_=>Nat.le_refl _
 |m+1,k,σ=>by
  cases hq:σ.waits k with
  |true=>
   rw[sa hq];have:=lJ m (k+1) (σ.act (cM k)).1;show(dZ m (k+1) (σ.act (cM k)).1).2.length+1≤m+1;omega
  |false=>
   rw[qy hq];have:=lJ m (k+1) σ;omega
theorem oZ:∀(m k:Nat) (σ:Sc),(fx m k σ).2.length≤m
 |0,_,_=>Nat.le_refl _
 |m+1,k,σ=>by
  cases hq:σ.on k with
  |true=>
   rw[sb hq];have:=oZ m k (σ.act (bO k)).1;show(fx m k (σ.act (bO k)).1).2.length+1≤m+1;omega
  |false=>
   rw[qz hq];show 0≤m+1;omega
theorem nw:∀(m k:Nat) (σ:Sc),(dA m k σ).2.length≤7*m
 |0,_,_=>Nat.le_refl _
 |m+1,k,σ=>by
  have h1:=oZ 7 k σ;have h2:=nw m (k+1) (fx 7 k σ).1;show((fx 7 k σ).2++(dA m (k+1) (fx 7 k σ).1).2).length ≤_;rw[ag];omega
theorem lK{σ:Sc}(h:σ.cs.length≤4):(fB σ).2.length≤32:=by
 have h1:=lJ σ.cs.length 0 σ;have h2:=nw σ.cs.length 0 (dZ σ.cs.length 0 σ).1;show((dZ σ.cs.length 0 σ).2++(dA σ.cs.length 0 (dZ σ.cs.length 0 σ).1).2).length ≤32;rw[ag];omega
theorem wk{σ:Sc}{P:List Mp}(hs:Safe σ P){k:Nat}(hk:k<σ.cs.length)(hon:σ.on k=true):ka (σ.act (bO k)).1.s ((σ.act (bO k)).1.core k).k <ka σ.s (σ.core k).k :=by
 have hon':(σ.core k).k.on =true:=by rw[←yh hk];exact hon
 have hst:=hs.walk_stepIn hk hon';have hmu:=wU (Sc.core_ok hs.ok k).2 hon' hst.code;rw[vg hk,tt hk];exact hmu
theorem yv(k:Nat)(h:k<4):(cM k).ok :=by
 unfold cM Stp.ok Mp.ok Ac.ok bX;dsimp only;omega
theorem wl(k:Nat)(h:k<4):(bO k).ok :=by
 unfold bO Stp.ok Mp.ok Ac.ok bX;dsimp only;omega
set_option maxHeartbeats 20000000 in
theorem zA(p sp:Nat)(W:Wc)(P:List Mp)(hW:W.Ok P)(hH:W.H.length≤999999)(R:ab)(w:af)(h:Has w (aE p sp W.H W.f W.since*(ah sp W.σ*R))):
  ax prog 78 #[.pointer (M (Z p 0 U))] w fun e w'=>∃(A:Option a7) (c:Nat) (W':Wc) (P':List Mp),e= .returned (.tuple #[.slice A (fB W.σ).2.length c,.agg #[D G 0,D G 0]])∧W'.Ok P'∧W'.σ=(fB W.σ).1∧W'.H.length=W.H.length∧
   Has w' (fu (.slice A (fB W.σ).2.length c) (fB W.σ).2*(aE p sp W'.H W'.f W'.since*(ah sp W'.σ*R)))∧Ext w w':=by
 obtain⟨K,hK⟩:∃K,W.σ.cs.length=K:=⟨_,rfl⟩;have hK4:K≤4:=hK▸hW.safe.ok.few;have hLen:=I (lK (σ:=W.σ) hW.safe.ok.few);have hCR:Hid (fB W.σ=((dA K 0 (dZ K 0 W.σ).1).1,(dZ K 0 W.σ).2++(dA K 0 (dZ K 0 W.σ).1).2)):=I (by rw[←hK];rfl);have HS0:Hid (W.Ok P):=I hW;have HH:=I hH;have HA0:Hid (dZ K 0 W.σ=((dZ (K - 0) 0 W.σ).1,([]:List Ev)++(dZ (K - 0) 0 W.σ).2)):=I rfl;obtain⟨C,hC⟩:∃C,fB W.σ=C:=⟨_,rfl⟩;obtain⟨AR,hAR⟩:∃a,dZ K 0 W.σ=a:=⟨_,rfl⟩;obtain⟨h0,hh0⟩:∃n,W.H.length=n:=⟨_,rfl⟩;rw[hC] at hLen hCR⊢;rw[hAR] at hCR HA0;rw[hh0] at HH⊢;have HB0:Hid (W.σ.cs.length=K∧W.H.length=h0):=I ⟨hK,hh0⟩;have h1:Has _ (aa w.heap.size #[.pointer (M (Z p 0 U))] 45*(aa (w.heap.size+1) #[D G 0,D G 0] 33*(aa (w.heap.size+1+1) #[.slice U 0 0] 101*(aE p sp W.H W.f W.since*(ah sp W.σ*R))))):=(((h.new #[.pointer (M (Z p 0 U))] 45).new #[D G 0,D G 0] 33).new #[.slice U 0 0] 101).eq (by simp only[an]<;>ac_rfl);have x1:=(((Ext.refl w).alloc (.cells #[.pointer (M (Z p 0 U))] 45)).alloc (.cells #[D G 0,D G 0] 33)).alloc (.cells #[.slice U 0 0] 101);clear h hW hH hC hK hAR hh0;go_enter func78,ntmps78;go_upto_region 3 with fail;generalize ((w.alloc (.cells #[.pointer (M (Z p 0 U))] 45)).alloc (.cells #[D G 0,D G 0] 33)).alloc (.cells #[.slice U 0 0] 101)=w1 at*
 generalize w.heap.size+1+1=O at*
 generalize w.heap.size+1=F at*
 generalize w.heap.size=X1 at*
 have h2:Has w1 (aE p sp W.H W.f W.since*(ah sp W.σ*(aa X1 #[.pointer (M (Z p 0 U))] 45*(fz O []*(aa F #[D G 0,D G 0] 33*R))))):=by
  have a1:=lI (O:=O) (A:=U) (c:=0) (l:=[]) (Has.p2 (Has.rowNil (e:=72) (size:=6) (h1.eq (show _=aa O #[.slice U 0 0] 101*(aE p sp W.H W.f W.since*(ah sp W.σ*(aa X1 #[.pointer (M (Z p 0 U))] 45*(aa F #[D G 0,D G 0] 33*R)))) by ac_rfl))));exact a1.eq (by ac_rfl)
 clear h1;have g0:=h2.right.right.cell 0;have gl:=h2.right.right.lt;have pc:=(cu h2).2;have pl:=(cu h2).1;have HCO:=I (uA sp W.σ _ _ h2.p2);rw[HB0.out.1] at HCO;go_wp2_with fail
 refine HCO.out.mono ?_;rintro e w2 ⟨rfl,hw⟩;replace hw:=hw.symm;subst hw;clear HCO g0 gl pc pl;go_wp2_with fail
 go_loopw [20] (fun t20 wr=>∃(i:Nat) (W':Wc) (P':List Mp) (out:List Ev),i≤K∧t20=D G i∧Hid (W'.Ok P')∧Hid (W'.σ.cs.length=K∧W'.H.length=h0)∧Hid (AR=((dZ (K - i) i W'.σ).1,out++(dZ (K - i) i W'.σ).2))∧Has wr (aE p sp W'.H W'.f W'.since*(ah sp W'.σ*(aa X1 #[.pointer (M (Z p 0 U))] 45*(fz O out*(aa F #[D G 0,D G 0] 33*R)))))∧Ext w wr) (fun t20 _=>K - (intOf t20).toNat)
 case atStart=>exact⟨0,W,P,[],by omega,rfl,HS0,HB0,HA0,h2,x1⟩
 case round=>
  clear h2 x1 HS0 HB0 HA0;obtain⟨i,W1,P1,out,hi,rfl,hS1,hB1,hA1,hr,hx⟩:=hrel;by_cases hlt:i<K
  ·have hlt':(i:Int)<K:=by omega
   obtain⟨j,hj⟩:∃j,K - i=j+1:=⟨K - i - 1,by omega⟩;have hj':K - (i+1)=j:=by omega
   rw[hj] at hA1;have g0:=hr.right.right.cell 0;have gl:=hr.right.right.lt;have pc:=(cu hr).2;have pl:=(cu hr).1;have HWT:=I (yN sp W1.σ _ _ hr.p2 i);have hol:out.length≤32:=by
    have a1:=hLen.out;have a2:=congrArg Prod.snd hCR.out;have a3:=congrArg Prod.snd hA1.out;dsimp only at a2 a3;rw[a2,a3,ag,ag] at a1;omega
   have HF:=I (fun w h=>xI p sp X1 O W1 P1 (cM i) hS1.out (yv i (by omega)) (by rw[hB1.out.2];exact HH.out) out (by omega) (aa F #[D G 0,D G 0] 33*R) w h);have HS2:Hid ((W1.act (cM i)).1.Ok (Safe.prevOf W1.σ P1 (cM i))):=I (hS1.out.act _);have HB2:Hid ((W1.act (cM i)).1.σ.cs.length=K∧(W1.act (cM i)).1.H.length=h0):=I ⟨(hS1.out.safe.n_act _).2.trans hB1.out.1,by rw[qx _ _ tu];exact hB1.out.2⟩;unfold Ev.val cM at HF;dsimp only at HF;cases hq:W1.σ.waits i with
   |true=>
    have HA2:Hid (AR=((dZ (K - (i+1)) (i+1) (W1.act (cM i)).1.σ).1,(out++[(W1.act (cM i)).2])++(dZ (K - (i+1)) (i+1) (W1.act (cM i)).1.σ).2)):=I (by
     have a1:=hA1.out;rw[sa hq] at a1;rw[hj',a1,List.append_assoc];rfl)
    rw[hq] at HWT;unfold cM at HS2 HB2 HA2;clear hS1 hB1 hA1 hq hj hj';go_wp2_with fail
    refine HWT.out.mono ?_;rintro e w3 ⟨rfl,hw⟩;replace hw:=hw.symm;subst hw;clear HWT g0 gl pc pl;generalize Wc.act W1 ⟨6,(i:Int),⟨0,0,0,0⟩,⟨0,0,ad⟩⟩=z at*
    obtain⟨W2,⟨ec,ef,⟨ea,eb,er⟩,ek⟩⟩:=z;dsimp only at*
    go_wp2_with fail
    refine(HF.out _ hr).mono ?_;rintro e w4 ⟨rfl,h4,x4⟩;have h5:=(h4.new #[D G ec,vB ef,D G ea,D G eb,D G er,vB ek] 72).new #[D G 0,D G 0] 33;have x5:=((hx.trans x4).alloc (.cells #[D G ec,vB ef,D G ea,D G eb,D G er,vB ek] 72)).alloc (.cells #[D G 0,D G 0] 33);clear hr hx h4 x4 HF;go_upto_region 8 with fail;generalize (w4.alloc (.cells #[D G ec,vB ef,D G ea,D G eb,D G er,vB ek] 72)).alloc (.cells #[D G 0,D G 0] 33)=w5 at*
    have f0:=h5.cell 0;have fl:=h5.lt;simp only[an] at f0 fl;generalize w4.heap.size=V at*
    go_wp2_with fail
    go_roundw
    case rel=>exact⟨i+1,W2,_,out++[(⟨ec,ef,⟨ea,eb,er⟩,ek⟩:Ev)],by omega,by go_num,HS2,HB2,HA2,h5.right.right,x5⟩
    case measure=>simp[intOf];omega
   |false=>
    have HA2:Hid (AR=((dZ (K - (i+1)) (i+1) W1.σ).1,out++(dZ (K - (i+1)) (i+1) W1.σ).2)):=I (by
     have a1:=hA1.out;rw[qy hq] at a1;rw[hj',a1])
    rw[hq] at HWT;clear hA1 hq hj hj' HF HS2 HB2;go_wp2_with fail
    refine HWT.out.mono ?_;rintro e w3 ⟨rfl,hw⟩;replace hw:=hw.symm;subst hw;clear HWT g0 gl pc pl;go_wp2_with fail
    go_roundw
    case rel=>exact⟨i+1,W1,P1,out,by omega,by go_num,hS1,hB1,HA2,hr,hx⟩
    case measure=>simp[intOf];omega
  ·obtain rfl:i=K:=by omega
   have HC1:Hid (C=((dA (i - 0) 0 W1.σ).1,out++(dA (i - 0) 0 W1.σ).2)):=I (by
    have a1:=hA1.out;rw[Nat.sub_self] at a1;have a2:=hCR.out;rw[a1] at a2;rw[a2];show((dA i 0 W1.σ).1,(out++[])++(dA i 0 W1.σ).2)=_;rw[List.append_nil];rfl)
   have g0:=hr.right.right.cell 0;have gl:=hr.right.right.lt;have pc:=(cu hr).2;have pl:=(cu hr).1;have HCO:=I (uA sp W1.σ _ _ hr.p2);rw[hB1.out.1] at HCO;clear hA1 hCR;go_wp2_with fail
   refine HCO.out.mono ?_;rintro e w2 ⟨rfl,hw⟩;replace hw:=hw.symm;subst hw;clear HCO g0 gl pc pl;go_wp2_with fail
   go_loopw [46] (fun t46 wr=>∃(k:Nat) (W':Wc) (P':List Mp) (out:List Ev),k≤i∧t46=D G k∧Hid (W'.Ok P')∧Hid (W'.σ.cs.length=i∧W'.H.length=h0)∧Hid (C=((dA (i - k) k W'.σ).1,out++(dA (i - k) k W'.σ).2))∧Has wr (aE p sp W'.H W'.f W'.since*(ah sp W'.σ*(aa X1 #[.pointer (M (Z p 0 U))] 45*(fz O out*(aa F #[D G 0,D G 0] 33*R)))))∧Ext w wr) (fun t46 _=>i - (intOf t46).toNat)
   case atStart=>exact⟨0,W1,P1,out,by omega,rfl,hS1,hB1,HC1,hr,hx⟩
   case round=>
    clear hr hx hS1 hB1 HC1;obtain⟨k,W3,P3,out3,hk,rfl,hS3,hB3,hC3,hr,hx⟩:=hrel;by_cases hlt:k<i
    ·have hlt':(k:Int)<i:=by omega
     obtain⟨j,hj⟩:∃j,i - k=j+1:=⟨i - k - 1,by omega⟩;have hj':i - (k+1)=j:=by omega
     rw[hj] at hC3;have hC4:Hid (C=((dA j (k+1) (fx 7 k W3.σ).1).1,out3++((fx 7 k W3.σ).2++(dA j (k+1) (fx 7 k W3.σ).1).2))):=I hC3.out;have hmu:Hid (ka W3.σ.s (W3.σ.core k).k ≤7):=I (Ae (Sc.core_ok hS3.out.safe.ok k).2);replace hj':=I hj';have g0:=hr.right.right.cell 0;have gl:=hr.right.right.lt;have pc:=(cu hr).2;have pl:=(cu hr).1;have HON:=I (AK sp W3.σ _ _ hr.p2 k);clear hC3 hj;go_wp2_with fail
     refine HON.out.mono ?_;rintro e w4 ⟨rfl,b4⟩;have h5:=(hr.below b4).new #[D G (W3.σ.acc k).page,D G (W3.σ.acc k).kind,vB (W3.σ.acc k).user] 77;have x5:=(hx.below b4).alloc (.cells #[D G (W3.σ.acc k).page,D G (W3.σ.acc k).kind,vB (W3.σ.acc k).user] 77);clear hr hx b4 HON g0 gl pc pl;generalize W3.σ.acc k=a4 at*
     go_upto_region 15 with fail;generalize w4.alloc _=w5 at*
     generalize w4.heap.size=Y4 at*
     go_loopg [10,11] 7 (fun jj t10 t11 wr=>∃(W':Wc) (P':List Mp) (out:List Ev) (Y:Nat) (a:Ac),t10= .pointer (M (Z Y 0 U))∧t11=vB (W'.σ.on k)∧Hid (W'.Ok P')∧Hid (W'.σ.cs.length=i∧W'.H.length=h0)∧Hid (ka W'.σ.s (W'.σ.core k).k ≤jj)∧
      Hid (C=((dA j (k+1) (fx jj k W'.σ).1).1,out++((fx jj k W'.σ).2++(dA j (k+1) (fx jj k W'.σ).1).2)))∧Has wr (aa Y #[D G a.page,D G a.kind,vB a.user] 77*(aE p sp W'.H W'.f W'.since*(ah sp W'.σ*(aa X1 #[.pointer (M (Z p 0 U))] 45*(fz O out*(aa F #[D G 0,D G 0] 33*R))))))∧Ext w wr)
     case atStart=>exact⟨W3,P3,out3,Y4,a4,rfl,rfl,hS3,hB3,hmu,hC4,h5,x5⟩
     case round=>
      clear h5 x5 hS3 hB3 hmu hC4;obtain⟨W5,P5,out5,Y5,a5,rfl,rfl,hS5,hB5,hmu5,hC5,hr,hx⟩:=hrel;cases hq:W5.σ.on k with
      |false=>
       have HC6:Hid (C=((dA (i - (k+1)) (k+1) W5.σ).1,out5++(dA (i - (k+1)) (k+1) W5.σ).2)):=I (by
        have a1:=hC5.out;rw[qz hq] at a1;rw[hj'.out,a1];rfl)
       clear hq hC5 hmu5;go_wp2_with fail
       go_roundw
       case rel=>exact⟨k+1,W5,P5,out5,by omega,by go_num,hS5,hB5,HC6,hr.right,hx⟩
       case measure=>simp[intOf];omega
      |true=>
       have hk5:k<W5.σ.cs.length:=by rw[hB5.out.1];exact hlt
       obtain⟨jj,rfl⟩:∃jj,gk=jj+1:=⟨gk - 1,by
        have a1:=hmu5.out;have a2:=vd (s:=W5.σ.s) (show(W5.σ.core k).k.on =true by rw[←yh hk5];exact hq);omega⟩
       have hmu6:Hid (ka (W5.act (bO k)).1.σ.s ((W5.act (bO k)).1.σ.core k).k ≤jj):=I (by
        have a1:=wk hS5.out.safe hk5 hq;have a2:=hmu5.out;have a3:ka (W5.act (bO k)).1.σ.s ((W5.act (bO k)).1.σ.core k).k <ka W5.σ.s (W5.σ.core k).k :=a1;omega)
       have HC6:Hid (C=((dA j (k+1) (fx jj k (W5.act (bO k)).1.σ).1).1,(out5++[(W5.act (bO k)).2])++((fx jj k (W5.act (bO k)).1.σ).2++(dA j (k+1) (fx jj k (W5.act (bO k)).1.σ).1).2))):=I (by
        have a1:=hC5.out;rw[sb hq] at a1;rw[a1,List.append_assoc];rfl)
       have hol:out5.length≤32:=by
        have a1:=hLen.out;have a2:=congrArg Prod.snd hC5.out;dsimp only at a2;rw[a2,ag] at a1;omega
       have HF:=I (fun w h=>xI p sp X1 O W5 P5 (bO k) hS5.out (wl k (by omega)) (by rw[hB5.out.2];exact HH.out) out5 (by omega) (aa F #[D G 0,D G 0] 33*(aa Y5 #[D G a5.page,D G a5.kind,vB a5.user] 77*R)) w h);have HS6:Hid ((W5.act (bO k)).1.Ok (Safe.prevOf W5.σ P5 (bO k))):=I (hS5.out.act _);have HB6:Hid ((W5.act (bO k)).1.σ.cs.length=i∧(W5.act (bO k)).1.H.length=h0):=I ⟨(hS5.out.safe.n_act _).2.trans hB5.out.1,by rw[qx _ _ rc];exact hB5.out.2⟩;unfold Ev.val at HF;unfold bO at HF hmu6 HC6 HS6 HB6;dsimp only at HF;have h6:Has wr (aE p sp W5.H W5.f W5.since*(ah sp W5.σ*(aa X1 #[.pointer (M (Z p 0 U))] 45*(fz O out5*(aa F #[D G 0,D G 0] 33*(aa Y5 #[D G a5.page,D G a5.kind,vB a5.user] 77*R)))))):=hr.eq (by ac_rfl);clear hS5 hB5 hmu5 hC5 hr hk5 hq;generalize Wc.act W5 ⟨5,(k:Int),⟨0,0,0,0⟩,⟨0,0,ad⟩⟩=z at*
       obtain⟨W6,⟨ec,ef,⟨ea,eb,er⟩,ek⟩⟩:=z;dsimp only at*
       go_wp2_with fail
       refine(HF.out _ h6).mono ?_;rintro e w7 ⟨rfl,h7,x7⟩;have h8:Has _ (aa w7.heap.size #[D G ec,vB ef,D G ea,D G eb,D G er,vB ek] 72*(aa (w7.heap.size+1) #[D G 0,D G 0] 33*(aa Y5 #[D G a5.page,D G a5.kind,vB a5.user] 77*(aE p sp W6.H W6.f W6.since*(ah sp W6.σ*(aa X1 #[.pointer (M (Z p 0 U))] 45*(fz O (out5++[(⟨ec,ef,⟨ea,eb,er⟩,ek⟩:Ev)])*(aa F #[D G 0,D G 0] 33*R)))))))):=((h7.new #[D G ec,vB ef,D G ea,D G eb,D G er,vB ek] 72).new #[D G 0,D G 0] 33).eq (by simp only[an]<;>ac_rfl);have x8:=((hx.trans x7).alloc (.cells #[D G ec,vB ef,D G ea,D G eb,D G er,vB ek] 72)).alloc (.cells #[D G 0,D G 0] 33);clear h6 hx h7 x7 HF;go_upto_region 18 with fail;generalize (w7.alloc (.cells #[D G ec,vB ef,D G ea,D G eb,D G er,vB ek] 72)).alloc (.cells #[D G 0,D G 0] 33)=w8 at*
       generalize w7.heap.size+1=FX at*
       generalize w7.heap.size=V at*
       have f0:=h8.right.cell 0;have fl:=h8.right.lt;obtain⟨a0,a1,a2⟩:=h8.right.right.cells3;have al:=h8.right.right.lt;have h9:=h8.new #[D G a5.page,D G a5.kind,vB a5.user] 77;have x9:=x8.alloc (.cells #[D G a5.page,D G a5.kind,vB a5.user] 77);go_upto_region 16 with fail;generalize w8.alloc _=w9 at*
       generalize w8.heap.size=Y9 at*
       clear f0 fl a0 a1 a2 al h8 x8;have h10:Has w9 (aa Y9 #[D G a5.page,D G a5.kind,vB a5.user] 77*(aE p sp W6.H W6.f W6.since*(ah sp W6.σ*(aa X1 #[.pointer (M (Z p 0 U))] 45*(fz O (out5++[(⟨ec,ef,⟨ea,eb,er⟩,ek⟩:Ev)])*(aa F #[D G 0,D G 0] 33*R)))))):=(h9.eq (show _=aa V #[D G ec,vB ef,D G ea,D G eb,D G er,vB ek] 72*(aa FX #[D G 0,D G 0] 33*(aa Y5 #[D G a5.page,D G a5.kind,vB a5.user] 77*(aa Y9 #[D G a5.page,D G a5.kind,vB a5.user] 77*(aE p sp W6.H W6.f W6.since*(ah sp W6.σ*(aa X1 #[.pointer (M (Z p 0 U))] 45*(fz O (out5++[(⟨ec,ef,⟨ea,eb,er⟩,ek⟩:Ev)])*(aa F #[D G 0,D G 0] 33*R)))))))) by ac_rfl)).r3;clear h9;have g0:=h10.r3.cell 0;have gl:=h10.r3.lt;have pc:=(cu h10.right).2;have pl:=(cu h10.right).1;have HON:=I (AK sp W6.σ _ _ h10.right.p2 k);go_wp2_with fail
       refine HON.out.mono ?_;rintro e w10 ⟨rfl,b10⟩;have h11:=h10.below b10;have x11:=x9.below b10;clear h10 x9 b10 HON g0 gl pc pl;go_wp2_with fail
       go_roundg jj
       case measure=>omega
       case rel=>exact⟨W6,_,out5++[(⟨ec,ef,⟨ea,eb,er⟩,ek⟩:Ev)],Y9,a5,rfl,rfl,HS6,HB6,hmu6,HC6,h11,x11⟩
    ·obtain rfl:k=i:=by omega
     have HC6:Hid (C=(W3.σ,out3)):=I (by
      have a1:=hC3.out;rw[Nat.sub_self] at a1;rw[a1];show(W3.σ,out3++[])=_;rw[List.append_nil])
     obtain⟨A,c,h5⟩:=lH (hr.eq (show _=fz O out3*(aa F #[D G 0,D G 0] 33*(aE p sp W3.H W3.f W3.since*(ah sp W3.σ*(aa X1 #[.pointer (M (Z p 0 U))] 45*R)))) by ac_rfl));have h6:Has wr (aa F #[D G 0,D G 0] 33*(aa O #[.slice A out3.length c] 101*(aa X1 #[.pointer (M (Z p 0 U))] 45*(fu (.slice A out3.length c) out3*(aE p sp W3.H W3.f W3.since*(ah sp W3.σ*R)))))):=h5.eq (by ac_rfl);clear hC3 hr h5;obtain⟨c0,c1⟩:=h6.cells2;obtain⟨f0,f1⟩:=h6.frees2;have cl:=h6.lt;have o0:=h6.right.cell 0;have ol:=h6.right.lt;have hE:Hid (C.1=W3.σ∧C.2=out3):=I (by rw[HC6.out];exact⟨rfl,rfl⟩);clear HC6 hLen;go_wp2_with fail
     refine ay (fun wz=>Has wz (aa F #[D G 0,D G 0] 33*(aa O #[.slice A out3.length c] 101*(aa X1 #[.pointer (M (Z p 0 U))] 45*(fu (.slice A out3.length c) out3*(aE p sp W3.H W3.f W3.since*(ah sp W3.σ*R))))))∧Ext w wz) ⟨by first|(with_reducible exact h6)|(with_reducible exact h6.set2 _ _),aj⟩ ?_;rintro wz ⟨hz,xz⟩;exact a6 (db results78 rfl rfl (cI hz)) rfl ⟨A,c,W3,P3,by rw[hE.out.2];rfl,hS3.out,hE.out.1.symm,hB3.out.2,by rw[hE.out.2];exact hz.r3,xz⟩
set_option maxHeartbeats 20000000 in
theorem lL(d m:Nat)(σ:Sc)(told:List UInt8)(x:Stp)(hx:x.ok)(hm:m≤999998)(ht:told.length≤140000000000000)(R:ab)(HK:Keeps R)(w:af)(h:Has w (aG d m (M σ) told*R)):
  ax prog 46 #[.pointer (M (Z d 0 U)),.agg #[D G x.kind,D G x.core,D G x.m.page,D G x.m.size,D G x.m.frame,D G x.m.rights,D G x.a.page,D G x.a.kind,vB x.a.user]] w
   (cF (.tuple #[]) (aG d (m+1) (M (dx σ x).1) (told++(dx σ x).2)*R) w):=by
 obtain⟨a,v,p,sp,W,P,ha,hv,rfl,hW,hmm,h⟩:=eO h;have HD:=I (fun R w h=>Bl p sp W P x hW hx (by omega) R w h);have hW2:=hW.act x;have hH2:(W.act x).1.H.length≤m+1:=by have:=Wc.hist_len W x;omega
 have hfit:=lp hW.safe x;unfold dx;rw[show(W.σ.act x).1=(W.act x).1.σ from rfl,show(W.σ.act x).2=(W.act x).2 from rfl];replace hfit:(W.act x).2.fit:=hfit;unfold Ev.val at HD;have h1:=h;unfold ny at h1;generalize Safe.prevOf W.σ P x=P2 at*
 obtain⟨σ1,H1,f1,S1⟩:=W;generalize Wc.act ⟨σ1,H1,f1,S1⟩ x=z at*
 obtain⟨W2,e2⟩:=z;have HSH:=I (fun(w':af) (R':ab) (h:Has w' (ny d p sp a v told W2 R'))=>fD ha hv hW2 hH2 h);have HE:=I (fun R hK w h=>uB d (m+1) (M W2.σ) told e2 hfit ht R hK w h);unfold ny at HSH;unfold Ev.val at HE;obtain⟨out,ho⟩:∃z,told++bN (ow e2)=z:=⟨_,rfl⟩;dsimp only at*
 rw[ho] at HE⊢;obtain⟨ec,ef,⟨ea,eb,er⟩,ek⟩:=e2;obtain⟨xk,xc,⟨xp,xs,xf,xr⟩,⟨ap,ak,au⟩⟩:=x;dsimp only at*
 have h2:Has _ (aE p sp H1 f1 S1*(ah sp σ1*(aa d #[a,v,.pointer (M (Z p 0 U))] 47*(aa w.heap.size #[D G xk,D G xc,D G xp,D G xs,D G xf,D G xr,D G ap,D G ak,vB au] 79*(bt 5 1 v told.length (Lib.byteCells told)*R))))):=(h1.new #[D G xk,D G xc,D G xp,D G xs,D G xf,D G xr,D G ap,D G ak,vB au] 79).eq (by
  show _=aE p sp H1 f1 S1*(ah sp σ1*(aa d #[a,v,jK p] 47*_));ac_rfl)
 have x2:=(Ext.refl w).alloc (.cells #[D G xk,D G xc,D G xp,D G xs,D G xf,D G xr,D G ap,D G ak,vB au] 79);clear hW hx hmm hW2 hH2 hfit h h1 ho ha hv;go_enter func46,ntmps46;go_upto_region 1 with fail;generalize w.alloc _=w1 at*
 generalize w.heap.size=S0 at*
 have HC:=I (fun(w':af) (h:Has w' (aa d #[a,v,.pointer (M (Z p 0 U))] 47*(aa S0 #[D G xk,D G xc,D G xp,D G xs,D G xf,D G xr,D G ap,D G ak,vB au] 79*(bt 5 1 v told.length (Lib.byteCells told)*R))))=>(by
  obtain⟨c0,c1,c2,c3,c4,c5,c6,c7,c8⟩:=h.right.cells9;exact⟨h.cell 2,c0,c1,c2,c3,c4,c5,c6,c7,c8⟩:w'.cell? (Z d 2 U)=M (.pointer (M (Z p 0 U)))∧w'.cell? (Z S0 0 U)=M (D G xk)∧w'.cell? (Z S0 1 U)=M (D G xc)∧w'.cell? (Z S0 2 U)=M (D G xp)∧w'.cell? (Z S0 3 U)=M (D G xs)∧w'.cell? (Z S0 4 U)=M (D G xf)∧w'.cell? (Z S0 5 U)=M (D G xr)∧w'.cell? (Z S0 6 U)=M (D G ap)∧w'.cell? (Z S0 7 U)=M (D G ak)∧w'.cell? (Z S0 8 U)=M (vB au)))
 go_cut [4,5] from 6 to 14 (fun s4 s5 wx=>∃V F:Nat,s4= .pointer (M (Z V 0 U))∧s5= .pointer (M (Z F 0 U))∧Has wx (aE p sp W2.H W2.f W2.since*(ah sp W2.σ*(aa V #[D G ec,vB ef,D G ea,D G eb,D G er,vB ek] 72*(aa F #[D G 0,D G 0] 33*(aa d #[a,v,.pointer (M (Z p 0 U))] 47*(aa S0 #[D G xk,D G xc,D G xp,D G xs,D G xf,D G xr,D G ap,D G ak,vB au] 79*(bt 5 1 v told.length (Lib.byteCells told)*R)))))))∧Ext w wx)
 case first=>
  clear HE HSH;have hh:=h2.drew;have xx:=x2.drew;clear h2 x2;refine wp_region_held_drew (S:=fun w'=>w'.cell? (Z d 2 U)=M (.pointer (M (Z p 0 U)))∧w'.cell? (Z S0 0 U)=M (D G xk)∧w'.cell? (Z S0 1 U)=M (D G xc)∧w'.cell? (Z S0 2 U)=M (D G xp)∧w'.cell? (Z S0 3 U)=M (D G xs)∧w'.cell? (Z S0 4 U)=M (D G xf)∧w'.cell? (Z S0 5 U)=M (D G xr)∧w'.cell? (Z S0 6 U)=M (D G ap)∧w'.cell? (Z S0 7 U)=M (D G ak)∧w'.cell? (Z S0 8 U)=M (vB au)) (by kernel_rfl) (HC.out _ hh.right.right) (fun hHeld=> ?_);generalize w1.drew=w2 at*
  refine wpAnyH_take (i:=0) (v:= ?_) rfl (by kernel_rfl) (by kernel_rfl) (by kernel_rfl) (fun _ _ _ h=>h) (Or.inl ⟨by kernel_rfl,?_⟩) hHeld ?_;rotate_left;focus (intro wS hSw;(try dsimp only at hSw);go_simp;first|done|with_reducible rfl)
  try go_simp
  refine wpAnyH_take (i:=1) (v:= ?_) rfl (by kernel_rfl) (by kernel_rfl) (by kernel_rfl) (fun _ _ _ h=>h) (Or.inl ⟨by kernel_rfl,?_⟩) hHeld ?_;rotate_left;focus (intro wS hSw;(try dsimp only at hSw);go_simp;first|done|with_reducible rfl)
  try go_simp
  refine wpAnyH_take (i:=2) (v:= ?_) rfl (by kernel_rfl) (by kernel_rfl) (by kernel_rfl) (fun _ _ _ h=>h) (Or.inl ⟨by kernel_rfl,?_⟩) hHeld ?_;rotate_left;focus (intro wS hSw;(try dsimp only at hSw);go_simp;first|done|with_reducible rfl)
  try go_simp
  refine wpAnyH_take (i:=3) (v:= ?_) rfl (by kernel_rfl) (by kernel_rfl) (by kernel_rfl) (fun _ _ _ h=>h) (Or.inl ⟨by kernel_rfl,?_⟩) hHeld ?_;rotate_left;focus (intro wS hSw;(try dsimp only at hSw);go_simp;first|done|with_reducible rfl)
  try go_simp
  refine wpAnyH_take (i:=4) (v:= ?_) rfl (by kernel_rfl) (by kernel_rfl) (by kernel_rfl) (fun _ _ _ h=>h) (Or.inl ⟨by kernel_rfl,?_⟩) hHeld ?_;rotate_left;focus (intro wS hSw;(try dsimp only at hSw);go_simp;first|done|with_reducible rfl)
  try go_simp
  iterate 6 all_goals (first
   |(refine wpAnyH_done (by decide+kernel) ?_ _)
   |((first
    |(refine wpAnyH_ready (rs:=[5,9,10]) (by decide+kernel) (by simp) (AllReadyH.cons rfl (fun K hK=> ?_) (AllReadyH.cons rfl (fun K hK=> ?_) (AllReadyH.cons rfl (fun K hK=> ?_) AllReadyH.nil))))|(refine wpAnyH_ready (rs:=[5,9]) (by decide+kernel) (by simp) (AllReadyH.cons rfl (fun K hK=> ?_) (AllReadyH.cons rfl (fun K hK=> ?_) AllReadyH.nil)))|(refine wpAnyH_ready (rs:=[5,10]) (by decide+kernel) (by simp) (AllReadyH.cons rfl (fun K hK=> ?_) (AllReadyH.cons rfl (fun K hK=> ?_) AllReadyH.nil)))|(refine wpAnyH_ready (rs:=[9,10]) (by decide+kernel) (by simp) (AllReadyH.cons rfl (fun K hK=> ?_) (AllReadyH.cons rfl (fun K hK=> ?_) AllReadyH.nil)))|(refine wpAnyH_ready (rs:=[5]) (by decide+kernel) (by simp) (AllReadyH.cons rfl (fun K hK=> ?_) AllReadyH.nil))|(refine wpAnyH_ready (rs:=[9]) (by decide+kernel) (by simp) (AllReadyH.cons rfl (fun K hK=> ?_) AllReadyH.nil))|(refine wpAnyH_ready (rs:=[10]) (by decide+kernel) (by simp) (AllReadyH.cons rfl (fun K hK=> ?_) AllReadyH.nil))|(refine wpAnyH_ready (rs:=[11]) (by decide+kernel) (by simp) (AllReadyH.cons rfl (fun K hK=> ?_) AllReadyH.nil))|(refine wpAnyH_ready (rs:=[12]) (by decide+kernel) (by simp) (AllReadyH.cons rfl (fun K hK=> ?_) AllReadyH.nil)))<;>
    first
     |((first|(have h4:=hh.up2;rw[if_pos (by rfl)];refine wp_store_mid 72 (.tmp 4) (.tmp 13) rfl _ 0 #[D G ec,vB ef,D G ea,D G eb,D G er,vB ek] rfl rfl (oE h4 rfl) (by kernel_rfl) (by with_unfolding_all rfl) ?_)|(have h4:=hh.up3;rw[if_pos (by rfl)];refine wp_store_mid 72 (.tmp 4) (.tmp 13) rfl _ 0 #[D G ec,vB ef,D G ea,D G eb,D G er,vB ek] rfl rfl (oE h4 rfl) (by kernel_rfl) (by with_unfolding_all rfl) ?_));go_simp;obtain⟨h5,x5⟩:=AM h4 xx (D G ec) (vB ef) (D G ea) (D G eb) (D G er) (vB ek);replace h5:=h5.rot3;((first|(with_reducible refine hK.out _ _ (HC.out _ h5.right.right) (fun hHeld=> ?_))|(with_reducible refine hK.out _ _ (HC.out _ h5.r3) (fun hHeld=> ?_))|(with_reducible refine hK.out _ _ (HC.out _ h5.right.r3) (fun hHeld=> ?_)));clear hK K);replace hh:=h5;replace xx:=x5;clear h4 h5 x5;generalize World.setCells _ _ _ _=wn at*)
     |((first|(have h4:=hh.up2;rw[if_pos (by rfl)];refine wp_store_mid 33 (.tmp 5) (.tmp 14) rfl _ 0 #[D G 0,D G 0] rfl rfl (oE h4 rfl) (by kernel_rfl) (by with_unfolding_all rfl) ?_)|(have h4:=hh.up3;rw[if_pos (by rfl)];refine wp_store_mid 33 (.tmp 5) (.tmp 14) rfl _ 0 #[D G 0,D G 0] rfl rfl (oE h4 rfl) (by kernel_rfl) (by with_unfolding_all rfl) ?_));go_simp;obtain⟨h5,x5⟩:=AN h4 xx (D G 0) (D G 0);replace h5:=h5.rot3;((first|(with_reducible refine hK.out _ _ (HC.out _ h5.right.right) (fun hHeld=> ?_))|(with_reducible refine hK.out _ _ (HC.out _ h5.r3) (fun hHeld=> ?_))|(with_reducible refine hK.out _ _ (HC.out _ h5.right.r3) (fun hHeld=> ?_)));clear hK K);replace hh:=h5;replace xx:=x5;clear h4 h5 x5;generalize World.setCells _ _ _ _=wn at*)
     |(go_simp;first|(have h5:=(hh.new #[D G 0,vB ad,D G 0,D G 0,D G 0,vB ad] 72).rot3;((first|(with_reducible refine hK.out _ _ (HC.out _ h5.right.right) (fun hHeld=> ?_))|(with_reducible refine hK.out _ _ (HC.out _ h5.r3) (fun hHeld=> ?_))|(with_reducible refine hK.out _ _ (HC.out _ h5.right.r3) (fun hHeld=> ?_)));clear hK K);replace hh:=h5;replace xx:=xx.alloc (.cells #[D G 0,vB ad,D G 0,D G 0,D G 0,vB ad] 72);clear h5;generalize World.alloc _ _=wn at*)|(have h5:=(hh.new #[D G 0,D G 0] 33).rot3;((first|(with_reducible refine hK.out _ _ (HC.out _ h5.right.right) (fun hHeld=> ?_))|(with_reducible refine hK.out _ _ (HC.out _ h5.r3) (fun hHeld=> ?_))|(with_reducible refine hK.out _ _ (HC.out _ h5.right.r3) (fun hHeld=> ?_)));clear hK K);replace hh:=h5;replace xx:=xx.alloc (.cells #[D G 0,D G 0] 33);clear h5;generalize World.alloc _ _=wn at*)|(go_wp2_with((with_reducible refine(HD.out _ _ hh).mono ?_);rintro e w5 ⟨rfl,h5,x5⟩);((first|(with_reducible refine hK.out _ _ (HC.out _ h5.right.right) (fun hHeld=> ?_))|(with_reducible refine hK.out _ _ (HC.out _ h5.r3) (fun hHeld=> ?_))|(with_reducible refine hK.out _ _ (HC.out _ h5.right.r3) (fun hHeld=> ?_)));clear hK K);replace hh:=h5;replace xx:=xx.trans x5;clear h5 x5;(refine wpAnyH_take (i:=6) (v:= ?_) rfl (by kernel_rfl) (by kernel_rfl) (by kernel_rfl) (fun _ _ _ h=>h) (Or.inl ⟨by kernel_rfl,?_⟩) hHeld ?_;rotate_left;focus (intro wS hSw;(try dsimp only at hSw);go_simp;first|done|with_reducible rfl);try go_simp);(refine wpAnyH_take (i:=7) (v:= ?_) rfl (by kernel_rfl) (by kernel_rfl) (by kernel_rfl) (fun _ _ _ h=>h) (Or.inl ⟨by kernel_rfl,?_⟩) hHeld ?_;rotate_left;focus (intro wS hSw;(try dsimp only at hSw);go_simp;first|done|with_reducible rfl);try go_simp);(refine wpAnyH_take (i:=8) (v:= ?_) rfl (by kernel_rfl) (by kernel_rfl) (by kernel_rfl) (fun _ _ _ h=>h) (Or.inl ⟨by kernel_rfl,?_⟩) hHeld ?_;rotate_left;focus (intro wS hSw;(try dsimp only at hSw);go_simp;first|done|with_reducible rfl);try go_simp))))
   |skip)
  all_goals
   go_wp2_with fail
   go_meet
   case rel=>first|exact⟨_,_,rfl,rfl,hh,xx⟩|exact⟨_,_,rfl,rfl,hh.eq (by ac_rfl),xx⟩
 case rest=>
  clear h2 x2 HD HC;obtain⟨V,F,rfl,rfl,h3,x3⟩:=hcut;have f0:=h3.r3.cell 0;have fl:=h3.r3.lt;obtain⟨e0,e1,e2,e3,e4,e5⟩:=h3.right.right.cells6;have el:=h3.right.right.lt;have h4:=HSH.out wc (aa V #[D G ec,vB ef,D G ea,D G eb,D G er,vB ek] 72*(aa F #[D G 0,D G 0] 33*(aa S0 #[D G xk,D G xc,D G xp,D G xs,D G xf,D G xr,D G ap,D G ak,vB au] 79*R))) (h3.eq (by
   show _=aE p sp W2.H W2.f W2.since*(ah sp W2.σ*(aa d #[a,v,.pointer (M (Z p 0 U))] 47*_));ac_rfl))
  clear h3 HSH;go_wp2_with fail
  (with_reducible refine(HE.out _ (((HK.star _).star _).star _) _ h4).mono ?_);rintro e w6 ⟨rfl,h6,x6⟩
  clear HE h4 e0 e1 e2 e3 e4 e5 el f0 fl;go_wp2_with fail
  go_end0
  exact⟨rfl,(h6.eq (show _=aa V #[D G ec,vB ef,D G ea,D G eb,D G er,vB ek] 72*(aa F #[D G 0,D G 0] 33*(aa S0 #[D G xk,D G xc,D G xp,D G xs,D G xf,D G xr,D G ap,D G ak,vB au] 79*(aG d (m+1) (M W2.σ) out*R))) by ac_rfl)).r3,x3.trans x6⟩
theorem o8{σ:Sc}{P:List Mp}(h:Safe σ P):bX (σ.s.frees.length:Nat)∧bX ((fi σ.s 0).length :Nat):=by
 have h1:=h.counts.1;have h2:=h.ok.s.small;exact⟨ce (by omega) (by omega),ce (by omega) (by omega)⟩
theorem tS{L:List Ev}{i:Nat}(hi:i<L.length){x:Ev}(hx:L[i]=x):gC (L.take (i+1))=gC (L.take i)++bN (ow x):=ov _ hi hx
theorem wm{L:List Ev}(h:∀e∈L,e.fit)(told:List UInt8)(i:Nat):(told++gC (L.take i)).length ≤told.length+64*L.length:=by
 refine qO (l:=told) (fun e=>bN (ow e)) 64 L i (fun x hx=> ?_);have h1:=ir (oA (h x hx));have h2:=oB x;omega
set_option maxHeartbeats 20000000 in
theorem zB(d m:Nat)(σ:Sc)(told:List UInt8)(hm:m≤999999)(ht:told.length≤130000000000000)(R:ab)(HK:Keeps R)(w:af)(h:Has w (aG d m (M σ) told*R)):
  ax prog 50 #[.pointer (M (Z d 0 U))] w (cF (.tuple #[]) (aG d m (M (fB σ).1) (told++l6 σ)*R) w):=by
 obtain⟨a,v,p,sp,W,P,ha,hv,rfl,hW,hmm,h⟩:=eO h;have HC:=I (fun R w h=>zA p sp W P hW (by omega) R w h);obtain⟨-,hfit⟩:=pC hW.safe;have hlen:=lK hW.safe.ok.few;have hH0:W.H.length≤m:=hmm;unfold ny at h;obtain⟨pl,p0⟩:=cu h;obtain⟨c0,c1,c2⟩:=h.right.right.cells3;have c3:w.cell? (Z d 2 U)=M (.pointer (M (Z p 0 U))):=c2;have cl:=h.right.right.lt;unfold l6;generalize hz:fB W.σ=z at*
 obtain⟨σ2,L⟩:=z;dsimp only at*
 obtain⟨n,hN⟩:∃n,L.length=n:=⟨_,rfl⟩;have HN:=I hN;have HF:=I hfit;rw[hN] at HC hlen;clear hW hmm c2 hN hz hfit;go_enter func50,ntmps50;go_wp2_with fail
 refine(HC.out _ _ h).mono ?_;rintro e w2 ⟨A,c,W2,P2,rfl,hW2,rfl,hH2,h2,x2⟩;have h3:=(fD (m:=m) ha hv hW2 (by omega) (show Has w2 (ny d p sp a v told W2 (fu (.slice A n c) L*R)) from h2.eq (by unfold ny;show _=_*(_*(aa d #[a,v,jK p] 47*_));ac_rfl))).new #[D G 0,D G 0] 33;have x3:=x2.alloc (.cells #[D G 0,D G 0] 33);clear h HC pl p0 c0 c1 c3 cl h2 x2 ha hv hH0 hH2 hW2;generalize W2.σ=σ2 at*
 go_upto_region 1 with fail;generalize w2.alloc _=w3 at*
 generalize w2.heap.size=F at*
 have f0:=h3.cell 0;have fl:=h3.lt;go_upto_region 3 with fail;have h4:Has w3 (aG d m (M σ2) (told++gC (L.take 0))*(fu (.slice A n c) L*(aa F #[D G 0,D G 0] 33*R))):=by
  rw[List.take_zero,show gC []=[] from rfl,List.append_nil];exact h3.eq (by ac_rfl)
 clear h3 f0 fl;go_wp2_with fail
 go_loopw [29] (fun t29 wr=>∃i:Nat,i≤n∧t29=D G i∧Has wr (aG d m (M σ2) (told++gC (L.take i))*(fu (.slice A n c) L*(aa F #[D G 0,D G 0] 33*R)))∧Ext w wr) (fun t29 _=>n - (intOf t29).toNat)
 case atStart=>exact⟨0,by omega,rfl,h4,x3⟩
 case round=>
  clear h4 x3;obtain⟨i,hi,rfl,hr,hx⟩:=hrel;have htl:(told++gC (L.take i)).length ≤140000000000000:=by
   have h1:=wm HF.out told i;have h2:=HN.out;omega
  by_cases hlt:i<n
  ·have hil:i<L.length:=by have:=HN.out;omega
   obtain⟨y,hy⟩:∃y,L[i]=y:=⟨_,rfl⟩;have hfit:y.fit:=HF.out y (hy▸List.getElem_mem hil);have HT:Hid ((told++gC (L.take i))++bN (ow y)=told++gC (L.take (i+1))):=I (by rw[tS hil hy,List.append_assoc]);obtain⟨g,off,rfl,gl,g0,g1,g2,g3,g4,g5⟩:=(vX (hr.eq (av _ _ _))).ev hil;rw[hy] at g0 g1 g2 g3 g4 g5;generalize told++gC (L.take i)=told2 at*
   obtain⟨told3,hT3⟩:∃z,told++gC (L.take (i+1))=z:=⟨_,rfl⟩;rw[hT3] at HT;replace hT3:=I hT3;have HE:=I (fun R hK w h=>uB d m (M σ2) told2 y hfit htl R hK w h);rw[HT.out] at HE;unfold Ev.val at HE;obtain⟨ec,ef,⟨ea,eb,er⟩,ek⟩:=y;dsimp only at*
   have hlt':(i:Int)<n:=by omega
   have hi0:(0:Int)≤i:=by omega
   have h5:Has _ (aG d m (M σ2) told2*(aa wr.heap.size #[D G ec,vB ef,D G ea,D G eb,D G er,vB ek] 72*(fu (.slice (M (Z g off U)) n c) L*(aa F #[D G 0,D G 0] 33*R)))):=(hr.new #[D G ec,vB ef,D G ea,D G eb,D G er,vB ek] 72).p2;have x5:=hx.alloc (.cells #[D G ec,vB ef,D G ea,D G eb,D G er,vB ek] 72);clear hr hx htl hy HT hfit;go_upto_region 6 with fail;generalize wr.alloc _=w5 at*
   generalize wr.heap.size=X at*
   clear gl g0 g1 g2 g3 g4 g5;obtain⟨e0,e1,e2,e3,e4,e5⟩:=h5.right.cells6;have el:=h5.right.lt;go_wp2_with fail
   (with_reducible refine(HE.out _ (((HK.star _).star _).star _) _ h5).mono ?_);rintro e w6 ⟨rfl,h6,x6⟩
   have h7:Has w6 (aG d m (M σ2) told3*(fu (.slice (M (Z g off U)) n c) L*(aa F #[D G 0,D G 0] 33*R))):=(h6.eq (av _ _ _)).right;have x7:=x5.trans x6;clear h5 x5 h6 x6 e0 e1 e2 e3 e4 e5 el HE;go_wp2_with fail
   go_roundw
   case rel=>exact⟨i+1,by omega,by go_num,by rw[hT3.out];exact h7,x7⟩
   case measure=>simp[intOf];omega
  ·obtain rfl:i=n:=by omega
   have hall:L.take i=L:=List.take_of_length_le (by rw[HN.out];exact Nat.le_refl _);rw[hall] at hr htl;obtain⟨told2,hT2⟩:∃z,told++gC L=z:=⟨_,rfl⟩;have HE:Hid (∀q:List UInt8,told++(gC L++q)=told2++q):=I (fun q=>by rw[←hT2,List.append_assoc]);rw[hT2] at hr htl;clear hT2 hall hlt hi HN HF hlen;obtain⟨a,v,p,sp,W,P,ha,hv,rfl,hW,hmm,hr⟩:=eO hr;obtain⟨k1,k2⟩:=o8 hW.safe;have hwf:=hW.safe.wf;have hok:∀x∈[Pt.s fR,.n (W.σ.s.frees.length:Nat),.n ((fi W.σ.s 0).length :Nat)],x.ok:=fun x hx=>by
    simp only[List.mem_cons,List.not_mem_nil,or_false] at hx;rcases hx with rfl|rfl|rfl
    ·show 4≤20;decide
    ·exact k1
    ·exact k2
   obtain⟨out,ho⟩:∃o,told2++bN [Pt.s fR,.n (W.σ.s.frees.length:Nat),.n ((fi W.σ.s 0).length :Nat)]=o:=⟨_,rfl⟩;have HS:=(fun R w hK h=>xY d (lT p) told2 [Pt.s fR,.n (W.σ.s.frees.length:Nat),.n ((fi W.σ.s 0).length :Nat)] hok (by simp) (by simp) htl R hK w h:∀R w,Keeps R→Has w (dG d (lT p) told2*R)→_);simp only[ho] at HS;simp only[List.map_cons,List.map_nil,List.length_cons,List.length_nil,Nat.reduceAdd,Pt.val,fR] at HS;replace HS:=I HS;have HOUT:=(HE.out _).trans ho;have HSH:=I (fun(w':af) (R':ab) (h:Has w' (dG d (lT p) out*(aE p sp W.H W.f W.since*(ah sp W.σ*R'))))=>qN hW hmm h);have HFR:=I (fun R w h=>zS sp W.σ R w h);have HTB:=I (fun R w h=>wL sp W.σ hwf R w h);have hp:=ul ha hv hr;clear ho HE hok k1 k2 ha hv hW hmm htl hwf hr;generalize (fi W.σ.s 0)=T at*
   obtain⟨nt,hnt⟩:∃n,T.length=n:=⟨_,rfl⟩;rw[hnt] at HS HTB;generalize W.σ.s.frees.length=nf at*
   generalize W.σ=σ at*
   clear hnt;replace HOUT:=I HOUT;go_upto_region 8 with fail;have hd:=hp.drew;have xd:=hx.drew;clear hp hx;have HCX:=I (fun(w':af) (t:List UInt8) (Q:ab) (h:Has w' (dG d (lT p) t*(aE p sp W.H W.f W.since*Q)))=>(⟨(um h).2,(cu h.right).2⟩:w'.cell? (Z d 2 U)=M (.pointer (M (Z p 0 U)))∧w'.cell? (Z p 0 U)=M (.pointer (M (Z sp 0 U)))));go_region_held3 (fun w'=>w'.cell? (Z d 2 U)=M (.pointer (M (Z p 0 U)))∧w'.cell? (Z p 0 U)=M (.pointer (M (Z sp 0 U))))
    (first|(with_reducible exact HCX.out _ _ _ hd)|(with_reducible exact HCX.out _ _ _ hT)|(with_reducible exact HCX.out _ _ _ (hTA.out _))|(with_reducible exact HCX.out _ _ _ hL)|go_keep)
    (first
     |(go_at_call 79;(first|(with_reducible refine(HFR.out _ _ hd.up2).mono ?_)|(with_reducible refine(HFR.out _ _ hT.up2).mono ?_));rintro e w5 ⟨rfl,hw⟩;replace hw:=hw.symm;subst hw)
     |(go_at_call 80;(with_reducible refine(HTB.out _ _ hd.up2).mono ?_);rintro e w5 ⟨A5,c5,rfl,h5,x5⟩;have hT:Has w5 (dG d (lT p) told2*(aE p sp W.H W.f W.since*(ah sp σ*(aq (.slice A5 nt c5) T*(fu (.slice A i c) L*(aa F #[D G 0,D G 0] 33*R)))))):=h5.eq (by ac_rfl);have xT:=xd.trans x5;have hTA:=I (fun(o:Obj)=>hT.alloc o))
     |(go_at_call 22;(refine(HS.out _ _ (((((HK.star _).star _).star _).star _).star _) hT).mono ?_);rintro e w6 ⟨rfl,hL,xL⟩))
   all_goals
    go_wp2_with fail
    go_end0
    exact⟨rfl,by rw[HOUT.out];exact(HSH.out _ _ hL).p2.right.p2.right.p2.right,xT.trans xL⟩
theorem si{w w':af}{R:ab}{e size n:Nat}{v:Value}{xs:List Value}(h:Has w R)(ho:w'.ownsRow w.heap.size e size v n xs)(hb:Below w.heap.size w w'):Has w' (bt e size v n xs*R):=
 (Has.rowNil (e:=e) (size:=size) h).rowGrown ho ⟨hb.os,hb.tape,hb.output,hb.size,fun k hk _=>hb.block k hk⟩ (.inr fun k hk=>(ho.lt k hk).1)
theorem ko(s:ByteArray):(s=tNew∨s=dI)∨(s=jX∨s=e6)∨(s=gx∨s=jd∨s=lY∨s=gy∨s=je∨s=jf)∨(s=jg∨s=fR)∨
  (s≠tNew∧s≠dI∧s≠jX∧s≠e6∧s≠gx∧s≠jd∧s≠lY∧s≠gy∧s≠je∧s≠jf∧s≠jg∧s≠fR):=by
 by_cases h1:s=tNew;· exact .inl (.inl h1)
 by_cases h2:s=dI;· exact .inl (.inr h2)
 by_cases h3:s=jX;· exact .inr (.inl (.inl h3))
 by_cases h4:s=e6;· exact .inr (.inl (.inr h4))
 by_cases h5:s=gx;· exact .inr (.inr (.inl (.inl h5)))
 by_cases h6:s=jd;· exact .inr (.inr (.inl (.inr (.inl h6))))
 by_cases h7:s=lY;· exact .inr (.inr (.inl (.inr (.inr (.inl h7)))))
 by_cases h8:s=gy;· exact .inr (.inr (.inl (.inr (.inr (.inr (.inl h8))))))
 by_cases h9:s=je;· exact .inr (.inr (.inl (.inr (.inr (.inr (.inr (.inl h9)))))))
 by_cases h10:s=jf;· exact .inr (.inr (.inl (.inr (.inr (.inr (.inr (.inr h10)))))))
 by_cases h11:s=jg;· exact .inr (.inr (.inr (.inl (.inl h11))))
 by_cases h12:s=fR;· exact .inr (.inr (.inr (.inl (.inr h12))))
 exact .inr (.inr (.inr (.inr ⟨h1,h2,h3,h4,h5,h6,h7,h8,h9,h10,h11,h12⟩)))
theorem fC{s:ByteArray}(l:List UInt8)(h:s≠⟨l.toArray⟩):(s.toList==l)=ad:=by
 cases hb:s.toList==l with
 |false=>rfl
 |true=>
  refine absurd (WideShapes.bytes_inj ?_) h;rw[ByteArray.toList_eq] at hb;exact eq_of_beq hb
theorem tT{s t:ByteArray}(h:s≠t):(s.toList==t.toList)=ad:=by
 cases hb:s.toList==t.toList with
 |false=>rfl
 |true=>
  refine absurd (WideShapes.bytes_inj ?_) h;rw[ByteArray.toList_eq,ByteArray.toList_eq] at hb;exact eq_of_beq hb
theorem yw(s:ByteArray)(w:af):ax prog 21 #[.string s] w (Same (D G (bu s)) w):=by
 rcases ko s with (rfl|rfl)|(rfl|rfl)|(rfl|rfl|rfl|rfl|rfl|rfl)|(rfl|rfl)|⟨h1,h2,h3,h4,h5,h6,h7,h8,h9,h10,h11,h12⟩
 ·(rw[show bu tNew=2 by decide];unfold tNew;go_enter func21,ntmps21;go_wp2;go_ret;exact⟨rfl,rfl⟩)
 ·(rw[show bu dI=2 by decide];unfold dI;go_enter func21,ntmps21;go_wp2;go_ret;exact⟨rfl,rfl⟩)
 ·(rw[show bu jX=4 by decide];unfold jX;go_enter func21,ntmps21;go_wp2;go_ret;exact⟨rfl,rfl⟩)
 ·(rw[show bu e6=4 by decide];unfold e6;go_enter func21,ntmps21;go_wp2;go_ret;exact⟨rfl,rfl⟩)
 ·(rw[show bu gx=1 by decide];unfold gx;go_enter func21,ntmps21;go_wp2;go_ret;exact⟨rfl,rfl⟩)
 ·(rw[show bu jd=1 by decide];unfold jd;go_enter func21,ntmps21;go_wp2;go_ret;exact⟨rfl,rfl⟩)
 ·(rw[show bu lY=1 by decide];unfold lY;go_enter func21,ntmps21;go_wp2;go_ret;exact⟨rfl,rfl⟩)
 ·(rw[show bu gy=1 by decide];unfold gy;go_enter func21,ntmps21;go_wp2;go_ret;exact⟨rfl,rfl⟩)
 ·(rw[show bu je=1 by decide];unfold je;go_enter func21,ntmps21;go_wp2;go_ret;exact⟨rfl,rfl⟩)
 ·(rw[show bu jf=1 by decide];unfold jf;go_enter func21,ntmps21;go_wp2;go_ret;exact⟨rfl,rfl⟩)
 ·(rw[show bu jg=0 by decide];unfold jg;go_enter func21,ntmps21;go_wp2;go_ret;exact⟨rfl,rfl⟩)
 ·(rw[show bu fR=0 by decide];unfold fR;go_enter func21,ntmps21;go_wp2;go_ret;exact⟨rfl,rfl⟩)
 ·have hw:bu s= -1:=by simp only[bu,h1,h2,h3,h4,h5,h6,h7,h8,h9,h10,h11,h12,or_self,if_false]
  rw[hw];replace h1:=fC [110,101,119] h1;replace h2:=fC [112,114,111,116,101,99,116] h2;replace h3:=fC [109,97,112] h3;replace h4:=fC [97,99,99,101,115,115] h4;replace h5:=fC [117,110,109,97,112] h5;replace h6:=fC [119,97,108,107] h6;replace h7:=fC [97,99,107] h7;replace h8:=fC [101,118,105,99,116] h8;replace h9:=fC [102,105,110,100] h9;replace h10:=fC [107,101,112,116] h10;replace h11:=fC [108,105,115,116] h11;replace h12:=fC [99,97,108,109] h12;clear hw;go_enter func21,ntmps21;go_wp2;go_ret;exact⟨rfl,rfl⟩
theorem yx(w:af):PredAtRunes prog 19 #[] (fun x=>x==32) w:=fun W r _ _=>by
 unfold FnGives;by_cases h1:r=32
 ·subst h1
  go_enter func19,ntmps19;go_wp2;go_ret;exact⟨rfl,0,rfl⟩
 ·have z1:((r:Int)==32)=ad:=by simp;omega
  have z2:(r==32)=ad:=by simpa using h1
  show ax _ _ _ _ fun e w'=>e=Ending.returned (vB (r==32))∧_;rw[z2];go_enter func19,ntmps19;go_wp2;go_ret;exact⟨rfl,0,rfl⟩
theorem lM:∀(l:List ByteArray) (s:ByteArray) (ns:List Int) (n:Int),dz l=M ns→iZ s=M n→dz (l++[s])=M (ns++[n])
 | [],s,ns,n,h,h2=>by
  injection h with h
  subst h;simp[dz,h2]
 |x::l,s,ns,n,h,h2=>by
  unfold dz at h;cases hx:iZ x with
  |none=>rw[hx] at h;cases h
  |some k=>
   rw[hx] at h;cases hl:dz l with
   |none=>rw[hl] at h;cases h
   |some ms=>
    rw[hl] at h;injection h with h
    subst h;have:=lM l s ms n hl h2;simp[dz,hx,this]
theorem lN:∀{l:List ByteArray} {s:ByteArray},s∈l→iZ s=U→dz l=U
 | [],_,h,_=>by cases h
 |x::l,s,h,h2=>by
  unfold dz;rcases List.mem_cons.1 h with rfl|h
  ·rw[h2]
  ·cases iZ x with
   |none=>rfl
   |some k=>rw[lN h h2]
theorem nx:∀{l:List ByteArray} {ns:List Int},dz l=M ns→ns.length=l.length
 | [],ns,h=>by injection h with h;subst h;rfl
 |x::l,ns,h=>by
  unfold dz at h;cases hx:iZ x with
  |none=>rw[hx] at h;cases h
  |some k=>
   rw[hx] at h;cases hl:dz l with
   |none=>rw[hl] at h;cases h
   |some ms=>
    rw[hl] at h;injection h with h
    subst h;simp[nx hl]
theorem qE{s:ByteArray}{n:Int}(h:iZ s=M n):0≤n∧n≤100000000:=by
 unfold iZ at h;split at h
 ·split at h
  ·cases h
  ·rename_i hc
   injection h with h
   subst h;omega
 ·cases h
theorem kT:∀{l:List ByteArray} {ns:List Int},dz l=M ns→∀n∈ns,0≤n∧n≤100000000
 | [],ns,h=>by injection h with h;subst h;intro n hn;cases hn
 |x::l,ns,h=>by
  unfold dz at h;cases hx:iZ x with
  |none=>rw[hx] at h;cases h
  |some k=>
   rw[hx] at h;cases hl:dz l with
   |none=>rw[hl] at h;cases h
   |some ms=>
    rw[hl] at h;injection h with h
    subst h;intro n hn;rcases List.mem_cons.1 hn with rfl|hn
    ·exact qE hx
    ·exact kT hl n hn
def zC(w:af)(e:Ending)(w':af):Prop:=∃(k:Int) (T:TypeId) (p:a7),e= .returned (.tuple #[D G k,.iface T (.pointer (M p))])∧Below w.heap.size w w'
theorem wo(s:ByteArray)(hs:s.size≤281474976710656)(v:Int)(h:Lib.atoiAll s.data.toList= .ok v)(w:af):ax prog 41 #[.string s] w (Pure (.tuple #[D G v,.nilIface]) w):=by
 refine(lg s (by omega) v h w).mono ?_;rintro e w' ⟨rfl,rfl|⟨t,rfl⟩⟩
 ·exact⟨rfl,Below.refl _ _⟩
 ·exact⟨rfl,Joins.below_bytesWorld _ _ _ _ (Nat.le_refl _)⟩
theorem wq(s:ByteArray)(hs:s.size≤281474976710656)(h:∀v,Lib.atoiAll s.data.toList≠ .ok v)(w:af)(hL:pE w):ax prog 41 #[.string s] w (zC w):=by
 obtain⟨_,⟨t1,p1,h1⟩,⟨t2,p2,h2⟩⟩:=hL;rcases ha:Lib.atoiAll s.data.toList with v|_|_
 ·exact absurd ha (h v)
 ·refine Calls.mono (Any.strconv_Atoi_syntax_var lF s hs ha t1 p1 w h1:ax prog 41 #[.string s] w _) ?_
  rintro e w' ⟨N,rfl,_,_,hb⟩;exact⟨_,_,_,rfl,hb⟩
 ·refine(iJ s hs ha t2 p2 w h2).mono ?_
  rintro e w' ⟨N,rfl,_,_,hb⟩;exact⟨_,_,_,rfl,hb⟩
def NumRes(R:ab)(l:List ByteArray)(w:af)(e:Ending)(w':af):Prop:=
 Ext w w'∧match dz l with
  |none=>e= .returned (.tuple #[.slice U 0 0,vB ad])∧Has w' R
  |some ns=>∃B k,e= .returned (.tuple #[.slice B ns.length k,vB true])∧Has w' (aq (.slice B ns.length k) ns*R)
theorem NumRes.no{R:ab}{l:List ByteArray}{w w':af}{s:ByteArray}(hs:s∈l)(hn:iZ s=U)(h:Has w' R)(x:Ext w w'):NumRes R l w (.returned (.tuple #[.slice U 0 0,vB ad])) w':=by
 unfold NumRes;rw[lN hs hn];exact⟨x,rfl,h⟩
theorem NumRes.yes{R:ab}{l:List ByteArray}{w w':af}{ns:List Int}{B:Option a7}{n k:Nat}(hn:dz l=M ns)(hl:l.length=n)(h:Has w' (bt 3 1 (.slice B n k) n (ns.map (D G))*R))(x:Ext w w'):NumRes R l w (.returned (.tuple #[.slice B n k,vB true])) w':=by
 unfold NumRes;rw[hn];have hl2:=nx hn;rw[hl] at hl2;subst hl2;exact⟨x,_,_,rfl,h⟩
set_option maxHeartbeats 8000000 in
theorem o9(A:Option a7)(c:Nat)(l:List ByteArray)(hsz:∀s∈l,s.size≤281474976710656)(hln:l.length≤1000000)(R:ab)(HK:Keeps R)(HR:∀w',Has w' R→Rd w' A l.length (l.map Value.string))(w:af)(h:Has w R):
  ax prog 20 #[.slice A l.length c] w (NumRes R l w):=by
 have hg:Has w (bt 3 1 (.slice U 0 0) 0 []*R):=Has.rowNil h;obtain⟨n,hN⟩:∃n,l.length=n:=⟨_,rfl⟩;have HN:=I hN;have HS:=I hsz;have HH:=I HR;rw[hN] at hln HH⊢;clear h hN hsz HR;go_enter func20,ntmps20;go_wp2_with fail
 go_loopw [4,11] (fun t4 t11 wr=>∃(i:Nat) (B:Option a7) (k:Nat) (ns:List Int),i≤n∧t11=D G i∧t4= .slice B i k∧Hid (dz (l.take i)=M ns)∧Has wr (bt 3 1 (.slice B i k) i (ns.map (D G))*R)∧Ext w wr) (fun _ t11 _=>n - (intOf t11).toNat)
 case atStart=>exact⟨0,U,0,[],by omega,rfl,rfl,I (by rw[List.take_zero];rfl),hg,Ext.refl w⟩
 case round=>
  clear hg;obtain⟨i,B,k,ns,hi,rfl,rfl,hns,hr,hx⟩:=hrel;by_cases hlt:i<n
  ·have hil:i<l.length:=by have:=HN.out;omega
   obtain⟨y,hy⟩:∃y,l[i]=y:=⟨_,rfl⟩;have hmem:y∈l:=hy▸List.getElem_mem hil;have hys:=HS.out y hmem;obtain⟨b,off,rfl,hb,hc⟩:=(HH.out wr hr.right).at_ (j:=i) (u:= .string y) (by simp[hil,hy]);have hlt':(i:Int)<n:=by omega
   have hi0:(0:Int)≤i:=by omega
   have HI:=I (fun v hv w h=>xU v hv w (HK w h));by_cases hok:∃v,Lib.atoiAll y.data.toList= .ok v
   ·obtain⟨v,hv⟩:=hok
    have HA:=I (wo y hys v hv);have hnb:iZ y=if v<0∨100000000<v∨Lib.itoa v≠y.data.toList then U else M v:=by unfold iZ;rw[hv]
    clear hv;go_wp2_with fail
    refine(HA.out _).mono ?_;rintro e w2 ⟨rfl,b2⟩;have h2:=hr.below b2;have x2:=hx.below b2;clear hr hx b2 hc hb HA;by_cases hv0:v<0
    ·have hnone:iZ y=U:=by rw[hnb,if_pos (.inl hv0)]
     clear hnb;go_wp2_with fail
     go_ret2
     exact NumRes.no hmem hnone h2.right x2
    ·by_cases hv1:100000000<v
     ·have hnone:iZ y=U:=by rw[hnb,if_pos (.inr (.inl hv1))]
      clear hnb;go_wp2_with fail
      go_ret2
      exact NumRes.no hmem hnone h2.right x2
     ·have hvi:bX v:=ce (by omega) (by omega)
      by_cases hit:Lib.itoa v=y.data.toList
      ·have hsome:iZ y=M v:=by rw[hnb,if_neg (by rintro(h|h|h)<;>first|exact hv0 h|exact hv1 h|exact h hit)]
       have hye:(⟨(Lib.itoa v).toArray⟩:ByteArray)=y:=by rw[hit]
       have HS2:Hid (dz (l.take (i+1))=M (ns++[v])):=I (by rw[List.take_add_one];simpa [hil,hy] using lM _ _ _ _ hns.out hsome);have HI2:=I (HI.out v hvi);rw[hye] at HI2;clear hnb hye hit hsome hy;go_wp2_with fail
       refine(HI2.out _ h2.right).mono ?_;rintro e w3 ⟨rfl,b3⟩;have h3:=h2.below b3;have x3:=x2.below b3;clear h2 x2 b3 HI2;go_wp2_with(at_builtin;refine a8 rfl _ _ 55 rfl underlying55 gK _ _ _ rfl (h3.alloc (.cells #[D G v] 3)) (Z w3.heap.size 0 U) 1 1 [D G v] rfl rfl (fj w3 (D G v) 3) ?c1 ?c2 ?c3 ?_)
       case c1=>intro u hu;rw[List.mem_singleton.1 hu];rfl
       case c2=>unfold maxLen;omega
       case c3=>omega
       intro v4 w4 h4 x4;have hf:∃A2 c2,v4= .slice A2 (i+1) c2:=by
        rcases h4.rowCases with ⟨_,hn,_⟩|⟨g,cap,cur,hv,_⟩
        ·omega
        ·exact⟨_,_,hv⟩
       obtain⟨A2,c2,rfl⟩:=hf;have x5:=(x3.alloc (.cells #[D G v] 3)).trans x4;clear h3 x3 x4;go_wp2_with fail
       go_roundw
       case rel=>exact⟨i+1,A2,c2,ns++[v],by omega,by go_num,rfl,HS2,by rw[List.map_append];exact h4,x5⟩
       case measure=>simp[intOf];omega
      ·have hnone:iZ y=U:=by rw[hnb,if_pos (.inr (.inr hit))]
       have HI2:=I (HI.out v hvi);have hne:(⟨(Lib.itoa v).toArray⟩:ByteArray)≠y:=fun he=>hit (by rw[←he]);generalize (⟨(Lib.itoa v).toArray⟩:ByteArray)=J at*
       replace hne:=tT hne;clear hnb hit;go_wp2_with fail
       refine(HI2.out _ h2.right).mono ?_;rintro e w3 ⟨rfl,b3⟩;have h3:=h2.below b3;have x3:=x2.below b3;clear h2 x2 b3 HI2;go_wp2_with fail
       go_ret2
       exact NumRes.no hmem hnone h3.right x3
   ·have hok':∀v,Lib.atoiAll y.data.toList≠ .ok v:=fun v hv=>hok ⟨v,hv⟩
    have HA:=I (fun w h=>wq y hys hok' w (HK w h));have hnone:iZ y=U:=by
     unfold iZ;split
     ·rename_i n hn;exact absurd hn (hok' n)
     ·rfl
    clear hok hok';go_wp2_with fail
    refine(HA.out _ hr.right).mono ?_;rintro e w2 ⟨k2,T2,p2,rfl,b2⟩;have h2:=hr.below b2;have x2:=hx.below b2;clear hr hx b2 hc hb HA;go_wp2_with fail
    go_ret2
    exact NumRes.no hmem hnone h2.right x2
  ·obtain rfl:i=n:=by omega
   have HE:Hid (dz l=M ns):=I (by rw[←hns.out,List.take_of_length_le (by rw[HN.out];exact Nat.le_refl _)]);clear hns;go_wp2_with fail
   go_ret2
   exact NumRes.yes HE.out HN.out hr hx
end Go.Proofs.YtmfheghbgihdmaaGreatDoor
