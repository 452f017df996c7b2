/- Contract of package space: ack. -/
import Derived.Test.YtmfheghbgihdmaaGreatScE
import Derived.Test.YtmfheghbgihdmaaGreatSpcG
import Derived.Test.YtmfheghbgihdmaaGreatCoreP
import Derived.Test.YtmfheghbgihdmaaGreatFrames3
import Derived.Test.YtmfheghbgihdmaaGreatPages2
namespace Go.Proofs.YtmfheghbgihdmaaGreat
open Go.Value renaming int→g,bool→I
open Go.IntKind renaming i64→o
open Option renaming none→B,some→D
open Bool renaming false→C,true→V
open Go.Addr renaming mk→F
open Go renaming bodyPost_ret→H,World→S,Value→U,Calls→W
open Go.Lib renaming hid→J
open List renaming getElem?_eq_getElem→K
open Go.Proofs.YtmfheghbgihdmaaGreat renaming Has→L,Ext→T
open Go.Proofs.YtmfheghbgihdmaaGreat.Cr renaming zero→N
open Go.Proofs.YtmfheghbgihdmaaGreat.Ms renaming new→O
open Tryz
open Go.RowKit
set_option maxRecDepth 100000
set_option maxHeartbeats 4000000 in
theorem xW(b:Nat)(σ:Sc)(k:Nat)(hok:σ.Ok)(hk:k<σ.cs.length)(R:ab)(w:S)(h:L w (aw b σ*R)):
  W prog 63 #[.pointer (D (F b 0 B)),g o k] w (cI (σ.ack k).2.val (aw b (σ.ack k).1*R) w):=by
 have hc:=Sc.core_ok hok k;have hat:=Safe.at_core hk;obtain⟨s,cs,td,wt,bz,gn⟩:=σ;obtain⟨y,hy,h⟩:=dz h;unfold co at h;have hk4:k<4:=by have:=hok.few;omega
 have hwy:jr wt k=wt k:=mZ hk4;have HTD:=J hok.told.1;have h0:=h.new #[g o 0,I C,g o 0,g o 0,g o 0,I C] 36;have x0:=(Ext.refl w).alloc (.cells #[g o 0,I C,g o 0,g o 0,g o 0,I C] 36);dsimp only at*
 cases hw:wt k with
 |false=>
  have e:Sc.ack ⟨s,cs,td,wt,bz,gn⟩ k=(⟨s,cs,td,wt,bz,gn⟩,.no 9):=by unfold Sc.ack;rw[if_pos hw]
  rw[e];rw[hw] at hwy;have HS:=J (fun(w':S) (R':ab) (h:L w' (co b ⟨s,cs,td,wt,bz,gn⟩ y R'))=>dR (σ:=⟨s,cs,td,wt,bz,gn⟩) hy h);unfold co at HS;have HN:=J (fun R w h=>vr y.sh td wt k R w h hwy);clear e hw hwy hok hat hc h;have h1:L _ (aI y.sh td wt*(aa b #[.pointer (D (F y.f 0 B)),g o 0,.slice y.A y.ps.length y.c,.pointer (D (F y.sh 0 B)),I bz,(.slice y.G gn.length y.d)] 114*(aa w.heap.size #[g o 0,I C,g o 0,g o 0,g o 0,I C] 36*(cj (.slice y.A y.ps.length y.c) y.ps*(ao (.slice y.G gn.length y.d) gn*(aU y.ps cs*(dn y.f s*R))))))):=h0.eq (by ac_rfl);clear h0;obtain⟨c0,c1,c2,c3,c4,c5⟩:=h1.right.cells6;have cl:=h1.right.lt;go_enter func63,ntmps63;go_wp2_with fail
  refine(HN.out _ _ h1).mono ?_;rintro e w2 ⟨rfl,h2,x2⟩;have h3:L _ (aa w.heap.size #[g o 0,I C,g o 0,g o 0,g o 0,I C] 36*(aa b #[.pointer (D (F y.f 0 B)),g o 0,.slice y.A y.ps.length y.c,.pointer (D (F y.sh 0 B)),I bz,(.slice y.G gn.length y.d)] 114*(cj (.slice y.A y.ps.length y.c) y.ps*(ao (.slice y.G gn.length y.d) gn*(aI y.sh td wt*(aU y.ps cs*(dn y.f s*(aa w2.heap.size #[g o 0,g o 0,g o 0,g o 0] 39*R)))))))):=(h2.new #[g o 0,g o 0,g o 0,g o 0] 39).eq (by ac_rfl);have x3:=(x0.trans x2).alloc (.cells #[g o 0,g o 0,g o 0,g o 0] 39);clear h1 h2 x0 x2 c0 c1 c2 c3 c4 c5 cl;go_upto_region 3 with fail;generalize w2.alloc _=w3 at*
  generalize w2.heap.size=M at*
  go_wp2_with fail
  refine(eN 9 _).mono ?_;rintro e w7 ⟨rfl,b7⟩;have h7:=h3.below b7;have x7:=x3.below b7;clear h3 x3 b7;obtain⟨e0,e1,e2,e3,e4,e5⟩:=h7.cells6;obtain⟨f0,f1,f2,f3,f4,f5⟩:=h7.frees6;have el:=h7.lt;go_wp2_with fail
  refine ak (fun wz=>L wz (aa w.heap.size #[g o 9,I C,g o 0,g o 0,g o 0,I C] 36*(aa b #[.pointer (D (F y.f 0 B)),g o 0,.slice y.A y.ps.length y.c,.pointer (D (F y.sh 0 B)),I bz,(.slice y.G gn.length y.d)] 114*(cj (.slice y.A y.ps.length y.c) y.ps*(ao (.slice y.G gn.length y.d) gn*(aI y.sh td wt*(aU y.ps cs*(dn y.f s*(aa M #[g o 0,g o 0,g o 0,g o 0] 39*R))))))))∧T w wz) ⟨h7.set6 _ _ _ _ _ _,ah⟩ ?_;rintro wz ⟨hz,xz⟩;exact H (aD results63 rfl (aN hz)) rfl ⟨rfl,(HS.out _ (aa M #[g o 0,g o 0,g o 0,g o 0] 39*R) hz.right).p2.right,xz⟩
 |true=>
  have hkp:k<y.ps.length:=by omega
  obtain⟨Q,eQ,eS⟩:=ke (K hkp) hat;have e:Sc.ack ⟨s,cs,td,wt,bz,gn⟩ k=if dY (cB wt k)=V then(⟨bx s gn,cs.set k ⟨Tl.drop (Sc.core ⟨s,cs,td,wt,bz,gn⟩ k).l td,(Sc.core ⟨s,cs,td,wt,bz,gn⟩ k).k.again 0⟩,td,cB wt k,C,[]⟩,⟨0,C,An.zero,V⟩)
    else(⟨s,cs.set k ⟨Tl.drop (Sc.core ⟨s,cs,td,wt,bz,gn⟩ k).l td,(Sc.core ⟨s,cs,td,wt,bz,gn⟩ k).k.again 0⟩,td,cB wt k,bz,gn⟩,.no 0):=by
   unfold Sc.ack;rw[if_neg (show¬wt k=C by rw[hw];simp)];rfl
  rw[e];clear e;generalize Sc.core ⟨s,cs,td,wt,bz,gn⟩ k=cc at*
  rw[hw] at hwy;have HY:=J (fun R w h=>tY y.sh td wt k R w h hwy);have HTO:=J (fun R w h'=>wj (y.ps[k]'hkp) cc.l 0 cc.k td hc.1 HTD.out R w h');obtain⟨bA,hA,lA,cA⟩:=iR h.right (K hkp);have hpk:=K hkp;rw[eQ] at h0;have hlen:y.ps.length=(cs.set k ⟨Tl.drop cc.l td,cc.k.again 0⟩).length :=by rw[List.length_set];exact hy
  have eS1:=eS ⟨Tl.drop cc.l td,cc.k.again 0⟩;generalize cs.set k ⟨Tl.drop cc.l td,cc.k.again 0⟩=cs' at*
  have hkl:(k:Int)<y.ps.length:=by omega
  generalize y.ps[k]=p at*
  obtain⟨yf,ysh,yA,yc,yps,yG,yd⟩:=y;dsimp only at*
  subst hA;have h1:L _ (aI ysh td wt*(aa b #[.pointer (D (F yf 0 B)),g o 0,.slice (D (F bA 0 B)) yps.length yc,.pointer (D (F ysh 0 B)),I bz,(.slice yG gn.length yd)] 114*(aa w.heap.size #[g o 0,I C,g o 0,g o 0,g o 0,I C] 36*(cj (.slice (D (F bA 0 B)) yps.length yc) yps*(ao (.slice yG gn.length yd) gn*(cy p cc.l 0 cc.k*(Q*(dn yf s*R)))))))):=h0.eq (by ac_rfl);have HSH:=J (fun(s':Ms) (bz':Bool) (gn':List Int) (yG':Option Addr) (yd':Nat) (w':S) (R':ab) (h:L w' (co b ⟨s',cs',td,cB wt k,bz',gn'⟩ ⟨yf,ysh,D (F bA 0 B),yc,yps,yG',yd'⟩ R'))=>dR (σ:=⟨s',cs',td,cB wt k,bz',gn'⟩) hlen h);unfold co at HSH;dsimp only at HSH;rw[eS1] at HSH;clear h h0 eQ eS eS1 hok hat hc hw hwy hlen hy hk hkp;have HO:=J (fun R w h=>oA ysh td (cB wt k) R w h);cases hov:dY (cB wt k) with
  |false=>
   rw[if_neg (by simp)];rw[hov] at HO;clear hov;obtain⟨c0,c1,c2,c3,c4,c5⟩:=h1.right.cells6;have cl:=h1.right.lt;go_enter func63,ntmps63;go_wp2_with fail
   refine(HY.out _ _ h1).mono ?_;rintro e w2 ⟨rfl,h2,x2⟩;rw[show((k:Int)).toNat =k from rfl] at h2;have h3:L _ (cy p cc.l 0 cc.k*(aa b #[.pointer (D (F yf 0 B)),g o 0,.slice (D (F bA 0 B)) yps.length yc,.pointer (D (F ysh 0 B)),I bz,(.slice yG gn.length yd)] 114*(cj (.slice (D (F bA 0 B)) yps.length yc) yps*(aa w2.heap.size #[g o td.page,g o td.size,g o td.frame,g o td.rights] 39*(aa w.heap.size #[g o 0,I C,g o 0,g o 0,g o 0,I C] 36*(ao (.slice yG gn.length yd) gn*(aI ysh td (cB wt k)*(Q*(dn yf s*R))))))))):=(h2.new #[g o td.page,g o td.size,g o td.frame,g o td.rights] 39).eq (by ac_rfl);have x3:=(x0.trans x2).alloc (.cells #[g o td.page,g o td.size,g o td.frame,g o td.rights] 39);clear h1 h2 x0 x2 c0 c1 c2 c3 c4 c5 cl lA cA HY;unfold Mp.val;go_upto_region 4 with fail;generalize w2.alloc _=w3 at*
   generalize w2.heap.size=M at*
   have HK:=J (fun(w':S) (P Q:ab) (h:L w' (P*(aa b #[.pointer (D (F yf 0 B)),g o 0,.slice (D (F bA 0 B)) yps.length yc,.pointer (D (F ysh 0 B)),I bz,(.slice yG gn.length yd)] 114*(cj (.slice (D (F bA 0 B)) yps.length yc) yps*(aa M #[g o td.page,g o td.size,g o td.frame,g o td.rights] 39*Q)))))=>(by
    obtain⟨b2,e2,l2,q2⟩:=iR h.right.right hpk;injection e2 with e2;injection e2 with e2
    subst e2;exact⟨h.right.cell 2,q2,h.r3.cell 0,h.r3.cell 1,h.r3.cell 2,h.r3.cell 3⟩:w'.cell? (F b 2 B)=D (.slice (D (F bA 0 B)) yps.length yc)∧w'.cell? (F bA k B)=D (.pointer (D (F p 0 B)))∧w'.cell? (F M 0 B)=D (g o td.page)∧w'.cell? (F M 1 B)=D (g o td.size)∧w'.cell? (F M 2 B)=D (g o td.frame)∧w'.cell? (F M 3 B)=D (g o td.rights)))
   have cl:=h3.right.lt;have ml:=h3.r3.lt;have hbl:bA<w3.heap.size:=by
    obtain⟨b2,e2,l2,q2⟩:=iR h3.right.right hpk;injection e2 with e2;injection e2 with e2
    subst e2;exact l2
   have hd:=h3.drew;have xd:=x3.drew;go_region_held3 (fun w'=>w'.cell? (F b 2 B)=D (.slice (D (F bA 0 B)) yps.length yc)∧w'.cell? (F bA k B)=D (.pointer (D (F p 0 B)))∧w'.cell? (F M 0 B)=D (g o td.page)∧w'.cell? (F M 1 B)=D (g o td.size)∧w'.cell? (F M 2 B)=D (g o td.frame)∧w'.cell? (F M 3 B)=D (g o td.rights)) (first|(with_reducible exact HK.out _ _ _ hd)|(with_reducible exact HK.out _ _ _ h5)|go_keep) (first|(go_at_call 109;(with_reducible refine(HTO.out _ _ hd).mono ?_);rintro e w5 ⟨rfl,h5,x5⟩))
   all_goals
    have h6:L w5 (aI ysh td (cB wt k)*(aa b #[.pointer (D (F yf 0 B)),g o 0,.slice (D (F bA 0 B)) yps.length yc,.pointer (D (F ysh 0 B)),I bz,(.slice yG gn.length yd)] 114*(aa w.heap.size #[g o 0,I C,g o 0,g o 0,g o 0,I C] 36*(cj (.slice (D (F bA 0 B)) yps.length yc) yps*(ao (.slice yG gn.length yd) gn*(cy p (Tl.drop cc.l td) 0 (cc.k.again 0)*(Q*(dn yf s*(aa M #[g o td.page,g o td.size,g o td.frame,g o td.rights] 39*R))))))))):=h5.eq (by ac_rfl);have x6:=xd.trans x5;clear hd xd h5 x5 h3 x3 HK HTO cl ml hbl;generalize Tl.drop cc.l td=l' at*
    generalize cc.k.again 0=k' at*
    obtain⟨c0,c1,c2,c3,c4,c5⟩:=h6.right.cells6;have cl:=h6.right.lt
   go_wp2_with fail
   refine(HO.out _ _ h6).mono ?_;rintro e w7 ⟨rfl,hwz⟩;subst hwz;have h7:L w5 (aa w.heap.size #[g o 0,I C,g o 0,g o 0,g o 0,I C] 36*(aa b #[.pointer (D (F yf 0 B)),g o 0,.slice (D (F bA 0 B)) yps.length yc,.pointer (D (F ysh 0 B)),I bz,(.slice yG gn.length yd)] 114*(cj (.slice (D (F bA 0 B)) yps.length yc) yps*(ao (.slice yG gn.length yd) gn*(aI ysh td (cB wt k)*((cy p l' 0 k'*Q)*(dn yf s*(aa M #[g o td.page,g o td.size,g o td.frame,g o td.rights] 39*R)))))))):=h6.eq (by ac_rfl);obtain⟨e0,e1,e2,e3,e4,e5⟩:=h7.cells6;obtain⟨f0,f1,f2,f3,f4,f5⟩:=h7.frees6;have el:=h7.lt;go_wp2_with fail
   refine ak (fun wz=>L wz (aa w.heap.size #[g o 0,I C,g o 0,g o 0,g o 0,I C] 36*(aa b #[.pointer (D (F yf 0 B)),g o 0,.slice (D (F bA 0 B)) yps.length yc,.pointer (D (F ysh 0 B)),I bz,(.slice yG gn.length yd)] 114*(cj (.slice (D (F bA 0 B)) yps.length yc) yps*(ao (.slice yG gn.length yd) gn*(aI ysh td (cB wt k)*((cy p l' 0 k'*Q)*(dn yf s*(aa M #[g o td.page,g o td.size,g o td.frame,g o td.rights] 39*R))))))))∧T w wz) ⟨by first|(with_reducible exact h7)|(with_reducible exact h7.set6 _ _ _ _ _ _),ah⟩ ?_;rintro wz ⟨hz,xz⟩;exact H (aD results63 rfl (aN hz)) rfl ⟨rfl,(HSH.out s bz gn yG yd _ (aa M #[g o td.page,g o td.size,g o td.frame,g o td.rights] 39*R) hz.right).p2.right,xz⟩
  |true=>
   rw[if_pos rfl];rw[hov] at HO;clear hov;obtain⟨c0,c1,c2,c3,c4,c5⟩:=h1.right.cells6;have cl:=h1.right.lt;go_enter func63,ntmps63;go_wp2_with fail
   refine(HY.out _ _ h1).mono ?_;rintro e w2 ⟨rfl,h2,x2⟩;rw[show((k:Int)).toNat =k from rfl] at h2;have h3:L _ (cy p cc.l 0 cc.k*(aa b #[.pointer (D (F yf 0 B)),g o 0,.slice (D (F bA 0 B)) yps.length yc,.pointer (D (F ysh 0 B)),I bz,(.slice yG gn.length yd)] 114*(cj (.slice (D (F bA 0 B)) yps.length yc) yps*(aa w2.heap.size #[g o td.page,g o td.size,g o td.frame,g o td.rights] 39*(aa w.heap.size #[g o 0,I C,g o 0,g o 0,g o 0,I C] 36*(ao (.slice yG gn.length yd) gn*(aI ysh td (cB wt k)*(Q*(dn yf s*R))))))))):=(h2.new #[g o td.page,g o td.size,g o td.frame,g o td.rights] 39).eq (by ac_rfl);have x3:=(x0.trans x2).alloc (.cells #[g o td.page,g o td.size,g o td.frame,g o td.rights] 39);clear h1 h2 x0 x2 c0 c1 c2 c3 c4 c5 cl lA cA HY;unfold Mp.val;go_upto_region 4 with fail;generalize w2.alloc _=w3 at*
   generalize w2.heap.size=M at*
   have HK:=J (fun(w':S) (P Q:ab) (h:L w' (P*(aa b #[.pointer (D (F yf 0 B)),g o 0,.slice (D (F bA 0 B)) yps.length yc,.pointer (D (F ysh 0 B)),I bz,(.slice yG gn.length yd)] 114*(cj (.slice (D (F bA 0 B)) yps.length yc) yps*(aa M #[g o td.page,g o td.size,g o td.frame,g o td.rights] 39*Q)))))=>(by
    obtain⟨b2,e2,l2,q2⟩:=iR h.right.right hpk;injection e2 with e2;injection e2 with e2
    subst e2;exact⟨h.right.cell 2,q2,h.r3.cell 0,h.r3.cell 1,h.r3.cell 2,h.r3.cell 3⟩:w'.cell? (F b 2 B)=D (.slice (D (F bA 0 B)) yps.length yc)∧w'.cell? (F bA k B)=D (.pointer (D (F p 0 B)))∧w'.cell? (F M 0 B)=D (g o td.page)∧w'.cell? (F M 1 B)=D (g o td.size)∧w'.cell? (F M 2 B)=D (g o td.frame)∧w'.cell? (F M 3 B)=D (g o td.rights)))
   have cl:=h3.right.lt;have ml:=h3.r3.lt;have hbl:bA<w3.heap.size:=by
    obtain⟨b2,e2,l2,q2⟩:=iR h3.right.right hpk;injection e2 with e2;injection e2 with e2
    subst e2;exact l2
   have hd:=h3.drew;have xd:=x3.drew;go_region_held3 (fun w'=>w'.cell? (F b 2 B)=D (.slice (D (F bA 0 B)) yps.length yc)∧w'.cell? (F bA k B)=D (.pointer (D (F p 0 B)))∧w'.cell? (F M 0 B)=D (g o td.page)∧w'.cell? (F M 1 B)=D (g o td.size)∧w'.cell? (F M 2 B)=D (g o td.frame)∧w'.cell? (F M 3 B)=D (g o td.rights)) (first|(with_reducible exact HK.out _ _ _ hd)|(with_reducible exact HK.out _ _ _ h5)|go_keep) (first|(go_at_call 109;(with_reducible refine(HTO.out _ _ hd).mono ?_);rintro e w5 ⟨rfl,h5,x5⟩))
   all_goals
    have h6:L w5 (aI ysh td (cB wt k)*(aa b #[.pointer (D (F yf 0 B)),g o 0,.slice (D (F bA 0 B)) yps.length yc,.pointer (D (F ysh 0 B)),I bz,(.slice yG gn.length yd)] 114*(aa w.heap.size #[g o 0,I C,g o 0,g o 0,g o 0,I C] 36*(cj (.slice (D (F bA 0 B)) yps.length yc) yps*(ao (.slice yG gn.length yd) gn*(cy p (Tl.drop cc.l td) 0 (cc.k.again 0)*(Q*(dn yf s*(aa M #[g o td.page,g o td.size,g o td.frame,g o td.rights] 39*R))))))))):=h5.eq (by ac_rfl);have x6:=xd.trans x5;clear hd xd h5 x5 h3 x3 HK HTO cl ml hbl;generalize Tl.drop cc.l td=l' at*
    generalize cc.k.again 0=k' at*
    obtain⟨c0,c1,c2,c3,c4,c5⟩:=h6.right.cells6;have cl:=h6.right.lt;go_wp2_with fail
    refine(HO.out _ _ h6).mono ?_;rintro e w7 ⟨rfl,hwz⟩;subst hwz;have h7:L w5 (dn yf (bx s (gn.take 0))*(ao (.slice yG gn.length yd) gn*(aa b #[.pointer (D (F yf 0 B)),g o 0,.slice (D (F bA 0 B)) yps.length yc,.pointer (D (F ysh 0 B)),I bz,(.slice yG gn.length yd)] 114*(aa w.heap.size #[g o 0,I C,g o 0,g o 0,g o 0,I C] 36*(cj (.slice (D (F bA 0 B)) yps.length yc) yps*(aI ysh td (cB wt k)*((cy p l' 0 k'*Q)*(aa M #[g o td.page,g o td.size,g o td.frame,g o td.rights] 39*R)))))))):=h6.eq (by(rw[show bx s (gn.take 0)=s from rfl];ac_rfl));have hgs:=lM h7.right;clear h6 c0 c1 c2 c3 c4 c5 cl HO;obtain⟨c0,c1,c2,c3,c4,c5⟩:=h7.right.right.cells6;have cl:=h7.right.right.lt;go_wp2_with fail
    go_loopw [42] (fun t wz=>∃(j:Nat),j≤gn.length∧t=g o j∧L wz (dn yf (bx s (gn.take j))*(ao (.slice yG gn.length yd) gn*(aa b #[.pointer (D (F yf 0 B)),g o 0,.slice (D (F bA 0 B)) yps.length yc,.pointer (D (F ysh 0 B)),I bz,(.slice yG gn.length yd)] 114*(aa w.heap.size #[g o 0,I C,g o 0,g o 0,g o 0,I C] 36*(cj (.slice (D (F bA 0 B)) yps.length yc) yps*(aI ysh td (cB wt k)*((cy p l' 0 k'*Q)*(aa M #[g o td.page,g o td.size,g o td.frame,g o td.rights] 39*R))))))))∧T w wz) (fun t _=>gn.length - (intOf t).toNat)
    case atStart=>exact⟨0,by omega,rfl,h7,x6⟩
    case round=>
     clear h7 x6 c0 c1 c2 c3 c4 c5 cl;obtain⟨j,hj,rfl,hz,hxz⟩:=hrel;obtain⟨c0,c1,c2,c3,c4,c5⟩:=hz.right.right.cells6;have cl:=hz.right.right.lt;by_cases hjl:j<gn.length
     ·obtain⟨bG,hG,lG,cG⟩:=db hz.right hjl
      subst hG;have et:gn.take (j+1)=gn.take j++[gn[j]]:=List.take_succ_eq_append_getElem hjl;have GF:=J (fun R w h=>wu yf (bx s (gn.take j)) R w h gn[j]);rw[←j0,←et] at GF;generalize gn[j]=v at*
      generalize (bx s (gn.take j)).has v=bb at*
      clear et;go_wp2_with fail
      refine(GF.out _ _ hz).mono ?_;rintro e w8 ⟨rfl,h8,x8⟩;go_wp2_with fail
      go_roundw
      case rel=>exact⟨j+1,by omega,by go_num,h8,hxz.trans x8⟩
      case measure=>simp[intOf];omega
     ·obtain rfl:j=gn.length:=by omega
      rw[List.take_length] at hz;have h8:L wr (aa b #[.pointer (D (F yf 0 B)),g o 0,.slice (D (F bA 0 B)) yps.length yc,.pointer (D (F ysh 0 B)),I bz,(.slice yG gn.length yd)] 114*(aa w.heap.size #[g o 0,I C,g o 0,g o 0,g o 0,I C] 36*(cj (.slice (D (F bA 0 B)) yps.length yc) yps*(aI ysh td (cB wt k)*((cy p l' 0 k'*Q)*(dn yf (bx s gn)*(aa M #[g o td.page,g o td.size,g o td.frame,g o td.rights] 39*(ao (.slice yG gn.length yd) gn*R)))))))):=hz.eq (by ac_rfl);clear hz c0 c1 c2 c3 c4 c5;obtain⟨c0,c1,c2,c3,c4,c5⟩:=h8.cells6;obtain⟨f0,f1,f2,f3,f4,f5⟩:=h8.frees6;have h9:L _ (aa b #[.pointer (D (F yf 0 B)),g o 0,.slice (D (F bA 0 B)) yps.length yc,.pointer (D (F ysh 0 B)),I C,(.slice B 0 0)] 114*(aa w.heap.size #[g o 0,I C,g o 0,g o 0,g o 0,I C] 36*(cj (.slice (D (F bA 0 B)) yps.length yc) yps*(aI ysh td (cB wt k)*((cy p l' 0 k'*Q)*(dn yf (bx s gn)*(aa M #[g o td.page,g o td.size,g o td.frame,g o td.rights] 39*(ao (.slice yG gn.length yd) gn*R)))))))):=(h8.set 4 (I C)).set 5 (.slice B 0 0);have x9:=(hxz.set (F b 4 B) (I C)).set (F b 5 B) (.slice B 0 0);go_upto_region 13 with fail;generalize (wr.setCell (F b 4 B) (I C)).setCell (F b 5 B) (.slice B 0 0)=w9 at*
      have h10:L w9 (aa w.heap.size #[g o 0,I C,g o 0,g o 0,g o 0,I C] 36*(aa b #[.pointer (D (F yf 0 B)),g o 0,.slice (D (F bA 0 B)) yps.length yc,.pointer (D (F ysh 0 B)),I C,(.slice B 0 0)] 114*(cj (.slice (D (F bA 0 B)) yps.length yc) yps*(aI ysh td (cB wt k)*((cy p l' 0 k'*Q)*(dn yf (bx s gn)*(aa M #[g o td.page,g o td.size,g o td.frame,g o td.rights] 39*(ao (.slice yG gn.length yd) gn*R)))))))):=h9.p2;clear h8 h9 hxz c0 c1 c2 c3 c4 c5 f0 f1 f2 f3 f4 f5 cl;obtain⟨e0,e1,e2,e3,e4,e5⟩:=h10.cells6;obtain⟨f0,f1,f2,f3,f4,f5⟩:=h10.frees6;have el:=h10.lt;have HNL:=J (fun(w':S) (h:L w' (aa b #[.pointer (D (F yf 0 B)),g o 0,.slice (D (F bA 0 B)) yps.length yc,.pointer (D (F ysh 0 B)),I C,(.slice B 0 0)] 114*(cj (.slice (D (F bA 0 B)) yps.length yc) yps*(aI ysh td (cB wt k)*((cy p l' 0 k'*Q)*(dn yf (bx s gn)*(aa M #[g o td.page,g o td.size,g o td.frame,g o td.rights] 39*(ao (.slice yG gn.length yd) gn*R))))))))=>HSH.out (bx s gn) C [] B 0 w' (aa M #[g o td.page,g o td.size,g o td.frame,g o td.rights] 39*(ao (.slice yG gn.length yd) gn*R)) ((Has.rowNil (e:=3) (size:=1) h).eq (show _=aa b #[.pointer (D (F yf 0 B)),g o 0,.slice (D (F bA 0 B)) yps.length yc,.pointer (D (F ysh 0 B)),I C,(.slice B 0 0)] 114*(cj (.slice (D (F bA 0 B)) yps.length yc) yps*(ao (.slice B 0 0) []*(aI ysh td (cB wt k)*(cy p l' 0 k'*Q*(dn yf (bx s gn)*(aa M #[g o td.page,g o td.size,g o td.frame,g o td.rights] 39*(ao (.slice yG gn.length yd) gn*R))))))) by(show bZ 3 1 (.slice B 0 0) 0 []*_=_;unfold ao;simp only[List.map_nil,List.length_nil];ac_rfl))));go_wp2_with fail
      refine ak (fun wz=>L wz (aa w.heap.size #[g o 0,I C,g o 0,g o 0,g o 0,I V] 36*(aa b #[.pointer (D (F yf 0 B)),g o 0,.slice (D (F bA 0 B)) yps.length yc,.pointer (D (F ysh 0 B)),I C,(.slice B 0 0)] 114*(cj (.slice (D (F bA 0 B)) yps.length yc) yps*(aI ysh td (cB wt k)*((cy p l' 0 k'*Q)*(dn yf (bx s gn)*(aa M #[g o td.page,g o td.size,g o td.frame,g o td.rights] 39*(ao (.slice yG gn.length yd) gn*R))))))))∧T w wz) ⟨h10.set6 _ _ _ _ _ _,ah⟩ ?_;rintro wz ⟨hz,xz⟩;exact H (aD results63 rfl (aN hz)) rfl ⟨rfl,((HNL.out _ hz.right).eq (show _=aa M #[g o td.page,g o td.size,g o td.frame,g o td.rights] 39*(ao (.slice yG gn.length yd) gn*(aw b ⟨bx s gn,cs',td,cB wt k,C,[]⟩*R)) by ac_rfl)).right.right,xz⟩
theorem sN{cs:List Cr}{k:Nat}{c:Cr}(h:cs[k]? =D c):cs.set k c=cs:=by
 refine List.ext_getElem? fun i=> ?_;rw[List.getElem?_set];split
 ·rename_i hki
  subst hki;split
  ·exact h.symm
  ·rename_i hn
   exact absurd (List.getElem?_eq_some_iff.1 h).1 hn
 ·rfl
set_option maxHeartbeats 4000000 in
theorem yt(b:Nat)(σ:Sc)(x:Stp)(hok:σ.Ok)(hq:σ.busy=C→dY σ.wait=V)(hx:x.ok)(R:ab)(w:S)(h:L w (aw b σ*R)):
  W prog 16 #[.pointer (D (F b 0 B)),.agg #[g o x.kind,g o x.core,g o x.m.page,g o x.m.size,g o x.m.frame,g o x.m.rights,g o x.a.page,g o x.a.kind,I x.a.user]] w (cI (σ.act x).2.val (aw b (σ.act x).1*R) w):=by
 have h0:L _ (aw b σ*(aa w.heap.size #[g o x.kind,g o x.core,g o x.m.page,g o x.m.size,g o x.m.frame,g o x.m.rights,g o x.a.page,g o x.a.kind,I x.a.user] 43*(aa (w.heap.size+1) #[g o 0,I C,g o 0,g o 0,g o 0,I C] 36*R))):=((h.new #[g o x.kind,g o x.core,g o x.m.page,g o x.m.size,g o x.m.frame,g o x.m.rights,g o x.a.page,g o x.a.kind,I x.a.user] 43).new #[g o 0,I C,g o 0,g o 0,g o 0,I C] 36).eq (by simp only[World.size_alloc];ac_rfl);have x0:=((Ext.refl w).alloc (.cells #[g o x.kind,g o x.core,g o x.m.page,g o x.m.size,g o x.m.frame,g o x.m.rights,g o x.a.page,g o x.a.kind,I x.a.user] 43)).alloc (.cells #[g o 0,I C,g o 0,g o 0,g o 0,I C] 36);clear h;have c0:=h0.right.cell 0;have xl:=h0.right.lt;by_cases hc:1≤x.kind∧x.kind≤3
 ·have e:σ.act x=σ.change x:=by unfold Sc.act;rw[if_pos hc]
  rw[e];have HC:=J (fun R w h=>uk b σ x hok hq R w h);unfold Ev.val at HC⊢;clear hok hq e;obtain⟨k1,k3⟩:=hc;obtain⟨-,c1,c2,c3,c4,c5,c6,c7,c8⟩:=(h0.right).cells9;generalize σ.change x=p at*
  obtain⟨σ',⟨ec,ef,⟨ea,eb,er⟩,ek⟩⟩:=p;dsimp only at*
  go_enter func16,ntmps16;go_wp2_with fail
  refine(HC.out _ _ h0).mono ?_;rintro e w2 ⟨rfl,h2,x2⟩;have h3:L w2 (aa (w.heap.size+1) #[g o 0,I C,g o 0,g o 0,g o 0,I C] 36*(aw b σ'*(aa w.heap.size #[g o x.kind,g o x.core,g o x.m.page,g o x.m.size,g o x.m.frame,g o x.m.rights,g o x.a.page,g o x.a.kind,I x.a.user] 43*R))):=h2.eq (by ac_rfl);have x3:=x0.trans x2;clear h0 x0 h2 x2 c0 c1 c2 c3 c4 c5 c6 c7 c8 xl HC;obtain⟨e0,e1,e2,e3,e4,e5⟩:=h3.cells6;obtain⟨f0,f1,f2,f3,f4,f5⟩:=h3.frees6;have el:=h3.lt;go_wp2_with fail
  refine ak (fun wz=>L wz (aa (w.heap.size+1) #[g o ec,I ef,g o ea,g o eb,g o er,I ek] 36*(aw b σ'*(aa w.heap.size #[g o x.kind,g o x.core,g o x.m.page,g o x.m.size,g o x.m.frame,g o x.m.rights,g o x.a.page,g o x.a.kind,I x.a.user] 43*R)))∧T w wz) ⟨h3.set6 _ _ _ _ _ _,ah⟩ ?_;rintro wz ⟨hz,xz⟩;exact H (aD results16 rfl (aN hz)) rfl ⟨rfl,hz.right.p2.right,xz⟩
 by_cases hc2:x.kind<1∨7<x.kind
 ·have e:σ.act x=(σ,.no 2):=by unfold Sc.act;rw[if_neg hc,if_pos hc2]
  rw[e];clear hok hq e;have h3:L _ (aa (w.heap.size+1) #[g o 0,I C,g o 0,g o 0,g o 0,I C] 36*(aw b σ*(aa w.heap.size #[g o x.kind,g o x.core,g o x.m.page,g o x.m.size,g o x.m.frame,g o x.m.rights,g o x.a.page,g o x.a.kind,I x.a.user] 43*R))):=h0.eq (by ac_rfl);rcases hc2 with k1|k7
  ·clear hc h0
   go_enter func16,ntmps16;go_upto_region 4 with fail;generalize (w.alloc (.cells #[g o x.kind,g o x.core,g o x.m.page,g o x.m.size,g o x.m.frame,g o x.m.rights,g o x.a.page,g o x.a.kind,I x.a.user] 43)).alloc (.cells #[g o 0,I C,g o 0,g o 0,g o 0,I C] 36)=w1 at*
   generalize w.heap.size+1=E at*
   go_wp2_with fail
   refine(eN 2 _).mono ?_;rintro e w7 ⟨rfl,b7⟩;have h7:=h3.below b7;have x7:=x0.below b7;clear h3 x0 b7;obtain⟨e0,e1,e2,e3,e4,e5⟩:=h7.cells6;obtain⟨f0,f1,f2,f3,f4,f5⟩:=h7.frees6;have el:=h7.lt;go_wp2_with fail
   refine ak (fun wz=>L wz (aa E #[g o 2,I C,g o 0,g o 0,g o 0,I C] 36*(aw b σ*(aa w.heap.size #[g o x.kind,g o x.core,g o x.m.page,g o x.m.size,g o x.m.frame,g o x.m.rights,g o x.a.page,g o x.a.kind,I x.a.user] 43*R)))∧T w wz) ⟨h7.set6 _ _ _ _ _ _,ah⟩ ?_;rintro wz ⟨hz,xz⟩;exact H (aD results16 rfl (aN hz)) rfl ⟨rfl,hz.right.p2.right,xz⟩
  ·have k3:¬x.kind≤3:=by omega
   have k1:¬x.kind<1:=by omega
   clear hc h0;go_enter func16,ntmps16;go_upto_region 4 with fail;generalize (w.alloc (.cells #[g o x.kind,g o x.core,g o x.m.page,g o x.m.size,g o x.m.frame,g o x.m.rights,g o x.a.page,g o x.a.kind,I x.a.user] 43)).alloc (.cells #[g o 0,I C,g o 0,g o 0,g o 0,I C] 36)=w1 at*
   generalize w.heap.size+1=E at*
   go_wp2_with fail
   refine(eN 2 _).mono ?_;rintro e w7 ⟨rfl,b7⟩;have h7:=h3.below b7;have x7:=x0.below b7;clear h3 x0 b7;obtain⟨e0,e1,e2,e3,e4,e5⟩:=h7.cells6;obtain⟨f0,f1,f2,f3,f4,f5⟩:=h7.frees6;have el:=h7.lt;go_wp2_with fail
   refine ak (fun wz=>L wz (aa E #[g o 2,I C,g o 0,g o 0,g o 0,I C] 36*(aw b σ*(aa w.heap.size #[g o x.kind,g o x.core,g o x.m.page,g o x.m.size,g o x.m.frame,g o x.m.rights,g o x.a.page,g o x.a.kind,I x.a.user] 43*R)))∧T w wz) ⟨h7.set6 _ _ _ _ _ _,ah⟩ ?_;rintro wz ⟨hz,xz⟩;exact H (aD results16 rfl (aN hz)) rfl ⟨rfl,hz.right.p2.right,xz⟩
 have k3:¬x.kind≤3:=by omega
 have k1:¬x.kind<1:=by omega
 have k7:¬7<x.kind:=by omega
 have hx1:=h0.right.cell 1;by_cases hc3:x.core<0∨(σ.cs.length:Int)≤x.core
 ·have e:σ.act x=(σ,.no 1):=by unfold Sc.act;rw[if_neg hc,if_neg hc2,if_pos hc3]
  rw[e];have h3:L _ (aa (w.heap.size+1) #[g o 0,I C,g o 0,g o 0,g o 0,I C] 36*(aw b σ*(aa w.heap.size #[g o x.kind,g o x.core,g o x.m.page,g o x.m.size,g o x.m.frame,g o x.m.rights,g o x.a.page,g o x.a.kind,I x.a.user] 43*R))):=h0.eq (by ac_rfl);obtain⟨y,hy,h4⟩:=dz h0;unfold co at h4;obtain⟨b0,b1,b2,b3,b4,b5⟩:=h4.cells6;have bl:=h4.lt;rw[←hy] at hc3;clear hok hq e hc hc2 h0 h4 hy;rcases hc3 with n0|n1
  ·go_enter func16,ntmps16
   go_upto_region 5 with fail;go_region
   all_goals
    go_upto_region 6 with fail;generalize (w.alloc (.cells #[g o x.kind,g o x.core,g o x.m.page,g o x.m.size,g o x.m.frame,g o x.m.rights,g o x.a.page,g o x.a.kind,I x.a.user] 43)).alloc (.cells #[g o 0,I C,g o 0,g o 0,g o 0,I C] 36)=w1 at*
    generalize w.heap.size+1=E at*
    have g3:=h3.drew;have y0:=x0.drew;go_wp2_with fail
    refine(eN 1 _).mono ?_;rintro e w7 ⟨rfl,b7⟩;have h7:=g3.below b7;have x7:=y0.below b7;clear g3 y0 b7;obtain⟨e0,e1,e2,e3,e4,e5⟩:=h7.cells6;obtain⟨f0,f1,f2,f3,f4,f5⟩:=h7.frees6;have el:=h7.lt;go_wp2_with fail
    refine ak (fun wz=>L wz (aa E #[g o 1,I C,g o 0,g o 0,g o 0,I C] 36*(aw b σ*(aa w.heap.size #[g o x.kind,g o x.core,g o x.m.page,g o x.m.size,g o x.m.frame,g o x.m.rights,g o x.a.page,g o x.a.kind,I x.a.user] 43*R)))∧T w wz) ⟨h7.set6 _ _ _ _ _ _,ah⟩ ?_;rintro wz ⟨hz,xz⟩;exact H (aD results16 rfl (aN hz)) rfl ⟨rfl,hz.right.p2.right,xz⟩
  ·have n0:¬x.core<0:=by omega
   go_enter func16,ntmps16;go_upto_region 5 with fail;go_region
   all_goals
    go_upto_region 6 with fail;generalize (w.alloc (.cells #[g o x.kind,g o x.core,g o x.m.page,g o x.m.size,g o x.m.frame,g o x.m.rights,g o x.a.page,g o x.a.kind,I x.a.user] 43)).alloc (.cells #[g o 0,I C,g o 0,g o 0,g o 0,I C] 36)=w1 at*
    generalize w.heap.size+1=E at*
    have g3:=h3.drew;have y0:=x0.drew;go_wp2_with fail
    refine(eN 1 _).mono ?_;rintro e w7 ⟨rfl,b7⟩;have h7:=g3.below b7;have x7:=y0.below b7;clear g3 y0 b7;obtain⟨e0,e1,e2,e3,e4,e5⟩:=h7.cells6;obtain⟨f0,f1,f2,f3,f4,f5⟩:=h7.frees6;have el:=h7.lt;go_wp2_with fail
    refine ak (fun wz=>L wz (aa E #[g o 1,I C,g o 0,g o 0,g o 0,I C] 36*(aw b σ*(aa w.heap.size #[g o x.kind,g o x.core,g o x.m.page,g o x.m.size,g o x.m.frame,g o x.m.rights,g o x.a.page,g o x.a.kind,I x.a.user] 43*R)))∧T w wz) ⟨h7.set6 _ _ _ _ _ _,ah⟩ ?_;rintro wz ⟨hz,xz⟩;exact H (aD results16 rfl (aN hz)) rfl ⟨rfl,hz.right.p2.right,xz⟩
 obtain⟨k,hk⟩:=Int.eq_ofNat_of_zero_le (show 0≤x.core by omega);have hkl:k<σ.cs.length:=by omega
 have ea:σ.act x=if x.kind=4 then σ.access k x.a else if x.kind=5 then σ.walk k else if x.kind=6 then σ.ack k else σ.evict k:=by
  unfold Sc.act;rw[if_neg hc,if_neg hc2,if_neg hc3,hk];rfl
 have hcr:=Sc.core_ok hok k;have hat:=Safe.at_core hkl;obtain⟨hop,_,hMo,hAc⟩:=hx;obtain⟨kx,cx,mx,ax⟩:=x;dsimp only at*
 subst hk;have HACK:=J (fun R w h=>xW b σ k hok hkl R w h);unfold Ev.val at HACK;clear hc hc2 hc3 hq hop;obtain⟨y,hy,h4⟩:=dz h0;unfold co at h4;have hkp:k<y.ps.length:=by omega
 have hkl':(k:Int)<y.ps.length:=by omega
 obtain⟨Q,eQ,eS⟩:=ke (K hkp) hat;obtain⟨bA,hA,lA,cA⟩:=iR h4.right (K hkp);have hpk:=K hkp;rw[eQ] at h4;have HS:=J (fun(s':Ms) (c':Cr) (w':S) (R':ab) (h:L w' (co b {σ.put k c' with s:=s'} y R'))=>dR (σ:={σ.put k c' with s:=s'}) (by rw[hy];exact(Sc.put_len σ k c').symm) h);unfold co Sc.put at HS;dsimp only at HS;have HS2:=J (fun(s':Ms) (c':Cr) (w':S) (R':ab) h=>HS.out s' c' w' R' (by rw[eS c'];exact h));have hset:σ.cs.set k (σ.core k)=σ.cs:=sN hat;clear HS eS eQ hy hat;obtain⟨b0,b1,b2,b3,b4,b5⟩:=h4.cells6;have bl:=h4.lt;rw[hA] at b2;generalize y.ps[k]=p at*
 have h5:L _ (cy p (σ.core k).l 0 (σ.core k).k *(dn y.f σ.s*((aa b #[.pointer (D (F y.f 0 B)),g o 0,.slice y.A y.ps.length y.c,.pointer (D (F y.sh 0 B)),I σ.busy,.slice y.G σ.gone.length y.d] 114*(cj (.slice y.A y.ps.length y.c) y.ps*(ao (.slice y.G σ.gone.length y.d) σ.gone*(aI y.sh σ.told σ.wait*Q))))*(aa w.heap.size #[g o kx,g o k,g o mx.page,g o mx.size,g o mx.frame,g o mx.rights,g o ax.page,g o ax.kind,I ax.user] 43*(aa (w.heap.size+1) #[g o 0,I C,g o 0,g o 0,g o 0,I C] 36*R))))):=h4.drew.eq (by ac_rfl);have HS3:=J (fun(s':Ms) (c':Cr) (w':S) (R':ab) (h:L w' (cy p c'.l 0 c'.k*(dn y.f s'*((aa b #[.pointer (D (F y.f 0 B)),g o 0,.slice y.A y.ps.length y.c,.pointer (D (F y.sh 0 B)),I σ.busy,.slice y.G σ.gone.length y.d] 114*(cj (.slice y.A y.ps.length y.c) y.ps*(ao (.slice y.G σ.gone.length y.d) σ.gone*(aI y.sh σ.told σ.wait*Q))))*R'))))=>HS2.out s' c' w' R' (h.eq (by ac_rfl)));generalize (aa b #[.pointer (D (F y.f 0 B)),g o 0,.slice y.A y.ps.length y.c,.pointer (D (F y.sh 0 B)),I σ.busy,.slice y.G σ.gone.length y.d] 114*(cj (.slice y.A y.ps.length y.c) y.ps*(ao (.slice y.G σ.gone.length y.d) σ.gone*(aI y.sh σ.told σ.wait*Q))))=Z at*
 have h0d:=h0.drew;have x0d:=x0.drew;obtain⟨-,-,d2,d3,d4,d5,d6,d7,d8⟩:=h0.right.cells9;clear h0 h4 HS2;have hk0:¬(k:Int)<0:=by omega
 by_cases o4:kx=4
 ·as_aux_lemma=>
  rw[ea,if_pos o4];unfold Sc.access;have HB:=J (fun R w h=>uW p (σ.core k).l 0 (σ.core k).k ax hcr.1 hAc.1 R w h);generalize σ.core k=cc at*
  generalize cW cc.l 0 cc.k ax=q at*
  obtain⟨⟨qa,qf,qr⟩,fin,code,ck'⟩:=q;have HS4:=J (HS3.out σ.s ⟨cc.l,ck'⟩);unfold Ev.val;dsimp only at*
  subst o4;clear HACK h0d ea hcr HS3;go_enter func16,ntmps16;go_upto_region 5 with fail;go_region;go_upto_region 7 with fail;go_region;go_upto_region 10 with fail;generalize (w.alloc (.cells #[g o 4,g o k,g o mx.page,g o mx.size,g o mx.frame,g o mx.rights,g o ax.page,g o ax.kind,I ax.user] 43)).alloc (.cells #[g o 0,I C,g o 0,g o 0,g o 0,I C] 36)=w1 at*
  generalize w.heap.size=X at*
  generalize X+1=E at*
  have g5:=h5.drew;have y0:=x0d.drew;have e3:=g5.r3.cell 6;have e4:=g5.r3.cell 7;have e5:=g5.r3.cell 8;have el:=g5.r3.lt;clear h5 x0d b0 b1 b2 b3 b4 b5 bl cA lA c0 d2 d3 d4 d5 d6 d7 d8 xl;go_wp2_with fail
  with_reducible refine(HB.out _ _ g5).mono ?_
  rintro e w5 ⟨rfl,h6,x6⟩;have x7:=y0.trans x6;clear g5 y0 x6 HB e3 e4 e5 el;go_wp2_with fail
  refine(uO qa qf qr code fin _).mono ?_;rintro e w6 ⟨rfl,b6⟩;have h7:L w6 (aa E #[g o 0,I C,g o 0,g o 0,g o 0,I C] 36*(cy p cc.l 0 ck'*(dn y.f σ.s*(Z*(aa X #[g o 4,g o k,g o mx.page,g o mx.size,g o mx.frame,g o mx.rights,g o ax.page,g o ax.kind,I ax.user] 43*R))))):=(h6.below b6).eq (by ac_rfl);have x8:=x7.below b6;clear h6 x7 b6;obtain⟨e0,e1,e2,e3,e4,e5⟩:=h7.cells6;obtain⟨f0,f1,f2,f3,f4,f5⟩:=h7.frees6;have el:=h7.lt;go_wp2_with fail
  refine ak (fun wz=>L wz (aa E #[g o code,I fin,g o qa,g o qf,g o qr,I C] 36*(cy p cc.l 0 ck'*(dn y.f σ.s*(Z*(aa X #[g o 4,g o k,g o mx.page,g o mx.size,g o mx.frame,g o mx.rights,g o ax.page,g o ax.kind,I ax.user] 43*R)))))∧T w wz) ⟨h7.set6 _ _ _ _ _ _,ah⟩ ?_;rintro wz ⟨hz,xz⟩;exact H (aD results16 rfl (aN hz)) rfl ⟨rfl,(HS4.out _ (aa X #[g o 4,g o k,g o mx.page,g o mx.size,g o mx.frame,g o mx.rights,g o ax.page,g o ax.kind,I ax.user] 43*R) hz.right).p2.right,xz⟩
 by_cases o5:kx=5
 ·as_aux_lemma=>
  rw[ea,if_neg o4,if_pos o5];unfold Sc.walk;have HB:=J (fun R w h=>wl p y.f (σ.core k) σ.s hcr R w h);generalize σ.core k=cc at*
  have HKL:Hid (∃l',gY cc.l (aR σ.s 0 cc.k).r =l'):=J ⟨_,rfl⟩;obtain⟨l',hl'⟩:=HKL.out;rw[hl'] at HB⊢;clear hl' HKL;generalize aR σ.s 0 cc.k=q at*
  obtain⟨ck',s',⟨fin,⟨qa,qf,qr⟩,ln⟩,code⟩:=q;have HS4:=J (HS3.out s' ⟨l',ck'⟩);unfold Ev.val;dsimp only at*
  subst o5;clear HACK h0d ea hcr HS3 o4;go_enter func16,ntmps16;go_upto_region 5 with fail;go_region;go_upto_region 7 with fail;go_region;go_upto_region 12 with fail;generalize (w.alloc (.cells #[g o 5,g o k,g o mx.page,g o mx.size,g o mx.frame,g o mx.rights,g o ax.page,g o ax.kind,I ax.user] 43)).alloc (.cells #[g o 0,I C,g o 0,g o 0,g o 0,I C] 36)=w1 at*
  generalize w.heap.size=X at*
  generalize X+1=E at*
  have g5:=h5.drew;have y0:=x0d.drew;clear h5 x0d b1 b2 b3 b4 b5 cA lA c0 d2 d3 d4 d5 d6 d7 d8 xl;go_wp2_with fail
  with_reducible refine(HB.out _ _ g5).mono ?_
  rintro e w5 ⟨rfl,h6,x6⟩;have x7:=y0.trans x6;clear g5 y0 x6 HB b0 bl;go_wp2_with fail
  refine(uO qa qf qr code fin _).mono ?_;rintro e w6 ⟨rfl,b6⟩;have h7:L w6 (aa E #[g o 0,I C,g o 0,g o 0,g o 0,I C] 36*(cy p l' 0 ck'*(dn y.f s'*(Z*(aa X #[g o 5,g o k,g o mx.page,g o mx.size,g o mx.frame,g o mx.rights,g o ax.page,g o ax.kind,I ax.user] 43*R))))):=(h6.below b6).eq (by ac_rfl);have x8:=x7.below b6;clear h6 x7 b6;obtain⟨e0,e1,e2,e3,e4,e5⟩:=h7.cells6;obtain⟨f0,f1,f2,f3,f4,f5⟩:=h7.frees6;have el:=h7.lt;go_wp2_with fail
  refine ak (fun wz=>L wz (aa E #[g o code,I fin,g o qa,g o qf,g o qr,I C] 36*(cy p l' 0 ck'*(dn y.f s'*(Z*(aa X #[g o 5,g o k,g o mx.page,g o mx.size,g o mx.frame,g o mx.rights,g o ax.page,g o ax.kind,I ax.user] 43*R)))))∧T w wz) ⟨h7.set6 _ _ _ _ _ _,ah⟩ ?_;rintro wz ⟨hz,xz⟩;exact H (aD results16 rfl (aN hz)) rfl ⟨rfl,(HS4.out _ (aa X #[g o 5,g o k,g o mx.page,g o mx.size,g o mx.frame,g o mx.rights,g o ax.page,g o ax.kind,I ax.user] 43*R) hz.right).p2.right,xz⟩
 by_cases o6:kx=6
 ·as_aux_lemma=>
  rw[ea,if_neg o4,if_neg o5,if_pos o6];unfold Ev.val;clear h5 HS3 ea hcr o4 o5;generalize σ.ack k=q at*
  obtain⟨σ',⟨ec,ef,⟨qa,qb,qr⟩,ek⟩⟩:=q;dsimp only at*
  subst o6;go_enter func16,ntmps16;go_upto_region 5 with fail;go_region;go_upto_region 7 with fail;go_region;go_upto_region 14 with fail;generalize (w.alloc (.cells #[g o 6,g o k,g o mx.page,g o mx.size,g o mx.frame,g o mx.rights,g o ax.page,g o ax.kind,I ax.user] 43)).alloc (.cells #[g o 0,I C,g o 0,g o 0,g o 0,I C] 36)=w1 at*
  generalize w.heap.size=X at*
  generalize X+1=E at*
  have g5:=h0d.drew;have y0:=x0d.drew;have e1:=g5.right.cell 1;have el:=g5.right.lt;clear h0d x0d b0 b1 b2 b3 b4 b5 bl cA lA c0 d2 d3 d4 d5 d6 d7 d8 xl;go_wp2_with fail
  with_reducible refine(HACK.out _ _ g5).mono ?_
  rintro e w5 ⟨rfl,h6,x6⟩;have h7:L w5 (aa E #[g o 0,I C,g o 0,g o 0,g o 0,I C] 36*(aw b σ'*(aa X #[g o 6,g o k,g o mx.page,g o mx.size,g o mx.frame,g o mx.rights,g o ax.page,g o ax.kind,I ax.user] 43*R))):=h6.eq (by ac_rfl);have x8:=y0.trans x6;clear g5 y0 x6 h6 HACK e1 el;obtain⟨e0,e1,e2,e3,e4,e5⟩:=h7.cells6;obtain⟨f0,f1,f2,f3,f4,f5⟩:=h7.frees6;have el:=h7.lt;go_wp2_with fail
  refine ak (fun wz=>L wz (aa E #[g o ec,I ef,g o qa,g o qb,g o qr,I ek] 36*(aw b σ'*(aa X #[g o 6,g o k,g o mx.page,g o mx.size,g o mx.frame,g o mx.rights,g o ax.page,g o ax.kind,I ax.user] 43*R)))∧T w wz) ⟨h7.set6 _ _ _ _ _ _,ah⟩ ?_;rintro wz ⟨hz,xz⟩;exact H (aD results16 rfl (aN hz)) rfl ⟨rfl,hz.right.p2.right,xz⟩
 have o7:kx=7:=by omega
 as_aux_lemma=>
  rw[ea,if_neg o4,if_neg o5,if_neg o6];unfold Sc.evict;have HE:=J (fun t R w h=>vh t (σ.core k).l R w h);clear HACK h0d ea hcr;generalize σ.core k=cc at*
  obtain⟨cl,ck⟩:=cc;dsimp only at*
  subst o7;cases cl with
  |nil=>
   rw[if_pos rfl];have HS4:=J (HS3.out σ.s ⟨[],ck⟩);rw[hset] at HS4;rw[show decide (0< ([]:List Ln).length)=C from rfl,show Tl.evict []=[] from rfl] at HE;unfold Ev.val Ev.no An.zero;dsimp only;clear HS3 hset;go_enter func16,ntmps16;go_upto_region 5 with fail;go_region;go_upto_region 7 with fail;go_region;go_upto_region 15 with fail;generalize (w.alloc (.cells #[g o 7,g o k,g o mx.page,g o mx.size,g o mx.frame,g o mx.rights,g o ax.page,g o ax.kind,I ax.user] 43)).alloc (.cells #[g o 0,I C,g o 0,g o 0,g o 0,I C] 36)=w1 at*
   generalize w.heap.size=X at*
   generalize X+1=E at*
   have g5:=h5.drew;have y0:=x0d.drew;clear h5 x0d b0 b1 b2 b3 b4 b5 bl cA lA c0 d2 d3 d4 d5 d6 d7 d8 xl;obtain⟨t,v,g4⟩:=fK g5;obtain⟨t0,t1⟩:=g4.cells2;have tl:=g4.lt;go_wp2_with fail
   with_reducible refine(HE.out _ _ _ g4.p2).mono ?_
   rintro e w5 ⟨rfl,h6,x6⟩;have x7:=y0.trans x6;clear g4 g5 t0 t1 tl y0 x6;have h6':L w5 (aa p #[.pointer (D (F t 0 B)),.pointer (D (F v 0 B))] 126*(bY t []*(a9 v 0 ck*(dn y.f σ.s*(Z*(aa X #[g o 7,g o k,g o mx.page,g o mx.size,g o mx.frame,g o mx.rights,g o ax.page,g o ax.kind,I ax.user] 43*(aa E #[g o 0,I C,g o 0,g o 0,g o 0,I C] 36*R))))))):=h6.eq (by ac_rfl);have h7:L w5 (aa E #[g o 0,I C,g o 0,g o 0,g o 0,I C] 36*(cy p [] 0 ck*(dn y.f σ.s*(Z*(aa X #[g o 7,g o k,g o mx.page,g o mx.size,g o mx.frame,g o mx.rights,g o ax.page,g o ax.kind,I ax.user] 43*R))))):=(eC h6').eq (by ac_rfl);clear h6 h6';have g7:=h7;have y7:=x7;clear h7 x7;go_wp2_with fail
   refine(eN 9 _).mono ?_;rintro e w7 ⟨rfl,b7⟩;have h7:=g7.below b7;have x7:=y7.below b7;clear g7 y7 b7;obtain⟨e0,e1,e2,e3,e4,e5⟩:=h7.cells6;obtain⟨f0,f1,f2,f3,f4,f5⟩:=h7.frees6;have el:=h7.lt;go_wp2_with fail
   refine ak (fun wz=>L wz (aa E #[g o 9,I C,g o 0,g o 0,g o 0,I C] 36*(cy p [] 0 ck*(dn y.f σ.s*(Z*(aa X #[g o 7,g o k,g o mx.page,g o mx.size,g o mx.frame,g o mx.rights,g o ax.page,g o ax.kind,I ax.user] 43*R)))))∧T w wz) ⟨h7.set6 _ _ _ _ _ _,ah⟩ ?_;rintro wz ⟨hz,xz⟩;exact H (aD results16 rfl (aN hz)) rfl ⟨rfl,(HS4.out _ (aa X #[g o 7,g o k,g o mx.page,g o mx.size,g o mx.frame,g o mx.rights,g o ax.page,g o ax.kind,I ax.user] 43*R) hz.right).p2.right,xz⟩
  |cons z cl=>
   rw[if_neg (by simp)];have HS4:=J (HS3.out σ.s ⟨Tl.evict (z::cl),ck⟩);rw[show decide (0< (z::cl).length)=V from decide_eq_true (by simp)] at HE;unfold Ev.val Ev.no An.zero;dsimp only;clear HS3 hset;generalize Tl.evict (z::cl)=l' at*
   go_enter func16,ntmps16;go_upto_region 5 with fail;go_region;go_upto_region 7 with fail;go_region;go_upto_region 15 with fail;generalize (w.alloc (.cells #[g o 7,g o k,g o mx.page,g o mx.size,g o mx.frame,g o mx.rights,g o ax.page,g o ax.kind,I ax.user] 43)).alloc (.cells #[g o 0,I C,g o 0,g o 0,g o 0,I C] 36)=w1 at*
   generalize w.heap.size=X at*
   generalize X+1=E at*
   have g5:=h5.drew;have y0:=x0d.drew;clear h5 x0d b0 b1 b2 b3 b4 b5 bl cA lA c0 d2 d3 d4 d5 d6 d7 d8 xl;obtain⟨t,v,g4⟩:=fK g5;obtain⟨t0,t1⟩:=g4.cells2;have tl:=g4.lt;go_wp2_with fail
   with_reducible refine(HE.out _ _ _ g4.p2).mono ?_
   rintro e w5 ⟨rfl,h6,x6⟩;have x7:=y0.trans x6;clear g4 g5 t0 t1 tl y0 x6;have h6':L w5 (aa p #[.pointer (D (F t 0 B)),.pointer (D (F v 0 B))] 126*(bY t l'*(a9 v 0 ck*(dn y.f σ.s*(Z*(aa X #[g o 7,g o k,g o mx.page,g o mx.size,g o mx.frame,g o mx.rights,g o ax.page,g o ax.kind,I ax.user] 43*(aa E #[g o 0,I C,g o 0,g o 0,g o 0,I C] 36*R))))))):=h6.eq (by ac_rfl);have h7:L w5 (aa E #[g o 0,I C,g o 0,g o 0,g o 0,I C] 36*(cy p l' 0 ck*(dn y.f σ.s*(Z*(aa X #[g o 7,g o k,g o mx.page,g o mx.size,g o mx.frame,g o mx.rights,g o ax.page,g o ax.kind,I ax.user] 43*R))))):=(eC h6').eq (by ac_rfl);clear h6 h6';obtain⟨e0,e1,e2,e3,e4,e5⟩:=h7.cells6;obtain⟨f0,f1,f2,f3,f4,f5⟩:=h7.frees6;have el:=h7.lt;go_wp2_with fail
   refine ak (fun wz=>L wz (aa E #[g o 0,I C,g o 0,g o 0,g o 0,I C] 36*(cy p l' 0 ck*(dn y.f σ.s*(Z*(aa X #[g o 7,g o k,g o mx.page,g o mx.size,g o mx.frame,g o mx.rights,g o ax.page,g o ax.kind,I ax.user] 43*R)))))∧T w wz) ⟨h7.set6 _ _ _ _ _ _,ah⟩ ?_;rintro wz ⟨hz,xz⟩;exact H (aD results16 rfl (aN hz)) rfl ⟨rfl,(HS4.out _ (aa X #[g o 7,g o k,g o mx.page,g o mx.size,g o mx.frame,g o mx.rights,g o ax.page,g o ax.kind,I ax.user] 43*R) hz.right).p2.right,xz⟩
section
variable {P:Program} {fn:Func} {tmps:Array U} {w:S}
theorem fd{a b:Nat}{t:TypeId}{p:Addr}{v u:U}(hr:fn.results= #[.tmp b,.cell a t])(ha:tmps.getD a undef= .pointer (D p))(hb:tmps.getD b undef=u)(hl:(loadVar t p).run P w= .ok v w):
  (results fn tmps).run P w= .ok (.tuple #[u,v]) w:=by
 unfold results;rw[hr];simp only[Array.getD_eq_getD_getElem?] at ha hb;simp[asAddr,ha,hb,hl]
end
theorem uh(q:Nat):∀u∈([.pointer (D (F q 0 B))]:List U),u.oneCell'=V:=by
 intro u hu;simp at hu;subst hu;rfl
theorem Has.frees2{w:S}{R:ab}{b:Nat}{v0 v1:U}{t:TypeId}(h:L w (aa b #[v0,v1] t*R)):w.frozen? (F b 0 B)=C∧w.frozen? (F b 1 B)=C:=⟨h.free 0,h.free 1⟩
theorem Has.set2{w:S}{R:ab}{b:Nat}{v0 v1:U}{t:TypeId}(h:L w (aa b #[v0,v1] t*R))(u0 u1:U):L ((w.setCell (F b 0 B) u0).setCell (F b 1 B) u1) (aa b #[u0,u1] t*R):=(h.set 0 u0).set 1 u1
theorem uj(cores n:Int)(hc:cores<1∨4<cores∨n<1∨128<n)(w:S):
  W prog 13 #[g o cores,g o n] w (Pure (.tuple #[.pointer B,.agg #[g o 1,g o (-1)]]) w):=by
 have h0:=(aT w).new #[g o 0,g o 0] 27;have x0:=(Ext.refl w).alloc (.cells #[g o 0,g o 0] 27);have h1:=(aT w).new #[g o 1,g o (-1)] 27;have el:=h0.lt;obtain⟨c0,c1⟩:=h0.cells2;obtain⟨f0,f1⟩:=h0.frees2;by_cases q1:cores<1
 ·go_enter func13,ntmps13
  go_wp2_with fail
  refine ak (fun wz=>L wz (aa w.heap.size #[g o 1,g o (-1)] 27*(bS w w.heap.size))∧T w wz) ⟨by first|(with_reducible exact h1)|(with_reducible exact h0.set2 (g o 1) (g o (-1))),ah⟩ ?_;rintro wz ⟨hz,xz⟩;exact H (fd results13 rfl rfl (cM hz)) rfl ⟨rfl,aq hz.right xz⟩
 by_cases q2:4<cores
 ·go_enter func13,ntmps13
  go_wp2_with fail
  refine ak (fun wz=>L wz (aa w.heap.size #[g o 1,g o (-1)] 27*(bS w w.heap.size))∧T w wz) ⟨by first|(with_reducible exact h1)|(with_reducible exact h0.set2 (g o 1) (g o (-1))),ah⟩ ?_;rintro wz ⟨hz,xz⟩;exact H (fd results13 rfl rfl (cM hz)) rfl ⟨rfl,aq hz.right xz⟩
 by_cases q3:n<1
 ·go_enter func13,ntmps13
  go_wp2_with fail
  refine ak (fun wz=>L wz (aa w.heap.size #[g o 1,g o (-1)] 27*(bS w w.heap.size))∧T w wz) ⟨by first|(with_reducible exact h1)|(with_reducible exact h0.set2 (g o 1) (g o (-1))),ah⟩ ?_;rintro wz ⟨hz,xz⟩;exact H (fd results13 rfl rfl (cM hz)) rfl ⟨rfl,aq hz.right xz⟩
 ·have q4:128<n:=by omega
  go_enter func13,ntmps13;go_wp2_with fail
  refine(uZ n _ (by omega)).mono ?_;rintro e w2 ⟨rfl,b2⟩;have h2:=h0.below b2;have x2:=x0.below b2;clear h0 x0 h1 c0 c1 f0 f1 el b2;have x3:=x2.alloc (.cells #[g o 1,g o (-1)] 27);have h3:L _ (aa w.heap.size #[g o 0,g o 0] 27*(aa w2.heap.size #[g o 1,g o (-1)] 27*bS w w.heap.size)):=(h2.new #[g o 1,g o (-1)] 27).eq (by ac_rfl);obtain⟨c0,c1⟩:=h3.cells2;obtain⟨f0,f1⟩:=h3.frees2;have el:=h3.lt;obtain⟨d0,d1⟩:=h3.right.cells2;have dl:=h3.right.lt;clear h2;go_upto_region 4 with fail;go_wp2_with fail
  go_region
  all_goals
   go_wp2_with fail
   refine ak (fun wz=>L wz (aa w.heap.size #[g o 1,g o (-1)] 27*(aa w2.heap.size #[g o 1,g o (-1)] 27*bS w w.heap.size))∧T w wz) ⟨by first|(with_reducible exact h3)|(with_reducible exact(h3.set2 (g o 1) (g o (-1))).drew),ah⟩ ?_;rintro wz ⟨hz,xz⟩;exact H (fd results13 rfl rfl (cM hz)) rfl ⟨rfl,aq hz.right.right xz⟩
set_option maxHeartbeats 4000000 in
theorem xX(cores n:Nat)(hc:1≤cores)(h4:cores≤4)(hn:1≤n)(hn2:n≤128)(R:ab)(w:S)(h:L w R):
  W prog 13 #[g o cores,g o n] w fun e w'=>∃p,cI (.tuple #[.pointer (D (F p 0 B)),.agg #[g o 0,g o 0]]) (aw p (Sc.new cores n)*R) w e w':=by
 have h0:=h.new #[g o 0,g o 0] 27;have x0:=(Ext.refl w).alloc (.cells #[g o 0,g o 0] 27);have hn1:¬(n:Int)<1:=by omega
 have hc1:¬(cores:Int)<1:=by omega
 have hc4:¬(4:Int)<cores:=by omega
 have ht0:(O n).topV =0:=by
  have ht:(O n).top =D 0:=by
   show(if 0<n then D 0 else B)=D 0;rw[if_pos (by omega)]
  unfold Ms.topV;rw[ht];rfl
 have HTK:=J (fun f R w h=>ww f (O n) R w h);rw[ht0] at HTK;have HOK:=J (Ms.Ok.new hn2);clear h ht0;go_enter func13,ntmps13;go_wp2_with fail
 refine(xC _ _ n h0 (by omega) (by omega)).mono ?_;rintro e w2 ⟨f,rfl,h2,x2⟩;have h3:=(ge h2 HOK.out (Agree.refl _)).new #[g o 0,g o 0] 27;have h3':L _ (dn f (O n)*(aa w2.heap.size #[g o 0,g o 0] 27*(aa w.heap.size #[g o 0,g o 0] 27*R))):=h3.eq (by ac_rfl);have x3:=(x0.trans x2).alloc (.cells #[g o 0,g o 0] 27);have c3:=h3.cell 0;clear h2 x2 x0 h0 h3;go_wp2_with fail
 refine(HTK.out f _ _ h3').mono ?_;rintro e w4 ⟨rfl,h4,x4⟩;have x5:=x3.trans x4;clear c3 h3' x3 x4 HTK HOK;go_wp2_with fail
 refine(qT _ _ h4).mono ?_;rintro e w5 ⟨sh,rfl,h6,x6⟩;have h7:L _ (cj (.slice B 0 0) []*(aa w5.heap.size #[.pointer (D (F f 0 B)),g o 0,.slice B 0 0,.pointer (D (F sh 0 B)),I C,.slice B 0 0] 114*(aU [] (List.replicate 0 N)*(aI sh Mp.zero (fun _=>C)*(dn f (O n).takeS *(aa w2.heap.size #[g o 0,g o 0] 27*(aa w.heap.size #[g o 0,g o 0] 27*R))))))):=
  Has.rowNil ((cH.2 ⟨trivial,h6.new #[.pointer (D (F f 0 B)),g o 0,.slice B 0 0,.pointer (D (F sh 0 B)),I C,.slice B 0 0] 114⟩).eq (show _=aa w5.heap.size #[.pointer (D (F f 0 B)),g o 0,.slice B 0 0,.pointer (D (F sh 0 B)),I C,.slice B 0 0] 114*(dN True*(aI sh Mp.zero (fun _=>C)*(dn f (O n).takeS *(aa w2.heap.size #[g o 0,g o 0] 27*(aa w.heap.size #[g o 0,g o 0] 27*R))))) by ac_rfl))
 have x7:=(x5.trans x6).alloc (.cells #[.pointer (D (F f 0 B)),g o 0,.slice B 0 0,.pointer (D (F sh 0 B)),I C,.slice B 0 0] 114);clear h4 x5 h6 x6;go_wp2_with fail
 generalize w5.alloc _=w6 at*
 generalize w5.heap.size=b at*
 generalize w.heap.size=X at*
 go_loopw [36] (fun t wz=>∃(j:Nat) (A:Option Addr) (c:Nat) (ps:List Nat),j≤cores∧t=g o j∧ps.length=j∧
   L wz (cj (.slice A j c) ps*(aa b #[.pointer (D (F f 0 B)),g o 0,.slice A j c,.pointer (D (F sh 0 B)),I C,.slice B 0 0] 114*(aU ps (List.replicate j N)*(aI sh Mp.zero (fun _=>C)*(dn f (O n).takeS *(aa w2.heap.size #[g o 0,g o 0] 27*(aa X #[g o 0,g o 0] 27*R)))))))∧T w wz)
  (fun t _=>cores - (intOf t).toNat)
 case atStart=>exact⟨0,B,0,[],by omega,rfl,rfl,h7,x7⟩
 case round=>
  obtain⟨j,A,c,ps,hj,rfl,hps,hz,hx⟩:=hrel;generalize hZ:(aI sh Mp.zero (fun _=>C)*(dn f (O n).takeS *(aa w2.heap.size #[g o 0,g o 0] 27*(aa X #[g o 0,g o 0] 27*R))))=Z at*
  clear h7 x7;subst hps;by_cases hjn:ps.length<cores
  ·have g1:=hz.right.cell 1
   have g2:=hz.right.cell 2;have gl:=hz.right.lt;have hzd:=hz.drew;have HC:=J (fun R w h=>xt 0 R w h);go_wp2_with fail
   go_region_law (first
    |(go_simp;go_at_call 54;refine(HC.out _ _ hzd).mono ?_;rintro e w8 ⟨q,rfl,h8,x8⟩;have k1:=h8.right.right.cell 1;have k2:=h8.right.right.cell 2;have kl:=h8.right.right.lt;have k3:=(h8.eq (show _=cj (.slice A ps.length c) ps*(aa b #[.pointer (D (F f 0 B)),g o 0,.slice A ps.length c,.pointer (D (F sh 0 B)),I C,.slice B 0 0] 114*(cy q [] 0 Ck.zero*(aU ps (List.replicate ps.length N)*Z))) by ac_rfl)).build #[.pointer (D (F q 0 B))] 115)
    |(refine cg rfl (.tmp 42) (.tmp 48) 112 rfl underlying112 uX (.slice A ps.length c) ps.length (ps.map pe) (by simp[Act.eval]) k3 (F w8.heap.size 0 B) 1 1 [.pointer (D (F q 0 B))] (by simp[Act.eval]) rfl (fo (k3.right.right.cell 0)) (uh q) (by unfold maxLen;omega) (by omega) ?_;intro A' c' w9 h9 x9;have y2:=h9.right.cell 2;have yf:=h9.right.free 2;have yl:=h9.right.lt))
   all_goals
    have h10:L (w9.setCell (F b 2 B) (.slice A' (ps.length+1) c')) (cj (.slice A' (ps.length+1) c') (ps++[q])*(aa b #[.pointer (D (F f 0 B)),g o 0,.slice A' (ps.length+1) c',.pointer (D (F sh 0 B)),I C,.slice B 0 0] 114*(aU (ps++[q]) (List.replicate (ps.length+1) N)*Z))):=by
     have h11:=(h9.right.set 2 (.slice A' (ps.length+1) c'));have h12:=(h9.p2.set 2 (.slice A' (ps.length+1) c'));have h13:L _ (aa w8.heap.size #[.pointer (D (F q 0 B))] 115*(bZ 115 1 (.slice A' (ps.length+1) c') (ps.length+1) (ps.map pe++[.pointer (D (F q 0 B))])*(aa b #[.pointer (D (F f 0 B)),g o 0,.slice A' (ps.length+1) c',.pointer (D (F sh 0 B)),I C,.slice B 0 0] 114*(cy q [] 0 Ck.zero*(aU ps (List.replicate ps.length N)*Z))))):=h12.eq (by show aa b #[.pointer (D (F f 0 B)),g o 0,.slice A' (ps.length+1) c',.pointer (D (F sh 0 B)),I C,.slice B 0 0] 114*_=_;ac_rfl);have h14:=h13.right;rw[List.replicate_succ',la ps _ q N (by simp)];unfold cj;rw[List.length_append,List.map_append];exact h14.eq (by ac_rfl)
    have x10:=(((hx.drew.trans x8).alloc (.cells #[.pointer (D (F q 0 B))] 115)).trans x9).set (F b 2 B) (.slice A' (ps.length+1) c');clear h9 h8 k3 hzd hz k1 k2 kl g1 g2 gl y2 yf yl hx x8 x9;go_wp2_with fail
    go_roundw
    case rel=>exact⟨ps.length+1,A',c',ps++[q],by omega,by go_num,by simp,h10,x10⟩
    case measure=>simp[intOf];omega
  ·have hjc:ps.length=cores:=by omega
   have h11:L _ (aa X #[g o 0,g o 0] 27*(aa b #[.pointer (D (F f 0 B)),g o 0,.slice A ps.length c,.pointer (D (F sh 0 B)),I C,.slice B 0 0] 114*(aa w2.heap.size #[g o 0,g o 0] 27*(cj (.slice A ps.length c) ps*(aU ps (List.replicate ps.length N)*(aI sh Mp.zero (fun _=>C)*(dn f (O n).takeS *R))))))):=hz.eq (by rw[←hZ];ac_rfl);have HE:=J (fun(wz:S) (h:L wz (aa X #[g o 0,g o 0] 27*(aa b #[.pointer (D (F f 0 B)),g o 0,.slice A ps.length c,.pointer (D (F sh 0 B)),I C,.slice B 0 0] 114*(aa w2.heap.size #[g o 0,g o 0] 27*(cj (.slice A ps.length c) ps*(aU ps (List.replicate ps.length N)*(aI sh Mp.zero (fun _=>C)*(dn f (O n).takeS *R))))))))=>show L wz (aw b (Sc.new cores n)*R) from by
    have k1:L wz (aa w2.heap.size #[g o 0,g o 0] 27*(aa b #[.pointer (D (F f 0 B)),g o 0,.slice A ps.length c,.pointer (D (F sh 0 B)),I C,.slice B 0 0] 114*(cj (.slice A ps.length c) ps*(aI sh Mp.zero (fun _=>C)*(aU ps (List.replicate ps.length N)*(dn f (O n).takeS *R)))))):=h.right.eq (by ac_rfl);have k2:=(Has.rowNil (e:=3) (size:=1) k1.right).eq (show _=aa b #[.pointer (D (F f 0 B)),g o 0,.slice A ps.length c,.pointer (D (F sh 0 B)),I C,.slice B 0 0] 114*(cj (.slice A ps.length c) ps*(ao (.slice B 0 0) []*(aI sh Mp.zero (fun _=>C)*(aU ps (List.replicate ps.length N)*(dn f (O n).takeS *R))))) by show bZ 3 1 (.slice B 0 0) 0 []*_=_;unfold ao;ac_rfl);rw[hjc] at k2;exact dR (y:=⟨f,sh,A,c,ps,B,0⟩) (by simpa [Sc.new] using hjc) (by unfold co Sc.new;rw[←hjc] at k2⊢;exact k2))
   clear hjc hZ hz;obtain⟨d0,d1⟩:=h11.cells2;obtain⟨f0,f1⟩:=h11.frees2;have dl:=h11.lt;go_wp2_with fail
   refine ak (fun wz=>L wz (aa X #[g o 0,g o 0] 27*(aa b #[.pointer (D (F f 0 B)),g o 0,.slice A ps.length c,.pointer (D (F sh 0 B)),I C,.slice B 0 0] 114*(aa w2.heap.size #[g o 0,g o 0] 27*(cj (.slice A ps.length c) ps*(aU ps (List.replicate ps.length N)*(aI sh Mp.zero (fun _=>C)*(dn f (O n).takeS *R)))))))∧T w wz) ⟨by first|(with_reducible exact h11)|(with_reducible exact h11.set2 (g o 0) (g o 0)),ah⟩ ?_;rintro wz ⟨hz,xz⟩;exact H (fd results13 rfl rfl (cM hz)) rfl ⟨b,rfl,HE.out _ hz,xz⟩
end Go.Proofs.YtmfheghbgihdmaaGreat
