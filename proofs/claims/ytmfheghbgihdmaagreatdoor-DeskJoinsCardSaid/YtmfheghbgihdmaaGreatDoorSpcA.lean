/- Contract of package space: ack. -/
import Derived.Test.YtmfheghbgihdmaaGreatDoorDkS
import Derived.Test.YtmfheghbgihdmaaGreatDoorSpcG
import Derived.Test.YtmfheghbgihdmaaGreatDoorScI
namespace Go.Proofs.YtmfheghbgihdmaaGreatDoor
open Go.Value renaming int→g,bool→D
open Go.IntKind renaming i64→n
open Bool renaming false→o,true→N
open Option renaming none→u,some→B
open Go.Addr renaming mk→C
open Go.Lib renaming hid→F
open Go renaming bodyPost_ret→H,World→K
open List renaming getElem?_eq_getElem→I
open Go.Proofs.YtmfheghbgihdmaaGreatDoor renaming Has→J,Ext→L
open Tryz
open Go.RowKit
set_option maxRecDepth 100000
set_option maxHeartbeats 4000000 in
theorem AU(b:Nat)(σ:Sc)(k:Nat)(hok:σ.Ok)(hk:k<σ.cs.length)(R:ab)(w:K)(h:J w (ah b σ*R)):
  Calls prog 149 #[.pointer (B (C b 0 u)),g n k] w (cF (σ.ack k).2.val (ah b (σ.ack k).1*R) w):=by
 have hc:=Sc.core_ok hok k;have hat:=Safe.at_core hk;obtain⟨s,cs,td,wt,bz,gn⟩:=σ;obtain⟨y,hy,h⟩:=cj h;unfold bq at h;have hk4:k<4:=by have:=hok.few;omega
 have hwy:iM wt k=wt k:=nH hk4;have HTD:=F hok.told.1;have h0:=h.new #[g n 0,D o,g n 0,g n 0,g n 0,D o] 72;have x0:=(Ext.refl w).alloc (.cells #[g n 0,D o,g n 0,g n 0,g n 0,D o] 72);dsimp only at*
 cases hw:wt k with
 |false=>
  have e:Sc.ack ⟨s,cs,td,wt,bz,gn⟩ k=(⟨s,cs,td,wt,bz,gn⟩,.no 9):=by unfold Sc.ack;rw[if_pos hw]
  rw[e];rw[hw] at hwy;have HS:=F (fun(w':K) (R':ab) (h:J w' (bq b ⟨s,cs,td,wt,bz,gn⟩ y R'))=>cY (σ:=⟨s,cs,td,wt,bz,gn⟩) hy h);unfold bq at HS;have HN:=F (fun R w h=>yT y.sh td wt k R w h hwy);clear e hw hwy hok hat hc h;have h1:J _ (aD y.sh td wt*(aa b #[.pointer (B (C y.f 0 u)),g n 0,.slice y.A y.ps.length y.c,.pointer (B (C y.sh 0 u)),D bz,(.slice y.G gn.length y.d)] 193*(aa w.heap.size #[g n 0,D o,g n 0,g n 0,g n 0,D o] 72*(bT (.slice y.A y.ps.length y.c) y.ps*(aq (.slice y.G gn.length y.d) gn*(aL y.ps cs*(cO y.f s*R))))))):=h0.eq (by ac_rfl);clear h0;obtain⟨c0,c1,c2,c3,c4,c5⟩:=h1.right.cells6;have cl:=h1.right.lt;go_enter func149,ntmps149;go_wp2_with fail
  refine(HN.out _ _ h1).mono ?_;rintro e w2 ⟨rfl,h2,x2⟩;have h3:J _ (aa w.heap.size #[g n 0,D o,g n 0,g n 0,g n 0,D o] 72*(aa b #[.pointer (B (C y.f 0 u)),g n 0,.slice y.A y.ps.length y.c,.pointer (B (C y.sh 0 u)),D bz,(.slice y.G gn.length y.d)] 193*(bT (.slice y.A y.ps.length y.c) y.ps*(aq (.slice y.G gn.length y.d) gn*(aD y.sh td wt*(aL y.ps cs*(cO y.f s*(aa w2.heap.size #[g n 0,g n 0,g n 0,g n 0] 75*R)))))))):=(h2.new #[g n 0,g n 0,g n 0,g n 0] 75).eq (by ac_rfl);have x3:=(x0.trans x2).alloc (.cells #[g n 0,g n 0,g n 0,g n 0] 75);clear h1 h2 x0 x2 c0 c1 c2 c3 c4 c5 cl;go_upto_region 3 with fail;generalize w2.alloc _=w3 at*
  generalize w2.heap.size=M at*
  go_wp2_with fail
  refine(eC 9 _).mono ?_;rintro e w7 ⟨rfl,b7⟩;have h7:=h3.below b7;have x7:=x3.below b7;clear h3 x3 b7;obtain⟨e0,e1,e2,e3,e4,e5⟩:=h7.cells6;obtain⟨f0,f1,f2,f3,f4,f5⟩:=h7.frees6;have el:=h7.lt;go_wp2_with fail
  refine ay (fun wz=>J wz (aa w.heap.size #[g n 9,D o,g n 0,g n 0,g n 0,D o] 72*(aa b #[.pointer (B (C y.f 0 u)),g n 0,.slice y.A y.ps.length y.c,.pointer (B (C y.sh 0 u)),D bz,(.slice y.G gn.length y.d)] 193*(bT (.slice y.A y.ps.length y.c) y.ps*(aq (.slice y.G gn.length y.d) gn*(aD y.sh td wt*(aL y.ps cs*(cO y.f s*(aa M #[g n 0,g n 0,g n 0,g n 0] 75*R))))))))∧L w wz) ⟨h7.set6 _ _ _ _ _ _,aj⟩ ?_;rintro wz ⟨hz,xz⟩;exact H (aR results149 rfl (bh hz)) rfl ⟨rfl,(HS.out _ (aa M #[g n 0,g n 0,g n 0,g n 0] 75*R) hz.right).p2.right,xz⟩
 |true=>
  have hkp:k<y.ps.length:=by omega
  obtain⟨Q,eQ,eS⟩:=jc (I hkp) hat;have e:Sc.ack ⟨s,cs,td,wt,bz,gn⟩ k=if ga (fv wt k)=N then(⟨bK s gn,cs.set k ⟨Tl.drop (Sc.core ⟨s,cs,td,wt,bz,gn⟩ k).l td,(Sc.core ⟨s,cs,td,wt,bz,gn⟩ k).k.again 0⟩,td,fv wt k,o,[]⟩,⟨0,o,An.zero,N⟩)
    else(⟨s,cs.set k ⟨Tl.drop (Sc.core ⟨s,cs,td,wt,bz,gn⟩ k).l td,(Sc.core ⟨s,cs,td,wt,bz,gn⟩ k).k.again 0⟩,td,fv wt k,bz,gn⟩,.no 0):=by
   unfold Sc.ack;rw[if_neg (show¬wt k=o by rw[hw];simp)];rfl
  rw[e];clear e;generalize Sc.core ⟨s,cs,td,wt,bz,gn⟩ k=cc at*
  rw[hw] at hwy;have HY:=F (fun R w h=>wQ y.sh td wt k R w h hwy);have HTO:=F (fun R w h'=>Au (y.ps[k]'hkp) cc.l 0 cc.k td hc.1 HTD.out R w h');obtain⟨bA,hA,lA,cA⟩:=gW h.right (I hkp);have hpk:=I hkp;rw[eQ] at h0;have hlen:y.ps.length=(cs.set k ⟨Tl.drop cc.l td,cc.k.again 0⟩).length :=by rw[List.length_set];exact hy
  have eS1:=eS ⟨Tl.drop cc.l td,cc.k.again 0⟩;generalize cs.set k ⟨Tl.drop cc.l td,cc.k.again 0⟩=cs' at*
  have hkl:(k:Int)<y.ps.length:=by omega
  generalize y.ps[k]=p at*
  obtain⟨yf,ysh,yA,yc,yps,yG,yd⟩:=y;dsimp only at*
  subst hA;have h1:J _ (aD ysh td wt*(aa b #[.pointer (B (C yf 0 u)),g n 0,.slice (B (C bA 0 u)) yps.length yc,.pointer (B (C ysh 0 u)),D bz,(.slice yG gn.length yd)] 193*(aa w.heap.size #[g n 0,D o,g n 0,g n 0,g n 0,D o] 72*(bT (.slice (B (C bA 0 u)) yps.length yc) yps*(aq (.slice yG gn.length yd) gn*(cg p cc.l 0 cc.k*(Q*(cO yf s*R)))))))):=h0.eq (by ac_rfl);have HSH:=F (fun(s':Ms) (bz':Bool) (gn':List Int) (yG':Option Addr) (yd':Nat) (w':K) (R':ab) (h:J w' (bq b ⟨s',cs',td,fv wt k,bz',gn'⟩ ⟨yf,ysh,B (C bA 0 u),yc,yps,yG',yd'⟩ R'))=>cY (σ:=⟨s',cs',td,fv wt k,bz',gn'⟩) hlen h);unfold bq at HSH;dsimp only at HSH;rw[eS1] at HSH;clear h h0 eQ eS eS1 hok hat hc hw hwy hlen hy hk hkp;have HO:=F (fun R w h=>pM ysh td (fv wt k) R w h);cases hov:ga (fv wt k) with
  |false=>
   rw[if_neg (by simp)];rw[hov] at HO;clear hov;obtain⟨c0,c1,c2,c3,c4,c5⟩:=h1.right.cells6;have cl:=h1.right.lt;go_enter func149,ntmps149;go_wp2_with fail
   refine(HY.out _ _ h1).mono ?_;rintro e w2 ⟨rfl,h2,x2⟩;rw[show((k:Int)).toNat =k from rfl] at h2;have h3:J _ (cg p cc.l 0 cc.k*(aa b #[.pointer (B (C yf 0 u)),g n 0,.slice (B (C bA 0 u)) yps.length yc,.pointer (B (C ysh 0 u)),D bz,(.slice yG gn.length yd)] 193*(bT (.slice (B (C bA 0 u)) yps.length yc) yps*(aa w2.heap.size #[g n td.page,g n td.size,g n td.frame,g n td.rights] 75*(aa w.heap.size #[g n 0,D o,g n 0,g n 0,g n 0,D o] 72*(aq (.slice yG gn.length yd) gn*(aD ysh td (fv wt k)*(Q*(cO yf s*R))))))))):=(h2.new #[g n td.page,g n td.size,g n td.frame,g n td.rights] 75).eq (by ac_rfl);have x3:=(x0.trans x2).alloc (.cells #[g n td.page,g n td.size,g n td.frame,g n td.rights] 75);clear h1 h2 x0 x2 c0 c1 c2 c3 c4 c5 cl lA cA HY;unfold Mp.val;go_upto_region 4 with fail;generalize w2.alloc _=w3 at*
   generalize w2.heap.size=M at*
   have HK:=F (fun(w':K) (P Q:ab) (h:J w' (P*(aa b #[.pointer (B (C yf 0 u)),g n 0,.slice (B (C bA 0 u)) yps.length yc,.pointer (B (C ysh 0 u)),D bz,(.slice yG gn.length yd)] 193*(bT (.slice (B (C bA 0 u)) yps.length yc) yps*(aa M #[g n td.page,g n td.size,g n td.frame,g n td.rights] 75*Q)))))=>(by
    obtain⟨b2,e2,l2,q2⟩:=gW h.right.right hpk;injection e2 with e2;injection e2 with e2
    subst e2;exact⟨h.right.cell 2,q2,h.r3.cell 0,h.r3.cell 1,h.r3.cell 2,h.r3.cell 3⟩:w'.cell? (C b 2 u)=B (.slice (B (C bA 0 u)) yps.length yc)∧w'.cell? (C bA k u)=B (.pointer (B (C p 0 u)))∧w'.cell? (C M 0 u)=B (g n td.page)∧w'.cell? (C M 1 u)=B (g n td.size)∧w'.cell? (C M 2 u)=B (g n td.frame)∧w'.cell? (C M 3 u)=B (g n td.rights)))
   have cl:=h3.right.lt;have ml:=h3.r3.lt;have hbl:bA<w3.heap.size:=by
    obtain⟨b2,e2,l2,q2⟩:=gW h3.right.right hpk;injection e2 with e2;injection e2 with e2
    subst e2;exact l2
   have hd:=h3.drew;have xd:=x3.drew;go_region_held3 (fun w'=>w'.cell? (C b 2 u)=B (.slice (B (C bA 0 u)) yps.length yc)∧w'.cell? (C bA k u)=B (.pointer (B (C p 0 u)))∧w'.cell? (C M 0 u)=B (g n td.page)∧w'.cell? (C M 1 u)=B (g n td.size)∧w'.cell? (C M 2 u)=B (g n td.frame)∧w'.cell? (C M 3 u)=B (g n td.rights)) (first|(with_reducible exact HK.out _ _ _ hd)|(with_reducible exact HK.out _ _ _ h5)|go_keep) (first|(go_at_call 187;(with_reducible refine(HTO.out _ _ hd).mono ?_);rintro e w5 ⟨rfl,h5,x5⟩))
   all_goals
    have h6:J w5 (aD ysh td (fv wt k)*(aa b #[.pointer (B (C yf 0 u)),g n 0,.slice (B (C bA 0 u)) yps.length yc,.pointer (B (C ysh 0 u)),D bz,(.slice yG gn.length yd)] 193*(aa w.heap.size #[g n 0,D o,g n 0,g n 0,g n 0,D o] 72*(bT (.slice (B (C bA 0 u)) yps.length yc) yps*(aq (.slice yG gn.length yd) gn*(cg p (Tl.drop cc.l td) 0 (cc.k.again 0)*(Q*(cO yf s*(aa M #[g n td.page,g n td.size,g n td.frame,g n td.rights] 75*R))))))))):=h5.eq (by ac_rfl);have x6:=xd.trans x5;clear hd xd h5 x5 h3 x3 HK HTO cl ml hbl;generalize Tl.drop cc.l td=l' at*
    generalize cc.k.again 0=k' at*
    obtain⟨c0,c1,c2,c3,c4,c5⟩:=h6.right.cells6;have cl:=h6.right.lt
   go_wp2_with fail
   refine(HO.out _ _ h6).mono ?_;rintro e w7 ⟨rfl,hwz⟩;subst hwz;have h7:J w5 (aa w.heap.size #[g n 0,D o,g n 0,g n 0,g n 0,D o] 72*(aa b #[.pointer (B (C yf 0 u)),g n 0,.slice (B (C bA 0 u)) yps.length yc,.pointer (B (C ysh 0 u)),D bz,(.slice yG gn.length yd)] 193*(bT (.slice (B (C bA 0 u)) yps.length yc) yps*(aq (.slice yG gn.length yd) gn*(aD ysh td (fv wt k)*((cg p l' 0 k'*Q)*(cO yf s*(aa M #[g n td.page,g n td.size,g n td.frame,g n td.rights] 75*R)))))))):=h6.eq (by ac_rfl);obtain⟨e0,e1,e2,e3,e4,e5⟩:=h7.cells6;obtain⟨f0,f1,f2,f3,f4,f5⟩:=h7.frees6;have el:=h7.lt;go_wp2_with fail
   refine ay (fun wz=>J wz (aa w.heap.size #[g n 0,D o,g n 0,g n 0,g n 0,D o] 72*(aa b #[.pointer (B (C yf 0 u)),g n 0,.slice (B (C bA 0 u)) yps.length yc,.pointer (B (C ysh 0 u)),D bz,(.slice yG gn.length yd)] 193*(bT (.slice (B (C bA 0 u)) yps.length yc) yps*(aq (.slice yG gn.length yd) gn*(aD ysh td (fv wt k)*((cg p l' 0 k'*Q)*(cO yf s*(aa M #[g n td.page,g n td.size,g n td.frame,g n td.rights] 75*R))))))))∧L w wz) ⟨by first|(with_reducible exact h7)|(with_reducible exact h7.set6 _ _ _ _ _ _),aj⟩ ?_;rintro wz ⟨hz,xz⟩;exact H (aR results149 rfl (bh hz)) rfl ⟨rfl,(HSH.out s bz gn yG yd _ (aa M #[g n td.page,g n td.size,g n td.frame,g n td.rights] 75*R) hz.right).p2.right,xz⟩
  |true=>
   rw[if_pos rfl];rw[hov] at HO;clear hov;obtain⟨c0,c1,c2,c3,c4,c5⟩:=h1.right.cells6;have cl:=h1.right.lt;go_enter func149,ntmps149;go_wp2_with fail
   refine(HY.out _ _ h1).mono ?_;rintro e w2 ⟨rfl,h2,x2⟩;rw[show((k:Int)).toNat =k from rfl] at h2;have h3:J _ (cg p cc.l 0 cc.k*(aa b #[.pointer (B (C yf 0 u)),g n 0,.slice (B (C bA 0 u)) yps.length yc,.pointer (B (C ysh 0 u)),D bz,(.slice yG gn.length yd)] 193*(bT (.slice (B (C bA 0 u)) yps.length yc) yps*(aa w2.heap.size #[g n td.page,g n td.size,g n td.frame,g n td.rights] 75*(aa w.heap.size #[g n 0,D o,g n 0,g n 0,g n 0,D o] 72*(aq (.slice yG gn.length yd) gn*(aD ysh td (fv wt k)*(Q*(cO yf s*R))))))))):=(h2.new #[g n td.page,g n td.size,g n td.frame,g n td.rights] 75).eq (by ac_rfl);have x3:=(x0.trans x2).alloc (.cells #[g n td.page,g n td.size,g n td.frame,g n td.rights] 75);clear h1 h2 x0 x2 c0 c1 c2 c3 c4 c5 cl lA cA HY;unfold Mp.val;go_upto_region 4 with fail;generalize w2.alloc _=w3 at*
   generalize w2.heap.size=M at*
   have HK:=F (fun(w':K) (P Q:ab) (h:J w' (P*(aa b #[.pointer (B (C yf 0 u)),g n 0,.slice (B (C bA 0 u)) yps.length yc,.pointer (B (C ysh 0 u)),D bz,(.slice yG gn.length yd)] 193*(bT (.slice (B (C bA 0 u)) yps.length yc) yps*(aa M #[g n td.page,g n td.size,g n td.frame,g n td.rights] 75*Q)))))=>(by
    obtain⟨b2,e2,l2,q2⟩:=gW h.right.right hpk;injection e2 with e2;injection e2 with e2
    subst e2;exact⟨h.right.cell 2,q2,h.r3.cell 0,h.r3.cell 1,h.r3.cell 2,h.r3.cell 3⟩:w'.cell? (C b 2 u)=B (.slice (B (C bA 0 u)) yps.length yc)∧w'.cell? (C bA k u)=B (.pointer (B (C p 0 u)))∧w'.cell? (C M 0 u)=B (g n td.page)∧w'.cell? (C M 1 u)=B (g n td.size)∧w'.cell? (C M 2 u)=B (g n td.frame)∧w'.cell? (C M 3 u)=B (g n td.rights)))
   have cl:=h3.right.lt;have ml:=h3.r3.lt;have hbl:bA<w3.heap.size:=by
    obtain⟨b2,e2,l2,q2⟩:=gW h3.right.right hpk;injection e2 with e2;injection e2 with e2
    subst e2;exact l2
   have hd:=h3.drew;have xd:=x3.drew;go_region_held3 (fun w'=>w'.cell? (C b 2 u)=B (.slice (B (C bA 0 u)) yps.length yc)∧w'.cell? (C bA k u)=B (.pointer (B (C p 0 u)))∧w'.cell? (C M 0 u)=B (g n td.page)∧w'.cell? (C M 1 u)=B (g n td.size)∧w'.cell? (C M 2 u)=B (g n td.frame)∧w'.cell? (C M 3 u)=B (g n td.rights)) (first|(with_reducible exact HK.out _ _ _ hd)|(with_reducible exact HK.out _ _ _ h5)|go_keep) (first|(go_at_call 187;(with_reducible refine(HTO.out _ _ hd).mono ?_);rintro e w5 ⟨rfl,h5,x5⟩))
   all_goals
    have h6:J w5 (aD ysh td (fv wt k)*(aa b #[.pointer (B (C yf 0 u)),g n 0,.slice (B (C bA 0 u)) yps.length yc,.pointer (B (C ysh 0 u)),D bz,(.slice yG gn.length yd)] 193*(aa w.heap.size #[g n 0,D o,g n 0,g n 0,g n 0,D o] 72*(bT (.slice (B (C bA 0 u)) yps.length yc) yps*(aq (.slice yG gn.length yd) gn*(cg p (Tl.drop cc.l td) 0 (cc.k.again 0)*(Q*(cO yf s*(aa M #[g n td.page,g n td.size,g n td.frame,g n td.rights] 75*R))))))))):=h5.eq (by ac_rfl);have x6:=xd.trans x5;clear hd xd h5 x5 h3 x3 HK HTO cl ml hbl;generalize Tl.drop cc.l td=l' at*
    generalize cc.k.again 0=k' at*
    obtain⟨c0,c1,c2,c3,c4,c5⟩:=h6.right.cells6;have cl:=h6.right.lt;go_wp2_with fail
    refine(HO.out _ _ h6).mono ?_;rintro e w7 ⟨rfl,hwz⟩;subst hwz;have h7:J w5 (cO yf (bK s (gn.take 0))*(aq (.slice yG gn.length yd) gn*(aa b #[.pointer (B (C yf 0 u)),g n 0,.slice (B (C bA 0 u)) yps.length yc,.pointer (B (C ysh 0 u)),D bz,(.slice yG gn.length yd)] 193*(aa w.heap.size #[g n 0,D o,g n 0,g n 0,g n 0,D o] 72*(bT (.slice (B (C bA 0 u)) yps.length yc) yps*(aD ysh td (fv wt k)*((cg p l' 0 k'*Q)*(aa M #[g n td.page,g n td.size,g n td.frame,g n td.rights] 75*R)))))))):=h6.eq (by(rw[show bK s (gn.take 0)=s from rfl];ac_rfl));have hgs:=qX h7.right;clear h6 c0 c1 c2 c3 c4 c5 cl HO;obtain⟨c0,c1,c2,c3,c4,c5⟩:=h7.right.right.cells6;have cl:=h7.right.right.lt;go_wp2_with fail
    go_loopw [42] (fun t wz=>∃(j:Nat),j≤gn.length∧t=g n j∧J wz (cO yf (bK s (gn.take j))*(aq (.slice yG gn.length yd) gn*(aa b #[.pointer (B (C yf 0 u)),g n 0,.slice (B (C bA 0 u)) yps.length yc,.pointer (B (C ysh 0 u)),D bz,(.slice yG gn.length yd)] 193*(aa w.heap.size #[g n 0,D o,g n 0,g n 0,g n 0,D o] 72*(bT (.slice (B (C bA 0 u)) yps.length yc) yps*(aD ysh td (fv wt k)*((cg p l' 0 k'*Q)*(aa M #[g n td.page,g n td.size,g n td.frame,g n td.rights] 75*R))))))))∧L w wz) (fun t _=>gn.length - (intOf t).toNat)
    case atStart=>exact⟨0,by omega,rfl,h7,x6⟩
    case round=>
     clear h7 x6 c0 c1 c2 c3 c4 c5 cl;obtain⟨j,hj,rfl,hz,hxz⟩:=hrel;obtain⟨c0,c1,c2,c3,c4,c5⟩:=hz.right.right.cells6;have cl:=hz.right.right.lt;by_cases hjl:j<gn.length
     ·obtain⟨bG,hG,lG,cG⟩:=fg hz.right hjl
      subst hG;have et:gn.take (j+1)=gn.take j++[gn[j]]:=List.take_succ_eq_append_getElem hjl;have GF:=F (fun R w h=>Ag yf (bK s (gn.take j)) R w h gn[j]);rw[←mC,←et] at GF;generalize gn[j]=v at*
      generalize (bK s (gn.take j)).has v=bb at*
      clear et;go_wp2_with fail
      refine(GF.out _ _ hz).mono ?_;rintro e w8 ⟨rfl,h8,x8⟩;go_wp2_with fail
      go_roundw
      case rel=>exact⟨j+1,by omega,by go_num,h8,hxz.trans x8⟩
      case measure=>simp[intOf];omega
     ·obtain rfl:j=gn.length:=by omega
      rw[List.take_length] at hz;have h8:J wr (aa b #[.pointer (B (C yf 0 u)),g n 0,.slice (B (C bA 0 u)) yps.length yc,.pointer (B (C ysh 0 u)),D bz,(.slice yG gn.length yd)] 193*(aa w.heap.size #[g n 0,D o,g n 0,g n 0,g n 0,D o] 72*(bT (.slice (B (C bA 0 u)) yps.length yc) yps*(aD ysh td (fv wt k)*((cg p l' 0 k'*Q)*(cO yf (bK s gn)*(aa M #[g n td.page,g n td.size,g n td.frame,g n td.rights] 75*(aq (.slice yG gn.length yd) gn*R)))))))):=hz.eq (by ac_rfl);clear hz c0 c1 c2 c3 c4 c5;obtain⟨c0,c1,c2,c3,c4,c5⟩:=h8.cells6;obtain⟨f0,f1,f2,f3,f4,f5⟩:=h8.frees6;have h9:J _ (aa b #[.pointer (B (C yf 0 u)),g n 0,.slice (B (C bA 0 u)) yps.length yc,.pointer (B (C ysh 0 u)),D o,(.slice u 0 0)] 193*(aa w.heap.size #[g n 0,D o,g n 0,g n 0,g n 0,D o] 72*(bT (.slice (B (C bA 0 u)) yps.length yc) yps*(aD ysh td (fv wt k)*((cg p l' 0 k'*Q)*(cO yf (bK s gn)*(aa M #[g n td.page,g n td.size,g n td.frame,g n td.rights] 75*(aq (.slice yG gn.length yd) gn*R)))))))):=(h8.set 4 (D o)).set 5 (.slice u 0 0);have x9:=(hxz.set (C b 4 u) (D o)).set (C b 5 u) (.slice u 0 0);go_upto_region 13 with fail;generalize (wr.setCell (C b 4 u) (D o)).setCell (C b 5 u) (.slice u 0 0)=w9 at*
      have h10:J w9 (aa w.heap.size #[g n 0,D o,g n 0,g n 0,g n 0,D o] 72*(aa b #[.pointer (B (C yf 0 u)),g n 0,.slice (B (C bA 0 u)) yps.length yc,.pointer (B (C ysh 0 u)),D o,(.slice u 0 0)] 193*(bT (.slice (B (C bA 0 u)) yps.length yc) yps*(aD ysh td (fv wt k)*((cg p l' 0 k'*Q)*(cO yf (bK s gn)*(aa M #[g n td.page,g n td.size,g n td.frame,g n td.rights] 75*(aq (.slice yG gn.length yd) gn*R)))))))):=h9.p2;clear h8 h9 hxz c0 c1 c2 c3 c4 c5 f0 f1 f2 f3 f4 f5 cl;obtain⟨e0,e1,e2,e3,e4,e5⟩:=h10.cells6;obtain⟨f0,f1,f2,f3,f4,f5⟩:=h10.frees6;have el:=h10.lt;have HNL:=F (fun(w':K) (h:J w' (aa b #[.pointer (B (C yf 0 u)),g n 0,.slice (B (C bA 0 u)) yps.length yc,.pointer (B (C ysh 0 u)),D o,(.slice u 0 0)] 193*(bT (.slice (B (C bA 0 u)) yps.length yc) yps*(aD ysh td (fv wt k)*((cg p l' 0 k'*Q)*(cO yf (bK s gn)*(aa M #[g n td.page,g n td.size,g n td.frame,g n td.rights] 75*(aq (.slice yG gn.length yd) gn*R))))))))=>HSH.out (bK s gn) o [] u 0 w' (aa M #[g n td.page,g n td.size,g n td.frame,g n td.rights] 75*(aq (.slice yG gn.length yd) gn*R)) ((Has.rowNil (e:=3) (size:=1) h).eq (show _=aa b #[.pointer (B (C yf 0 u)),g n 0,.slice (B (C bA 0 u)) yps.length yc,.pointer (B (C ysh 0 u)),D o,(.slice u 0 0)] 193*(bT (.slice (B (C bA 0 u)) yps.length yc) yps*(aq (.slice u 0 0) []*(aD ysh td (fv wt k)*(cg p l' 0 k'*Q*(cO yf (bK s gn)*(aa M #[g n td.page,g n td.size,g n td.frame,g n td.rights] 75*(aq (.slice yG gn.length yd) gn*R))))))) by(show bt 3 1 (.slice u 0 0) 0 []*_=_;unfold aq;simp only[List.map_nil,List.length_nil];ac_rfl))));go_wp2_with fail
      refine ay (fun wz=>J wz (aa w.heap.size #[g n 0,D o,g n 0,g n 0,g n 0,D N] 72*(aa b #[.pointer (B (C yf 0 u)),g n 0,.slice (B (C bA 0 u)) yps.length yc,.pointer (B (C ysh 0 u)),D o,(.slice u 0 0)] 193*(bT (.slice (B (C bA 0 u)) yps.length yc) yps*(aD ysh td (fv wt k)*((cg p l' 0 k'*Q)*(cO yf (bK s gn)*(aa M #[g n td.page,g n td.size,g n td.frame,g n td.rights] 75*(aq (.slice yG gn.length yd) gn*R))))))))∧L w wz) ⟨h10.set6 _ _ _ _ _ _,aj⟩ ?_;rintro wz ⟨hz,xz⟩;exact H (aR results149 rfl (bh hz)) rfl ⟨rfl,((HNL.out _ hz.right).eq (show _=aa M #[g n td.page,g n td.size,g n td.frame,g n td.rights] 75*(aq (.slice yG gn.length yd) gn*(ah b ⟨bK s gn,cs',td,fv wt k,o,[]⟩*R)) by ac_rfl)).right.right,xz⟩
theorem vo{cs:List Cr}{k:Nat}{c:Cr}(h:cs[k]? =B c):cs.set k c=cs:=by
 refine List.ext_getElem? fun i=> ?_;rw[List.getElem?_set];split
 ·rename_i hki
  subst hki;split
  ·exact h.symm
  ·rename_i hn
   exact absurd (List.getElem?_eq_some_iff.1 h).1 hn
 ·rfl
set_option maxHeartbeats 4000000 in
theorem Bm(b:Nat)(σ:Sc)(x:Stp)(hok:σ.Ok)(hq:σ.busy=o→ga σ.wait=N)(hx:x.ok)(R:ab)(w:K)(h:J w (ah b σ*R)):
  Calls prog 115 #[.pointer (B (C b 0 u)),.agg #[g n x.kind,g n x.core,g n x.m.page,g n x.m.size,g n x.m.frame,g n x.m.rights,g n x.a.page,g n x.a.kind,D x.a.user]] w (cF (σ.act x).2.val (ah b (σ.act x).1*R) w):=by
 have h0:J _ (ah b σ*(aa w.heap.size #[g n x.kind,g n x.core,g n x.m.page,g n x.m.size,g n x.m.frame,g n x.m.rights,g n x.a.page,g n x.a.kind,D x.a.user] 79*(aa (w.heap.size+1) #[g n 0,D o,g n 0,g n 0,g n 0,D o] 72*R))):=((h.new #[g n x.kind,g n x.core,g n x.m.page,g n x.m.size,g n x.m.frame,g n x.m.rights,g n x.a.page,g n x.a.kind,D x.a.user] 79).new #[g n 0,D o,g n 0,g n 0,g n 0,D o] 72).eq (by simp only[World.size_alloc];ac_rfl);have x0:=((Ext.refl w).alloc (.cells #[g n x.kind,g n x.core,g n x.m.page,g n x.m.size,g n x.m.frame,g n x.m.rights,g n x.a.page,g n x.a.kind,D x.a.user] 79)).alloc (.cells #[g n 0,D o,g n 0,g n 0,g n 0,D o] 72);clear h;have c0:=h0.right.cell 0;have xl:=h0.right.lt;by_cases hc:1≤x.kind∧x.kind≤3
 ·have e:σ.act x=σ.change x:=by unfold Sc.act;rw[if_pos hc]
  rw[e];have HC:=F (fun R w h=>wW b σ x hok hq R w h);unfold Ev.val at HC⊢;clear hok hq e;obtain⟨k1,k3⟩:=hc;obtain⟨-,c1,c2,c3,c4,c5,c6,c7,c8⟩:=(h0.right).cells9;generalize σ.change x=p at*
  obtain⟨σ',⟨ec,ef,⟨ea,eb,er⟩,ek⟩⟩:=p;dsimp only at*
  go_enter func115,ntmps115;go_wp2_with fail
  refine(HC.out _ _ h0).mono ?_;rintro e w2 ⟨rfl,h2,x2⟩;have h3:J w2 (aa (w.heap.size+1) #[g n 0,D o,g n 0,g n 0,g n 0,D o] 72*(ah b σ'*(aa w.heap.size #[g n x.kind,g n x.core,g n x.m.page,g n x.m.size,g n x.m.frame,g n x.m.rights,g n x.a.page,g n x.a.kind,D x.a.user] 79*R))):=h2.eq (by ac_rfl);have x3:=x0.trans x2;clear h0 x0 h2 x2 c0 c1 c2 c3 c4 c5 c6 c7 c8 xl HC;obtain⟨e0,e1,e2,e3,e4,e5⟩:=h3.cells6;obtain⟨f0,f1,f2,f3,f4,f5⟩:=h3.frees6;have el:=h3.lt;go_wp2_with fail
  refine ay (fun wz=>J wz (aa (w.heap.size+1) #[g n ec,D ef,g n ea,g n eb,g n er,D ek] 72*(ah b σ'*(aa w.heap.size #[g n x.kind,g n x.core,g n x.m.page,g n x.m.size,g n x.m.frame,g n x.m.rights,g n x.a.page,g n x.a.kind,D x.a.user] 79*R)))∧L w wz) ⟨h3.set6 _ _ _ _ _ _,aj⟩ ?_;rintro wz ⟨hz,xz⟩;exact H (aR results115 rfl (bh hz)) rfl ⟨rfl,hz.right.p2.right,xz⟩
 by_cases hc2:x.kind<1∨7<x.kind
 ·have e:σ.act x=(σ,.no 2):=by unfold Sc.act;rw[if_neg hc,if_pos hc2]
  rw[e];clear hok hq e;have h3:J _ (aa (w.heap.size+1) #[g n 0,D o,g n 0,g n 0,g n 0,D o] 72*(ah b σ*(aa w.heap.size #[g n x.kind,g n x.core,g n x.m.page,g n x.m.size,g n x.m.frame,g n x.m.rights,g n x.a.page,g n x.a.kind,D x.a.user] 79*R))):=h0.eq (by ac_rfl);rcases hc2 with k1|k7
  ·clear hc h0
   go_enter func115,ntmps115;go_upto_region 4 with fail;generalize (w.alloc (.cells #[g n x.kind,g n x.core,g n x.m.page,g n x.m.size,g n x.m.frame,g n x.m.rights,g n x.a.page,g n x.a.kind,D x.a.user] 79)).alloc (.cells #[g n 0,D o,g n 0,g n 0,g n 0,D o] 72)=w1 at*
   generalize w.heap.size+1=E at*
   go_wp2_with fail
   refine(eC 2 _).mono ?_;rintro e w7 ⟨rfl,b7⟩;have h7:=h3.below b7;have x7:=x0.below b7;clear h3 x0 b7;obtain⟨e0,e1,e2,e3,e4,e5⟩:=h7.cells6;obtain⟨f0,f1,f2,f3,f4,f5⟩:=h7.frees6;have el:=h7.lt;go_wp2_with fail
   refine ay (fun wz=>J wz (aa E #[g n 2,D o,g n 0,g n 0,g n 0,D o] 72*(ah b σ*(aa w.heap.size #[g n x.kind,g n x.core,g n x.m.page,g n x.m.size,g n x.m.frame,g n x.m.rights,g n x.a.page,g n x.a.kind,D x.a.user] 79*R)))∧L w wz) ⟨h7.set6 _ _ _ _ _ _,aj⟩ ?_;rintro wz ⟨hz,xz⟩;exact H (aR results115 rfl (bh hz)) rfl ⟨rfl,hz.right.p2.right,xz⟩
  ·have k3:¬x.kind≤3:=by omega
   have k1:¬x.kind<1:=by omega
   clear hc h0;go_enter func115,ntmps115;go_upto_region 4 with fail;generalize (w.alloc (.cells #[g n x.kind,g n x.core,g n x.m.page,g n x.m.size,g n x.m.frame,g n x.m.rights,g n x.a.page,g n x.a.kind,D x.a.user] 79)).alloc (.cells #[g n 0,D o,g n 0,g n 0,g n 0,D o] 72)=w1 at*
   generalize w.heap.size+1=E at*
   go_wp2_with fail
   refine(eC 2 _).mono ?_;rintro e w7 ⟨rfl,b7⟩;have h7:=h3.below b7;have x7:=x0.below b7;clear h3 x0 b7;obtain⟨e0,e1,e2,e3,e4,e5⟩:=h7.cells6;obtain⟨f0,f1,f2,f3,f4,f5⟩:=h7.frees6;have el:=h7.lt;go_wp2_with fail
   refine ay (fun wz=>J wz (aa E #[g n 2,D o,g n 0,g n 0,g n 0,D o] 72*(ah b σ*(aa w.heap.size #[g n x.kind,g n x.core,g n x.m.page,g n x.m.size,g n x.m.frame,g n x.m.rights,g n x.a.page,g n x.a.kind,D x.a.user] 79*R)))∧L w wz) ⟨h7.set6 _ _ _ _ _ _,aj⟩ ?_;rintro wz ⟨hz,xz⟩;exact H (aR results115 rfl (bh hz)) rfl ⟨rfl,hz.right.p2.right,xz⟩
 have k3:¬x.kind≤3:=by omega
 have k1:¬x.kind<1:=by omega
 have k7:¬7<x.kind:=by omega
 have hx1:=h0.right.cell 1;by_cases hc3:x.core<0∨(σ.cs.length:Int)≤x.core
 ·have e:σ.act x=(σ,.no 1):=by unfold Sc.act;rw[if_neg hc,if_neg hc2,if_pos hc3]
  rw[e];have h3:J _ (aa (w.heap.size+1) #[g n 0,D o,g n 0,g n 0,g n 0,D o] 72*(ah b σ*(aa w.heap.size #[g n x.kind,g n x.core,g n x.m.page,g n x.m.size,g n x.m.frame,g n x.m.rights,g n x.a.page,g n x.a.kind,D x.a.user] 79*R))):=h0.eq (by ac_rfl);obtain⟨y,hy,h4⟩:=cj h0;unfold bq at h4;obtain⟨b0,b1,b2,b3,b4,b5⟩:=h4.cells6;have bl:=h4.lt;rw[←hy] at hc3;clear hok hq e hc hc2 h0 h4 hy;rcases hc3 with n0|n1
  ·go_enter func115,ntmps115
   go_upto_region 5 with fail;go_region
   all_goals
    go_upto_region 6 with fail;generalize (w.alloc (.cells #[g n x.kind,g n x.core,g n x.m.page,g n x.m.size,g n x.m.frame,g n x.m.rights,g n x.a.page,g n x.a.kind,D x.a.user] 79)).alloc (.cells #[g n 0,D o,g n 0,g n 0,g n 0,D o] 72)=w1 at*
    generalize w.heap.size+1=E at*
    have g3:=h3.drew;have y0:=x0.drew;go_wp2_with fail
    refine(eC 1 _).mono ?_;rintro e w7 ⟨rfl,b7⟩;have h7:=g3.below b7;have x7:=y0.below b7;clear g3 y0 b7;obtain⟨e0,e1,e2,e3,e4,e5⟩:=h7.cells6;obtain⟨f0,f1,f2,f3,f4,f5⟩:=h7.frees6;have el:=h7.lt;go_wp2_with fail
    refine ay (fun wz=>J wz (aa E #[g n 1,D o,g n 0,g n 0,g n 0,D o] 72*(ah b σ*(aa w.heap.size #[g n x.kind,g n x.core,g n x.m.page,g n x.m.size,g n x.m.frame,g n x.m.rights,g n x.a.page,g n x.a.kind,D x.a.user] 79*R)))∧L w wz) ⟨h7.set6 _ _ _ _ _ _,aj⟩ ?_;rintro wz ⟨hz,xz⟩;exact H (aR results115 rfl (bh hz)) rfl ⟨rfl,hz.right.p2.right,xz⟩
  ·have n0:¬x.core<0:=by omega
   go_enter func115,ntmps115;go_upto_region 5 with fail;go_region
   all_goals
    go_upto_region 6 with fail;generalize (w.alloc (.cells #[g n x.kind,g n x.core,g n x.m.page,g n x.m.size,g n x.m.frame,g n x.m.rights,g n x.a.page,g n x.a.kind,D x.a.user] 79)).alloc (.cells #[g n 0,D o,g n 0,g n 0,g n 0,D o] 72)=w1 at*
    generalize w.heap.size+1=E at*
    have g3:=h3.drew;have y0:=x0.drew;go_wp2_with fail
    refine(eC 1 _).mono ?_;rintro e w7 ⟨rfl,b7⟩;have h7:=g3.below b7;have x7:=y0.below b7;clear g3 y0 b7;obtain⟨e0,e1,e2,e3,e4,e5⟩:=h7.cells6;obtain⟨f0,f1,f2,f3,f4,f5⟩:=h7.frees6;have el:=h7.lt;go_wp2_with fail
    refine ay (fun wz=>J wz (aa E #[g n 1,D o,g n 0,g n 0,g n 0,D o] 72*(ah b σ*(aa w.heap.size #[g n x.kind,g n x.core,g n x.m.page,g n x.m.size,g n x.m.frame,g n x.m.rights,g n x.a.page,g n x.a.kind,D x.a.user] 79*R)))∧L w wz) ⟨h7.set6 _ _ _ _ _ _,aj⟩ ?_;rintro wz ⟨hz,xz⟩;exact H (aR results115 rfl (bh hz)) rfl ⟨rfl,hz.right.p2.right,xz⟩
 obtain⟨k,hk⟩:=Int.eq_ofNat_of_zero_le (show 0≤x.core by omega);have hkl:k<σ.cs.length:=by omega
 have ea:σ.act x=if x.kind=4 then σ.access k x.a else if x.kind=5 then σ.walk k else if x.kind=6 then σ.ack k else σ.evict k:=by
  unfold Sc.act;rw[if_neg hc,if_neg hc2,if_neg hc3,hk];rfl
 have hcr:=Sc.core_ok hok k;have hat:=Safe.at_core hkl;obtain⟨hop,_,hMo,hAc⟩:=hx;obtain⟨kx,cx,mx,ax⟩:=x;dsimp only at*
 subst hk;have HACK:=F (fun R w h=>AU b σ k hok hkl R w h);unfold Ev.val at HACK;clear hc hc2 hc3 hq hop;obtain⟨y,hy,h4⟩:=cj h0;unfold bq at h4;have hkp:k<y.ps.length:=by omega
 have hkl':(k:Int)<y.ps.length:=by omega
 obtain⟨Q,eQ,eS⟩:=jc (I hkp) hat;obtain⟨bA,hA,lA,cA⟩:=gW h4.right (I hkp);have hpk:=I hkp;rw[eQ] at h4;have HS:=F (fun(s':Ms) (c':Cr) (w':K) (R':ab) (h:J w' (bq b {σ.put k c' with s:=s'} y R'))=>cY (σ:={σ.put k c' with s:=s'}) (by rw[hy];exact(Sc.put_len σ k c').symm) h);unfold bq Sc.put at HS;dsimp only at HS;have HS2:=F (fun(s':Ms) (c':Cr) (w':K) (R':ab) h=>HS.out s' c' w' R' (by rw[eS c'];exact h));have hset:σ.cs.set k (σ.core k)=σ.cs:=vo hat;clear HS eS eQ hy hat;obtain⟨b0,b1,b2,b3,b4,b5⟩:=h4.cells6;have bl:=h4.lt;rw[hA] at b2;generalize y.ps[k]=p at*
 have h5:J _ (cg p (σ.core k).l 0 (σ.core k).k *(cO y.f σ.s*((aa b #[.pointer (B (C y.f 0 u)),g n 0,.slice y.A y.ps.length y.c,.pointer (B (C y.sh 0 u)),D σ.busy,.slice y.G σ.gone.length y.d] 193*(bT (.slice y.A y.ps.length y.c) y.ps*(aq (.slice y.G σ.gone.length y.d) σ.gone*(aD y.sh σ.told σ.wait*Q))))*(aa w.heap.size #[g n kx,g n k,g n mx.page,g n mx.size,g n mx.frame,g n mx.rights,g n ax.page,g n ax.kind,D ax.user] 79*(aa (w.heap.size+1) #[g n 0,D o,g n 0,g n 0,g n 0,D o] 72*R))))):=h4.drew.eq (by ac_rfl);have HS3:=F (fun(s':Ms) (c':Cr) (w':K) (R':ab) (h:J w' (cg p c'.l 0 c'.k*(cO y.f s'*((aa b #[.pointer (B (C y.f 0 u)),g n 0,.slice y.A y.ps.length y.c,.pointer (B (C y.sh 0 u)),D σ.busy,.slice y.G σ.gone.length y.d] 193*(bT (.slice y.A y.ps.length y.c) y.ps*(aq (.slice y.G σ.gone.length y.d) σ.gone*(aD y.sh σ.told σ.wait*Q))))*R'))))=>HS2.out s' c' w' R' (h.eq (by ac_rfl)));generalize (aa b #[.pointer (B (C y.f 0 u)),g n 0,.slice y.A y.ps.length y.c,.pointer (B (C y.sh 0 u)),D σ.busy,.slice y.G σ.gone.length y.d] 193*(bT (.slice y.A y.ps.length y.c) y.ps*(aq (.slice y.G σ.gone.length y.d) σ.gone*(aD y.sh σ.told σ.wait*Q))))=Z at*
 have h0d:=h0.drew;have x0d:=x0.drew;obtain⟨-,-,d2,d3,d4,d5,d6,d7,d8⟩:=h0.right.cells9;clear h0 h4 HS2;have hk0:¬(k:Int)<0:=by omega
 by_cases o4:kx=4
 ·as_aux_lemma=>
  rw[ea,if_pos o4];unfold Sc.access;have HB:=F (fun R w h=>yy p (σ.core k).l 0 (σ.core k).k ax hcr.1 hAc.1 R w h);generalize σ.core k=cc at*
  generalize dv cc.l 0 cc.k ax=q at*
  obtain⟨⟨qa,qf,qr⟩,fin,code,ck'⟩:=q;have HS4:=F (HS3.out σ.s ⟨cc.l,ck'⟩);unfold Ev.val;dsimp only at*
  subst o4;clear HACK h0d ea hcr HS3;go_enter func115,ntmps115;go_upto_region 5 with fail;go_region;go_upto_region 7 with fail;go_region;go_upto_region 10 with fail;generalize (w.alloc (.cells #[g n 4,g n k,g n mx.page,g n mx.size,g n mx.frame,g n mx.rights,g n ax.page,g n ax.kind,D ax.user] 79)).alloc (.cells #[g n 0,D o,g n 0,g n 0,g n 0,D o] 72)=w1 at*
  generalize w.heap.size=X at*
  generalize X+1=E at*
  have g5:=h5.drew;have y0:=x0d.drew;have e3:=g5.r3.cell 6;have e4:=g5.r3.cell 7;have e5:=g5.r3.cell 8;have el:=g5.r3.lt;clear h5 x0d b0 b1 b2 b3 b4 b5 bl cA lA c0 d2 d3 d4 d5 d6 d7 d8 xl;go_wp2_with fail
  with_reducible refine(HB.out _ _ g5).mono ?_
  rintro e w5 ⟨rfl,h6,x6⟩;have x7:=y0.trans x6;clear g5 y0 x6 HB e3 e4 e5 el;go_wp2_with fail
  refine(xX qa qf qr code fin _).mono ?_;rintro e w6 ⟨rfl,b6⟩;have h7:J w6 (aa E #[g n 0,D o,g n 0,g n 0,g n 0,D o] 72*(cg p cc.l 0 ck'*(cO y.f σ.s*(Z*(aa X #[g n 4,g n k,g n mx.page,g n mx.size,g n mx.frame,g n mx.rights,g n ax.page,g n ax.kind,D ax.user] 79*R))))):=(h6.below b6).eq (by ac_rfl);have x8:=x7.below b6;clear h6 x7 b6;obtain⟨e0,e1,e2,e3,e4,e5⟩:=h7.cells6;obtain⟨f0,f1,f2,f3,f4,f5⟩:=h7.frees6;have el:=h7.lt;go_wp2_with fail
  refine ay (fun wz=>J wz (aa E #[g n code,D fin,g n qa,g n qf,g n qr,D o] 72*(cg p cc.l 0 ck'*(cO y.f σ.s*(Z*(aa X #[g n 4,g n k,g n mx.page,g n mx.size,g n mx.frame,g n mx.rights,g n ax.page,g n ax.kind,D ax.user] 79*R)))))∧L w wz) ⟨h7.set6 _ _ _ _ _ _,aj⟩ ?_;rintro wz ⟨hz,xz⟩;exact H (aR results115 rfl (bh hz)) rfl ⟨rfl,(HS4.out _ (aa X #[g n 4,g n k,g n mx.page,g n mx.size,g n mx.frame,g n mx.rights,g n ax.page,g n ax.kind,D ax.user] 79*R) hz.right).p2.right,xz⟩
 by_cases o5:kx=5
 ·as_aux_lemma=>
  rw[ea,if_neg o4,if_pos o5];unfold Sc.walk;have HB:=F (fun R w h=>zD p y.f (σ.core k) σ.s hcr R w h);generalize σ.core k=cc at*
  have HKL:Hid (∃l',iz cc.l (be σ.s 0 cc.k).r =l'):=F ⟨_,rfl⟩;obtain⟨l',hl'⟩:=HKL.out;rw[hl'] at HB⊢;clear hl' HKL;generalize be σ.s 0 cc.k=q at*
  obtain⟨ck',s',⟨fin,⟨qa,qf,qr⟩,ln⟩,code⟩:=q;have HS4:=F (HS3.out s' ⟨l',ck'⟩);unfold Ev.val;dsimp only at*
  subst o5;clear HACK h0d ea hcr HS3 o4;go_enter func115,ntmps115;go_upto_region 5 with fail;go_region;go_upto_region 7 with fail;go_region;go_upto_region 12 with fail;generalize (w.alloc (.cells #[g n 5,g n k,g n mx.page,g n mx.size,g n mx.frame,g n mx.rights,g n ax.page,g n ax.kind,D ax.user] 79)).alloc (.cells #[g n 0,D o,g n 0,g n 0,g n 0,D o] 72)=w1 at*
  generalize w.heap.size=X at*
  generalize X+1=E at*
  have g5:=h5.drew;have y0:=x0d.drew;clear h5 x0d b1 b2 b3 b4 b5 cA lA c0 d2 d3 d4 d5 d6 d7 d8 xl;go_wp2_with fail
  with_reducible refine(HB.out _ _ g5).mono ?_
  rintro e w5 ⟨rfl,h6,x6⟩;have x7:=y0.trans x6;clear g5 y0 x6 HB b0 bl;go_wp2_with fail
  refine(xX qa qf qr code fin _).mono ?_;rintro e w6 ⟨rfl,b6⟩;have h7:J w6 (aa E #[g n 0,D o,g n 0,g n 0,g n 0,D o] 72*(cg p l' 0 ck'*(cO y.f s'*(Z*(aa X #[g n 5,g n k,g n mx.page,g n mx.size,g n mx.frame,g n mx.rights,g n ax.page,g n ax.kind,D ax.user] 79*R))))):=(h6.below b6).eq (by ac_rfl);have x8:=x7.below b6;clear h6 x7 b6;obtain⟨e0,e1,e2,e3,e4,e5⟩:=h7.cells6;obtain⟨f0,f1,f2,f3,f4,f5⟩:=h7.frees6;have el:=h7.lt;go_wp2_with fail
  refine ay (fun wz=>J wz (aa E #[g n code,D fin,g n qa,g n qf,g n qr,D o] 72*(cg p l' 0 ck'*(cO y.f s'*(Z*(aa X #[g n 5,g n k,g n mx.page,g n mx.size,g n mx.frame,g n mx.rights,g n ax.page,g n ax.kind,D ax.user] 79*R)))))∧L w wz) ⟨h7.set6 _ _ _ _ _ _,aj⟩ ?_;rintro wz ⟨hz,xz⟩;exact H (aR results115 rfl (bh hz)) rfl ⟨rfl,(HS4.out _ (aa X #[g n 5,g n k,g n mx.page,g n mx.size,g n mx.frame,g n mx.rights,g n ax.page,g n ax.kind,D ax.user] 79*R) hz.right).p2.right,xz⟩
 by_cases o6:kx=6
 ·as_aux_lemma=>
  rw[ea,if_neg o4,if_neg o5,if_pos o6];unfold Ev.val;clear h5 HS3 ea hcr o4 o5;generalize σ.ack k=q at*
  obtain⟨σ',⟨ec,ef,⟨qa,qb,qr⟩,ek⟩⟩:=q;dsimp only at*
  subst o6;go_enter func115,ntmps115;go_upto_region 5 with fail;go_region;go_upto_region 7 with fail;go_region;go_upto_region 14 with fail;generalize (w.alloc (.cells #[g n 6,g n k,g n mx.page,g n mx.size,g n mx.frame,g n mx.rights,g n ax.page,g n ax.kind,D ax.user] 79)).alloc (.cells #[g n 0,D o,g n 0,g n 0,g n 0,D o] 72)=w1 at*
  generalize w.heap.size=X at*
  generalize X+1=E at*
  have g5:=h0d.drew;have y0:=x0d.drew;have e1:=g5.right.cell 1;have el:=g5.right.lt;clear h0d x0d b0 b1 b2 b3 b4 b5 bl cA lA c0 d2 d3 d4 d5 d6 d7 d8 xl;go_wp2_with fail
  with_reducible refine(HACK.out _ _ g5).mono ?_
  rintro e w5 ⟨rfl,h6,x6⟩;have h7:J w5 (aa E #[g n 0,D o,g n 0,g n 0,g n 0,D o] 72*(ah b σ'*(aa X #[g n 6,g n k,g n mx.page,g n mx.size,g n mx.frame,g n mx.rights,g n ax.page,g n ax.kind,D ax.user] 79*R))):=h6.eq (by ac_rfl);have x8:=y0.trans x6;clear g5 y0 x6 h6 HACK e1 el;obtain⟨e0,e1,e2,e3,e4,e5⟩:=h7.cells6;obtain⟨f0,f1,f2,f3,f4,f5⟩:=h7.frees6;have el:=h7.lt;go_wp2_with fail
  refine ay (fun wz=>J wz (aa E #[g n ec,D ef,g n qa,g n qb,g n qr,D ek] 72*(ah b σ'*(aa X #[g n 6,g n k,g n mx.page,g n mx.size,g n mx.frame,g n mx.rights,g n ax.page,g n ax.kind,D ax.user] 79*R)))∧L w wz) ⟨h7.set6 _ _ _ _ _ _,aj⟩ ?_;rintro wz ⟨hz,xz⟩;exact H (aR results115 rfl (bh hz)) rfl ⟨rfl,hz.right.p2.right,xz⟩
 have o7:kx=7:=by omega
 as_aux_lemma=>
  rw[ea,if_neg o4,if_neg o5,if_neg o6];unfold Sc.evict;have HE:=F (fun t R w h=>zp t (σ.core k).l R w h);clear HACK h0d ea hcr;generalize σ.core k=cc at*
  obtain⟨cl,ck⟩:=cc;dsimp only at*
  subst o7;cases cl with
  |nil=>
   rw[if_pos rfl];have HS4:=F (HS3.out σ.s ⟨[],ck⟩);rw[hset] at HS4;rw[show decide (0< ([]:List Ln).length)=o from rfl,show Tl.evict []=[] from rfl] at HE;unfold Ev.val Ev.no An.zero;dsimp only;clear HS3 hset;go_enter func115,ntmps115;go_upto_region 5 with fail;go_region;go_upto_region 7 with fail;go_region;go_upto_region 15 with fail;generalize (w.alloc (.cells #[g n 7,g n k,g n mx.page,g n mx.size,g n mx.frame,g n mx.rights,g n ax.page,g n ax.kind,D ax.user] 79)).alloc (.cells #[g n 0,D o,g n 0,g n 0,g n 0,D o] 72)=w1 at*
   generalize w.heap.size=X at*
   generalize X+1=E at*
   have g5:=h5.drew;have y0:=x0d.drew;clear h5 x0d b0 b1 b2 b3 b4 b5 bl cA lA c0 d2 d3 d4 d5 d6 d7 d8 xl;obtain⟨t,v,g4⟩:=eW g5;obtain⟨t0,t1⟩:=g4.cells2;have tl:=g4.lt;go_wp2_with fail
   with_reducible refine(HE.out _ _ _ g4.p2).mono ?_
   rintro e w5 ⟨rfl,h6,x6⟩;have x7:=y0.trans x6;clear g4 g5 t0 t1 tl y0 x6;have h6':J w5 (aa p #[.pointer (B (C t 0 u)),.pointer (B (C v 0 u))] 207*(bQ t []*(aO v 0 ck*(cO y.f σ.s*(Z*(aa X #[g n 7,g n k,g n mx.page,g n mx.size,g n mx.frame,g n mx.rights,g n ax.page,g n ax.kind,D ax.user] 79*(aa E #[g n 0,D o,g n 0,g n 0,g n 0,D o] 72*R))))))):=h6.eq (by ac_rfl);have h7:J w5 (aa E #[g n 0,D o,g n 0,g n 0,g n 0,D o] 72*(cg p [] 0 ck*(cO y.f σ.s*(Z*(aa X #[g n 7,g n k,g n mx.page,g n mx.size,g n mx.frame,g n mx.rights,g n ax.page,g n ax.kind,D ax.user] 79*R))))):=(ei h6').eq (by ac_rfl);clear h6 h6';have g7:=h7;have y7:=x7;clear h7 x7;go_wp2_with fail
   refine(eC 9 _).mono ?_;rintro e w7 ⟨rfl,b7⟩;have h7:=g7.below b7;have x7:=y7.below b7;clear g7 y7 b7;obtain⟨e0,e1,e2,e3,e4,e5⟩:=h7.cells6;obtain⟨f0,f1,f2,f3,f4,f5⟩:=h7.frees6;have el:=h7.lt;go_wp2_with fail
   refine ay (fun wz=>J wz (aa E #[g n 9,D o,g n 0,g n 0,g n 0,D o] 72*(cg p [] 0 ck*(cO y.f σ.s*(Z*(aa X #[g n 7,g n k,g n mx.page,g n mx.size,g n mx.frame,g n mx.rights,g n ax.page,g n ax.kind,D ax.user] 79*R)))))∧L w wz) ⟨h7.set6 _ _ _ _ _ _,aj⟩ ?_;rintro wz ⟨hz,xz⟩;exact H (aR results115 rfl (bh hz)) rfl ⟨rfl,(HS4.out _ (aa X #[g n 7,g n k,g n mx.page,g n mx.size,g n mx.frame,g n mx.rights,g n ax.page,g n ax.kind,D ax.user] 79*R) hz.right).p2.right,xz⟩
  |cons z cl=>
   rw[if_neg (by simp)];have HS4:=F (HS3.out σ.s ⟨Tl.evict (z::cl),ck⟩);rw[show decide (0< (z::cl).length)=N from decide_eq_true (by simp)] at HE;unfold Ev.val Ev.no An.zero;dsimp only;clear HS3 hset;generalize Tl.evict (z::cl)=l' at*
   go_enter func115,ntmps115;go_upto_region 5 with fail;go_region;go_upto_region 7 with fail;go_region;go_upto_region 15 with fail;generalize (w.alloc (.cells #[g n 7,g n k,g n mx.page,g n mx.size,g n mx.frame,g n mx.rights,g n ax.page,g n ax.kind,D ax.user] 79)).alloc (.cells #[g n 0,D o,g n 0,g n 0,g n 0,D o] 72)=w1 at*
   generalize w.heap.size=X at*
   generalize X+1=E at*
   have g5:=h5.drew;have y0:=x0d.drew;clear h5 x0d b0 b1 b2 b3 b4 b5 bl cA lA c0 d2 d3 d4 d5 d6 d7 d8 xl;obtain⟨t,v,g4⟩:=eW g5;obtain⟨t0,t1⟩:=g4.cells2;have tl:=g4.lt;go_wp2_with fail
   with_reducible refine(HE.out _ _ _ g4.p2).mono ?_
   rintro e w5 ⟨rfl,h6,x6⟩;have x7:=y0.trans x6;clear g4 g5 t0 t1 tl y0 x6;have h6':J w5 (aa p #[.pointer (B (C t 0 u)),.pointer (B (C v 0 u))] 207*(bQ t l'*(aO v 0 ck*(cO y.f σ.s*(Z*(aa X #[g n 7,g n k,g n mx.page,g n mx.size,g n mx.frame,g n mx.rights,g n ax.page,g n ax.kind,D ax.user] 79*(aa E #[g n 0,D o,g n 0,g n 0,g n 0,D o] 72*R))))))):=h6.eq (by ac_rfl);have h7:J w5 (aa E #[g n 0,D o,g n 0,g n 0,g n 0,D o] 72*(cg p l' 0 ck*(cO y.f σ.s*(Z*(aa X #[g n 7,g n k,g n mx.page,g n mx.size,g n mx.frame,g n mx.rights,g n ax.page,g n ax.kind,D ax.user] 79*R))))):=(ei h6').eq (by ac_rfl);clear h6 h6';obtain⟨e0,e1,e2,e3,e4,e5⟩:=h7.cells6;obtain⟨f0,f1,f2,f3,f4,f5⟩:=h7.frees6;have el:=h7.lt;go_wp2_with fail
   refine ay (fun wz=>J wz (aa E #[g n 0,D o,g n 0,g n 0,g n 0,D o] 72*(cg p l' 0 ck*(cO y.f σ.s*(Z*(aa X #[g n 7,g n k,g n mx.page,g n mx.size,g n mx.frame,g n mx.rights,g n ax.page,g n ax.kind,D ax.user] 79*R)))))∧L w wz) ⟨h7.set6 _ _ _ _ _ _,aj⟩ ?_;rintro wz ⟨hz,xz⟩;exact H (aR results115 rfl (bh hz)) rfl ⟨rfl,(HS4.out _ (aa X #[g n 7,g n k,g n mx.page,g n mx.size,g n mx.frame,g n mx.rights,g n ax.page,g n ax.kind,D ax.user] 79*R) hz.right).p2.right,xz⟩
theorem Safe.calm{σ:Sc}{P:List Mp}(h:Safe σ P)(hb:σ.busy=o):ga σ.wait=N:=by
 have:=(h.quiet hb).2;unfold ga;simp[this]
end Go.Proofs.YtmfheghbgihdmaaGreatDoor
