/- Contract of the document's Space: ack. -/
import Derived.Test.YtmfheghbgihdmaaGreatRspP
import Derived.Test.YtmfheghbgihdmaaGreatTabDR
import Derived.Test.YtmfheghbgihdmaaGreatScE
import Derived.Test.YtmfheghbgihdmaaGreatWkr
import Derived.Test.YtmfheghbgihdmaaGreatTblM3
import Derived.Test.YtmfheghbgihdmaaGreatEntry5
import Derived.Test.YtmfheghbgihdmaaGreatRefPage
import Derived.Test.YtmfheghbgihdmaaGreatInsM2
import Derived.Test.YtmfheghbgihdmaaGreatRefEnt5
import Derived.BigQuiet
import Derived.Deep.RegionHeld3
namespace Go.Proofs.YtmfheghbgihdmaaGreat
open Go.IntKind renaming u64→vU
open Option renaming none→d,some→f
open Go.Value renaming int→g,bool→D
open Go.IntKind renaming i64→o
open Go.Addr renaming mk→u
open Bool renaming false→x,true→z
open Go.Lib renaming hid→C
open Go.Proofs.YtmfheghbgihdmaaGreat.Good renaming const→F,till→G,and→J
open Go.Proofs.YtmfheghbgihdmaaGreat renaming Has→H,Ext→O
open List renaming getElem?_eq_getElem→I
open Go renaming World→M,bodyPost_ret→N,Calls→T,Addr→U
open Tryz
open Go.RowKit
set_option maxRecDepth 100000
set_option maxHeartbeats 8000000 in
theorem xS(b:Nat)(σ:Sc)(k:Nat)(hok:σ.Ok)(hk:k<σ.cs.length)(R:ab)(w:M)(h:H w (cq b σ*R)):
  T prog 69 #[.pointer (f (u b 0 d)),g o k] w (cI (σ.ack k).2.val (cq b (σ.ack k).1*R) w):=by
 have hc:=Sc.core_ok hok k;have hat:=Safe.at_core hk;obtain⟨s,cs,td,wt,bz,gn⟩:=σ;obtain⟨y,hy,h⟩:=fQ h;obtain⟨ym,yA,yc,yps,yG,yd,ygw⟩:=y;unfold fy at h;dsimp only at*
 have hkp:k<yps.length:=by omega
 have hkl:(k:Int)<yps.length:=by omega
 have hk0:(0:Int)≤k:=by omega
 have hfew:yps.length≤4:=by have:=hok.few;dsimp only at this;omega
 obtain⟨Q,eQ,eS⟩:=kJ (I hkp) hat;obtain⟨bA,hA,-,-⟩:=kv h.right (I hkp);have hpk:=I hkp;subst hA;have e:Sc.ack ⟨s,cs,td,wt,bz,gn⟩ k=if wt k=x then(⟨s,cs,td,wt,bz,gn⟩,.no 9) else if dY (cB wt k)=z then(⟨bx s gn,cs.set k ⟨Tl.drop (Sc.core ⟨s,cs,td,wt,bz,gn⟩ k).l td,(Sc.core ⟨s,cs,td,wt,bz,gn⟩ k).k.again 0⟩,td,cB wt k,x,[]⟩,⟨0,x,An.zero,z⟩)
   else(⟨s,cs.set k ⟨Tl.drop (Sc.core ⟨s,cs,td,wt,bz,gn⟩ k).l td,(Sc.core ⟨s,cs,td,wt,bz,gn⟩ k).k.again 0⟩,td,cB wt k,bz,gn⟩,.no 0):=rfl
 have hwl:∀i,yps.length≤i→wt i=x:=fun i hi=>hok.w i (by dsimp only;omega);have HSH:=C (fun(s':Ms) (cs':List Cr) (ws':Nat→Bool) (bz':Bool) (gn':List Int) (yG':Option U) (yd':Nat) (w':M) (R':ab) (hl:yps.length=cs'.length) (h:H w' (fy b ⟨s',cs',td,ws',bz',gn'⟩ ⟨ym,f (u bA 0 d),yc,yps,yG',yd',ygw⟩ R'))=>fR (σ:=⟨s',cs',td,ws',bz',gn'⟩) hl h);unfold fy at HSH;dsimp only at HSH;have hms:s.Ok:=hok.s;have HTD:=C hok.told.1;have h1:H _ (aa ygw (bm yps.length (bI (wt))) 4*(aa b #[.pointer (f (u ym 0 d)),g o 0,.slice (f (u bA 0 d)) yps.length yc,D bz,.slice yG gn.length yd,g o td.page,g o td.size,g o td.frame,g o td.rights,.slice (f (u ygw 0 d)) yps.length yps.length] 52*(aa w.heap.size #[g o 0,D x,g o 0,g o 0,g o 0,D x] 36*(bF (.slice (f (u bA 0 d)) yps.length yc) yps*(ao (.slice yG gn.length yd) gn*(aL yps cs*(az ym s*R))))))):=(h.new #[g o 0,D x,g o 0,g o 0,g o 0,D x] 36).eq (by ac_rfl);have x1:=(Ext.refl w).alloc (.cells #[g o 0,D x,g o 0,g o 0,g o 0,D x] 36);clear h hok hk;have q0:_=f (D (wt k)):=h1.tabGet hkp;have ql:=h1.lt;have c9:=h1.right.cell 9;have cl:=h1.right.lt;cases hw:wt k with
 |false=>
  rw[if_pos hw] at e;rw[e];rw[hw] at q0;have HS1:=C (fun w' R' h=>HSH.out s cs wt bz gn yG yd w' R' hy h);clear e hw hc hat eQ eS HSH hwl hms HTD hy;go_enter func69,ntmps69;go_upto_region 2 with fail;generalize w.alloc _=w1 at*
  generalize w.heap.size=E at*
  clear q0 ql c9 cl;have h2:H _ (aa E #[g o 0,D x,g o 0,g o 0,g o 0,D x] 36*(aa b #[.pointer (f (u ym 0 d)),g o 0,.slice (f (u bA 0 d)) yps.length yc,D bz,.slice yG gn.length yd,g o td.page,g o td.size,g o td.frame,g o td.rights,.slice (f (u ygw 0 d)) yps.length yps.length] 52*(bF (.slice (f (u bA 0 d)) yps.length yc) yps*(ao (.slice yG gn.length yd) gn*(aa ygw (bm yps.length (bI (wt))) 4*(aL yps cs*(az ym s*R))))))):=h1.eq (by ac_rfl);obtain⟨e0,e1,e2,e3,e4,e5⟩:=h2.cells6;obtain⟨f0,f1,f2,f3,f4,f5⟩:=h2.frees6;have el:=h2.lt;go_wp2_with fail
  refine ak (fun wz=>H wz (aa E #[g o 9,D x,g o 0,g o 0,g o 0,D x] 36*(aa b #[.pointer (f (u ym 0 d)),g o 0,.slice (f (u bA 0 d)) yps.length yc,D bz,.slice yG gn.length yd,g o td.page,g o td.size,g o td.frame,g o td.rights,.slice (f (u ygw 0 d)) yps.length yps.length] 52*(bF (.slice (f (u bA 0 d)) yps.length yc) yps*(ao (.slice yG gn.length yd) gn*(aa ygw (bm yps.length (bI (wt))) 4*(aL yps cs*(az ym s*R)))))))∧O w wz) ⟨h2.set6 _ _ _ _ _ _,ah⟩ ?_;rintro wz ⟨hz,xz⟩;exact N (aD results69 rfl (aN hz)) rfl ⟨rfl,HS1.out _ _ hz.right,xz⟩
 |true=>
  rw[if_neg (by rw[hw];simp)] at e;rw[hw] at q0;generalize Sc.core ⟨s,cs,td,wt,bz,gn⟩ k=cc at*
  have hlen:yps.length=(cs.set k ⟨Tl.drop cc.l td,cc.k.again 0⟩).length :=by rw[List.length_set];exact hy
  have HLEN:=C hlen;have eS1:=eS ⟨Tl.drop cc.l td,cc.k.again 0⟩;clear hlen;generalize hcs':cs.set k ⟨Tl.drop cc.l td,cc.k.again 0⟩=cs' at*
  have hak:∀i,yps.length≤i→cB wt k i=x:=fun i hi=>by
   by_cases hik:i=k
   ·rw[hik];exact Safe.ack_off wt k
   ·rw[Safe.ack_ne wt hik];exact hwl i hi
  have HD:=C (fun R w h=>vQ (yps[k]'hkp) cc.l cc.k td R w hc.1 HTD.out h);have HG:=C (fun R w h=>nL (yps[k]'hkp) 0 (Tl.drop cc.l td) cc.k R w h);obtain⟨ev,hev⟩:∃ev,Sc.ack ⟨s,cs,td,wt,bz,gn⟩ k=ev:=⟨_,rfl⟩;rw[hev] at e⊢;have HE1:=C (fun(ho:dY (cB wt k)=z)=>e.trans (if_pos ho));have HE2:=C (fun(ho:dY (cB wt k)=x)=>e.trans (if_neg (by rw[ho];simp)));have HOT:Hid ((∀i,i<yps.length→cB wt k i=x)→dY (cB wt k)=z):=C fun ha=>by
   have ha':∀i,cB wt k i=x:=fun i=>if hi:i<yps.length then ha i hi else hak i (by omega)
   unfold dY;rw[ha',ha',ha',ha'];rfl
  have HOF:Hid (∀i,i<yps.length→cB wt k i=z→dY (cB wt k)=x):=C fun i hi ha=>by
   cases ho:dY (cB wt k) with
   |false=>rfl
   |true=>
    unfold dY at ho;have:i=0∨i=1∨i=2∨i=3:=by omega
    rcases this with rfl|rfl|rfl|rfl<;>simp[ha] at ho
  obtain⟨σ2,⟨ec,ef,⟨ea,eb,er⟩,ek⟩⟩:=ev;rw[eQ] at h1;have h2:H _ (aQ (yps[k]'hkp) cc.l cc.k*(aa b #[.pointer (f (u ym 0 d)),g o 0,.slice (f (u bA 0 d)) yps.length yc,D bz,.slice yG gn.length yd,g o td.page,g o td.size,g o td.frame,g o td.rights,.slice (f (u ygw 0 d)) yps.length yps.length] 52*(bF (.slice (f (u bA 0 d)) yps.length yc) yps*(aa ygw (bm yps.length (bI (cB wt k))) 4*(aa w.heap.size #[g o 0,D x,g o 0,g o 0,g o 0,D x] 36*(ao (.slice yG gn.length yd) gn*(Q*(az ym s*R)))))))):=((h1.tabSet k (D x)).tabExt (f':=bI (cB wt k)) (fun j _=>by
   unfold bI cB bU;by_cases hjk:j=k
   ·rw[if_pos hjk];simp[hjk]
   ·rw[if_neg hjk];simp[hjk])).eq (by ac_rfl)
  have x2:=x1.set (u ygw k d) (D x);have qf:=h1.free k;unfold Ev.val;dsimp only;clear hev e hw hc hat eQ eS hwl hy hak hcs';go_enter func69,ntmps69;go_upto_region 4 with fail;generalize (w.alloc (.cells #[g o 0,D x,g o 0,g o 0,g o 0,D x] 36)).setCell (u ygw k d) (D x)=w2 at*
  generalize w.heap.size=E at*
  clear h1 x1 q0 ql c9 cl qf;generalize yps[k]=p at*
  have HK:=C (fun(w':M) (P Q':ab) (h:H w' (P*(aa b #[.pointer (f (u ym 0 d)),g o 0,.slice (f (u bA 0 d)) yps.length yc,D bz,.slice yG gn.length yd,g o td.page,g o td.size,g o td.frame,g o td.rights,.slice (f (u ygw 0 d)) yps.length yps.length] 52*(bF (.slice (f (u bA 0 d)) yps.length yc) yps*Q'))))=>(by
   obtain⟨b2,e2,l2,q2⟩:=kv h.right.right hpk;injection e2 with e2;injection e2 with e2
   subst e2;exact⟨h.right.cell 1,h.right.cell 2,h.right.cell 5,h.right.cell 6,h.right.cell 7,h.right.cell 8,q2⟩:w'.cell? (u b 1 d)=f (g o 0)∧w'.cell? (u b 2 d)=f (.slice (f (u bA 0 d)) yps.length yc)∧w'.cell? (u b 5 d)=f (g o td.page)∧w'.cell? (u b 6 d)=f (g o td.size)∧w'.cell? (u b 7 d)=f (g o td.frame)∧w'.cell? (u b 8 d)=f (g o td.rights)∧w'.cell? (u bA k d)=f (.pointer (f (u p 0 d)))))
  have HL:=C (fun(w':M) (P Q':ab) (h:H w' (P*(aa b #[.pointer (f (u ym 0 d)),g o 0,.slice (f (u bA 0 d)) yps.length yc,D bz,.slice yG gn.length yd,g o td.page,g o td.size,g o td.frame,g o td.rights,.slice (f (u ygw 0 d)) yps.length yps.length] 52*(bF (.slice (f (u bA 0 d)) yps.length yc) yps*Q'))))=>(by
   obtain⟨b2,e2,l2,q2⟩:=kv h.right.right hpk;injection e2 with e2;injection e2 with e2
   subst e2;exact⟨h.right.lt,l2⟩:b<w'.heap.size∧bA<w'.heap.size))
  obtain⟨cl,al⟩:=HL.out _ _ _ h2;have hd:=h2.drew;have xd:=x2.drew;go_cut [] from 22 to 33 (fun wx=>H wx (aQ p (Tl.drop cc.l td) cc.k*(aa b #[.pointer (f (u ym 0 d)),g o 0,.slice (f (u bA 0 d)) yps.length yc,D bz,.slice yG gn.length yd,g o td.page,g o td.size,g o td.frame,g o td.rights,.slice (f (u ygw 0 d)) yps.length yps.length] 52*(bF (.slice (f (u bA 0 d)) yps.length yc) yps*(aa ygw (bm yps.length (bI (cB wt k))) 4*(aa E #[g o 0,D x,g o 0,g o 0,g o 0,D x] 36*(ao (.slice yG gn.length yd) gn*(Q*(az ym s*R))))))))∧O w wx)
  case first=>
   clear HSH HG HE1 HE2 HOT HOF hkp;go_region_held3 (fun w'=>w'.cell? (u b 1 d)=f (g o 0)∧w'.cell? (u b 2 d)=f (.slice (f (u bA 0 d)) yps.length yc)∧w'.cell? (u b 5 d)=f (g o td.page)∧w'.cell? (u b 6 d)=f (g o td.size)∧w'.cell? (u b 7 d)=f (g o td.frame)∧w'.cell? (u b 8 d)=f (g o td.rights)∧w'.cell? (u bA k d)=f (.pointer (f (u p 0 d)))) (first|(with_reducible exact HK.out _ _ _ hd)|(with_reducible exact HK.out _ _ _ h5)|go_keep) (first|(go_at_call 126;(with_reducible refine(HD.out _ _ hd).mono ?_);rintro e w5 ⟨rfl,h5,x5⟩))
   all_goals
    go_wp2_with fail
    go_meet
    case rel=>exact⟨h5,xd.trans x5⟩
  case rest=>
   obtain⟨h3,x3⟩:=hcut;clear hd xd h2 x2 HD cl al;generalize Tl.drop cc.l td=l' at*
   obtain⟨cl,al⟩:=HL.out _ _ _ h3;have hd:=h3.drew;have xd:=x3.drew;go_upto_region 5 with fail;go_cut [] from 34 to 45 (fun wx=>H wx (aa ygw (bm yps.length (bI (cB wt k))) 4*(aa b #[.pointer (f (u ym 0 d)),g o 0,.slice (f (u bA 0 d)) yps.length yc,D bz,.slice yG gn.length yd,g o td.page,g o td.size,g o td.frame,g o td.rights,.slice (f (u ygw 0 d)) yps.length yps.length] 52*(bF (.slice (f (u bA 0 d)) yps.length yc) yps*(ao (.slice yG gn.length yd) gn*(aL yps cs'*(az ym s*(aa E #[g o 0,D x,g o 0,g o 0,g o 0,D x] 36*R)))))))∧O w wx)
   case first=>
    clear HSH HE1 HE2 HOT HOF;go_region_held3 (fun w'=>w'.cell? (u b 1 d)=f (g o 0)∧w'.cell? (u b 2 d)=f (.slice (f (u bA 0 d)) yps.length yc)∧w'.cell? (u b 5 d)=f (g o td.page)∧w'.cell? (u b 6 d)=f (g o td.size)∧w'.cell? (u b 7 d)=f (g o td.frame)∧w'.cell? (u b 8 d)=f (g o td.rights)∧w'.cell? (u bA k d)=f (.pointer (f (u p 0 d)))) (first|(with_reducible exact HK.out _ _ _ hd)|(with_reducible exact HK.out _ _ _ h5)|go_keep) (first|(go_at_call 118;(with_reducible refine(HG.out _ _ hd).mono ?_);rintro e w5 ⟨rfl,h5,x5⟩))
    all_goals
     go_wp2_with fail
     go_meet
     case rel=>exact⟨h5.eq (by rw[eS1];ac_rfl),xd.trans x5⟩
   case rest=>
    obtain⟨h4,x4⟩:=hcut;clear hd xd h3 x3 HG HL HK cl al hpk eS1;go_wp2_with fail
    go_loopw [5] (fun t wz=>∃i:Nat,i≤yps.length∧t=g o i∧Hid (∀j,j<i→cB wt k j=x)∧H wz (aa ygw (bm yps.length (bI (cB wt k))) 4*(aa b #[.pointer (f (u ym 0 d)),g o 0,.slice (f (u bA 0 d)) yps.length yc,D bz,.slice yG gn.length yd,g o td.page,g o td.size,g o td.frame,g o td.rights,.slice (f (u ygw 0 d)) yps.length yps.length] 52*(bF (.slice (f (u bA 0 d)) yps.length yc) yps*(ao (.slice yG gn.length yd) gn*(aL yps cs'*(az ym s*(aa E #[g o 0,D x,g o 0,g o 0,g o 0,D x] 36*R)))))))∧O w wz) (fun t _=>yps.length - (intOf t).toNat)
    case atStart=>exact⟨0,by omega,rfl,C (fun j hj=>absurd hj (by omega)),h4,x4⟩
    case round=>
     clear h4 x4;obtain⟨i,hi,rfl,HA,hz,hxz⟩:=hrel;have c9:=hz.right.cell 9;have cl:=hz.right.lt;by_cases hil:i<yps.length
     ·have q0:_=f (D (cB wt k i)):=hz.tabGet hil
      have ql:=hz.lt;cases hai:cB wt k i with
      |true=>
       have e:=HE2.out (HOF.out i hil hai);rw[hai] at q0;clear hai HA HE1 HE2 HOT HOF;injection e with e1 e2
       subst e1;have HV:=C e2;clear e2;have h5:H _ (aa E #[g o 0,D x,g o 0,g o 0,g o 0,D x] 36*(aa ygw (bm yps.length (bI (cB wt k))) 4*(aa b #[.pointer (f (u ym 0 d)),g o 0,.slice (f (u bA 0 d)) yps.length yc,D bz,.slice yG gn.length yd,g o td.page,g o td.size,g o td.frame,g o td.rights,.slice (f (u ygw 0 d)) yps.length yps.length] 52*(bF (.slice (f (u bA 0 d)) yps.length yc) yps*(ao (.slice yG gn.length yd) gn*(aL yps cs'*(az ym s*R))))))):=hz.eq (by ac_rfl);obtain⟨e0,e1,e2,e3,e4,e5⟩:=h5.cells6;obtain⟨f0,f1,f2,f3,f4,f5⟩:=h5.frees6;have el:=h5.lt;go_wp2_with fail
       refine ak (fun wz=>H wz (aa E #[g o 0,D x,g o 0,g o 0,g o 0,D x] 36*(aa ygw (bm yps.length (bI (cB wt k))) 4*(aa b #[.pointer (f (u ym 0 d)),g o 0,.slice (f (u bA 0 d)) yps.length yc,D bz,.slice yG gn.length yd,g o td.page,g o td.size,g o td.frame,g o td.rights,.slice (f (u ygw 0 d)) yps.length yps.length] 52*(bF (.slice (f (u bA 0 d)) yps.length yc) yps*(ao (.slice yG gn.length yd) gn*(aL yps cs'*(az ym s*R)))))))∧O w wz) ⟨h5.set6 _ _ _ _ _ _,ah⟩ ?_;rintro wz ⟨hz,xz⟩;exact N (aD results69 rfl (aN hz)) rfl ⟨by have:=HV.out;injection this with a1 a2 a3 a4;injection a3 with a5 a6 a7;rw[a1,a2,a4,a5,a6,a7],HSH.out s cs' (cB wt k) bz gn yG yd _ R HLEN.out (hz.right.eq (by ac_rfl)),xz⟩
      |false=>
       rw[hai] at q0;have HA2:Hid (∀j,j<i+1→cB wt k j=x):=C fun j hj=>if hji:j<i then HA.out j hji else by rw[show j=i by omega];exact hai
       clear hai HA;go_wp2_with fail
       go_roundw
       case rel=>exact⟨i+1,by omega,by go_num,HA2,hz,hxz⟩
       case measure=>simp[intOf];omega
     ·obtain rfl:i=yps.length:=by omega
      have e:=HE1.out (HOT.out HA.out);clear HA HE1 HE2 HOT HOF;injection e with e1 e2
      have HX:=C e1;have HV:=C e2;clear e1 e2;have h5:H wr (az ym (bx s (gn.take 0))*(ao (.slice yG gn.length yd) gn*(aa b #[.pointer (f (u ym 0 d)),g o 0,.slice (f (u bA 0 d)) yps.length yc,D bz,.slice yG gn.length yd,g o td.page,g o td.size,g o td.frame,g o td.rights,.slice (f (u ygw 0 d)) yps.length yps.length] 52*(bF (.slice (f (u bA 0 d)) yps.length yc) yps*(aa ygw (bm yps.length (bI (cB wt k))) 4*(aL yps cs'*(aa E #[g o 0,D x,g o 0,g o 0,g o 0,D x] 36*R))))))):=hz.eq (by(rw[show bx s (gn.take 0)=s from rfl];ac_rfl));have hgs:=lM h5.right;clear hz c9 cl;obtain⟨c0,c1,c2,c3,c4,c5,c6,c7,c8,c9⟩:=h5.right.right.cells10;have cl:=h5.right.right.lt;go_wp2_with fail
      go_loopw [6] (fun t wz=>∃(j:Nat),j≤gn.length∧t=g o j∧H wz (az ym (bx s (gn.take j))*(ao (.slice yG gn.length yd) gn*(aa b #[.pointer (f (u ym 0 d)),g o 0,.slice (f (u bA 0 d)) yps.length yc,D bz,.slice yG gn.length yd,g o td.page,g o td.size,g o td.frame,g o td.rights,.slice (f (u ygw 0 d)) yps.length yps.length] 52*(bF (.slice (f (u bA 0 d)) yps.length yc) yps*(aa ygw (bm yps.length (bI (cB wt k))) 4*(aL yps cs'*(aa E #[g o 0,D x,g o 0,g o 0,g o 0,D x] 36*R)))))))∧O w wz) (fun t _=>gn.length - (intOf t).toNat)
      case atStart=>exact⟨0,by omega,rfl,h5,hxz⟩
      case round=>
       clear h5 hxz c0 c1 c2 c3 c4 c5 c6 c7 c8 c9 cl;obtain⟨j,hj,rfl,hz,hxz⟩:=hrel;obtain⟨c0,c1,c2,c3,c4,c5,c6,c7,c8,c9⟩:=hz.right.right.cells10;have cl:=hz.right.right.lt;by_cases hjl:j<gn.length
       ·obtain⟨bG,hG,lG,cG⟩:=db hz.right hjl
        subst hG;have hjl':(j:Int)<gn.length:=by omega
        have hj0:(0:Int)≤j:=by omega
        have et:gn.take (j+1)=gn.take j++[gn[j]]:=List.take_succ_eq_append_getElem hjl;have GF:=C (fun R w h=>wq ym (bx s (gn.take j)) gn[j] R w h (ly hms _));rw[←j0,←et] at GF;have HKJ:=C (fun(w':M) (P Q':ab) (h:H w' (P*(ao (.slice (f (u bG 0 d)) gn.length yd) gn*(aa b #[.pointer (f (u ym 0 d)),g o 0,.slice (f (u bA 0 d)) yps.length yc,D bz,.slice (f (u bG 0 d)) gn.length yd,g o td.page,g o td.size,g o td.frame,g o td.rights,.slice (f (u ygw 0 d)) yps.length yps.length] 52*Q'))))=>(by
         obtain⟨b2,e2,l2,q2⟩:=db h.right hjl;injection e2 with e2;injection e2 with e2
         subst e2;exact⟨h.right.right.cell 0,h.right.right.cell 4,q2⟩:w'.cell? (u b 0 d)=f (.pointer (f (u ym 0 d)))∧w'.cell? (u b 4 d)=f (.slice (f (u bG 0 d)) gn.length yd)∧w'.cell? (u bG j d)=f (g o gn[j])))
        generalize gn[j]=v at*
        generalize (bx s (gn.take j)).has v=bb at*
        clear et;go_upto_region 14 with fail;clear c0 c1 c2 c3 c4 c5 c6 c7 c8 cG;have hd:=hz.drew;have xd:=hxz.drew;go_region_held3 (fun w'=>w'.cell? (u b 0 d)=f (.pointer (f (u ym 0 d)))∧w'.cell? (u b 4 d)=f (.slice (f (u bG 0 d)) gn.length yd)∧w'.cell? (u bG j d)=f (g o v)) (first|(with_reducible exact HKJ.out _ _ _ hd)|(with_reducible exact HKJ.out _ _ _ h8)|go_keep) (first|(go_at_call 127;(with_reducible refine(GF.out _ _ hd).mono ?_);rintro e w8 ⟨rfl,h8,x8⟩))
        all_goals
         have y8:=xd.trans x8;clear hz hxz GF HKJ c9 cl lG hd xd x8;go_wp2_with fail
         go_roundw
         case rel=>exact⟨j+1,by omega,by go_num,h8,y8⟩
         case measure=>simp[intOf];omega
       ·obtain rfl:j=gn.length:=by omega
        rw[List.take_length] at hz;have h8:H wr (aa b #[.pointer (f (u ym 0 d)),g o 0,.slice (f (u bA 0 d)) yps.length yc,D bz,.slice yG gn.length yd,g o td.page,g o td.size,g o td.frame,g o td.rights,.slice (f (u ygw 0 d)) yps.length yps.length] 52*(aa E #[g o 0,D x,g o 0,g o 0,g o 0,D x] 36*(bF (.slice (f (u bA 0 d)) yps.length yc) yps*(aa ygw (bm yps.length (bI (cB wt k))) 4*(aL yps cs'*(az ym (bx s gn)*(ao (.slice yG gn.length yd) gn*R))))))):=hz.eq (by ac_rfl);have f3:=h8.free 3;have f4:=h8.free 4;have h9:H _ (aa b #[.pointer (f (u ym 0 d)),g o 0,.slice (f (u bA 0 d)) yps.length yc,D x,.slice d 0 0,g o td.page,g o td.size,g o td.frame,g o td.rights,.slice (f (u ygw 0 d)) yps.length yps.length] 52*(aa E #[g o 0,D x,g o 0,g o 0,g o 0,D x] 36*(bF (.slice (f (u bA 0 d)) yps.length yc) yps*(aa ygw (bm yps.length (bI (cB wt k))) 4*(aL yps cs'*(az ym (bx s gn)*(ao (.slice yG gn.length yd) gn*R))))))):=(h8.set 3 (D x)).set 4 (.slice d 0 0);have x9:=(hxz.set (u b 3 d) (D x)).set (u b 4 d) (.slice d 0 0);clear hz h8;go_upto_region 16 with fail;generalize (wr.setCell (u b 3 d) (D x)).setCell (u b 4 d) (.slice d 0 0)=w9 at*
        have h10:H w9 (aa E #[g o 0,D x,g o 0,g o 0,g o 0,D x] 36*(aa b #[.pointer (f (u ym 0 d)),g o 0,.slice (f (u bA 0 d)) yps.length yc,D x,.slice d 0 0,g o td.page,g o td.size,g o td.frame,g o td.rights,.slice (f (u ygw 0 d)) yps.length yps.length] 52*(bF (.slice (f (u bA 0 d)) yps.length yc) yps*(aa ygw (bm yps.length (bI (cB wt k))) 4*(aL yps cs'*(az ym (bx s gn)*(ao (.slice yG gn.length yd) gn*R))))))):=h9.p2;clear h9 hxz c0 c1 c2 c3 c4 c5 c6 c7 c8 c9 f3 f4 cl;obtain⟨e0,e1,e2,e3,e4,e5⟩:=h10.cells6;obtain⟨f0,f1,f2,f3,f4,f5⟩:=h10.frees6;have el:=h10.lt;have HNL:=C (fun(w':M) (h:H w' (aa b #[.pointer (f (u ym 0 d)),g o 0,.slice (f (u bA 0 d)) yps.length yc,D x,.slice d 0 0,g o td.page,g o td.size,g o td.frame,g o td.rights,.slice (f (u ygw 0 d)) yps.length yps.length] 52*(bF (.slice (f (u bA 0 d)) yps.length yc) yps*(aa ygw (bm yps.length (bI (cB wt k))) 4*(aL yps cs'*(az ym (bx s gn)*(ao (.slice yG gn.length yd) gn*R)))))))=>HSH.out (bx s gn) cs' (cB wt k) x [] d 0 w' (ao (.slice yG gn.length yd) gn*R) HLEN.out ((Has.rowNil (e:=3) (size:=1) h).eq (show _=aa b #[.pointer (f (u ym 0 d)),g o 0,.slice (f (u bA 0 d)) yps.length yc,D x,.slice d 0 0,g o td.page,g o td.size,g o td.frame,g o td.rights,.slice (f (u ygw 0 d)) yps.length yps.length] 52*(bF (.slice (f (u bA 0 d)) yps.length yc) yps*(ao (.slice d 0 0) []*(aa ygw (bm yps.length (bI (cB wt k))) 4*(aL yps cs'*(az ym (bx s gn)*(ao (.slice yG gn.length yd) gn*R)))))) by(show bZ 3 1 (.slice d 0 0) 0 []*_=_;unfold ao;simp only[List.map_nil,List.length_nil];ac_rfl))));go_wp2_with fail
        refine ak (fun wz=>H wz (aa E #[g o 0,D x,g o 0,g o 0,g o 0,D z] 36*(aa b #[.pointer (f (u ym 0 d)),g o 0,.slice (f (u bA 0 d)) yps.length yc,D x,.slice d 0 0,g o td.page,g o td.size,g o td.frame,g o td.rights,.slice (f (u ygw 0 d)) yps.length yps.length] 52*(bF (.slice (f (u bA 0 d)) yps.length yc) yps*(aa ygw (bm yps.length (bI (cB wt k))) 4*(aL yps cs'*(az ym (bx s gn)*(ao (.slice yG gn.length yd) gn*R)))))))∧O w wz) ⟨h10.set6 _ _ _ _ _ _,ah⟩ ?_;rintro wz ⟨hz,xz⟩;exact N (aD results69 rfl (aN hz)) rfl ⟨by have:=HV.out;injection this with a1 a2 a3 a4;injection a3 with a5 a6 a7;rw[a1,a2,a4,a5,a6,a7],by rw[HX.out];exact((HNL.out _ hz.right).eq (show _=ao (.slice yG gn.length yd) gn*(cq b ⟨bx s gn,cs',td,cB wt k,x,[]⟩*R) by ac_rfl)).right,xz⟩
theorem aJ{q c:Nat}{A:Option U}{l:List Ln}{k:Ck}{R:ab}{w:M}(h:H w (aM q A c l k R)):
  w.cell? (u q 1 d)=f (D k.on)∧w.cell? (u q 2 d)=f (g o k.a.page)∧w.cell? (u q 3 d)=f (g o k.a.kind)∧w.cell? (u q 4 d)=f (D k.a.user)∧w.cell? (u q 5 d)=f (g o k.t)∧w.cell? (u q 6 d)=f (g o k.level)∧w.cell? (u q 7 d)=f (D k.mark)∧w.cell? (u q 8 d)=f (g vU k.w)∧q<w.heap.size:=by
 unfold aM cv at h;exact⟨h.cell 1,h.cell 2,h.cell 3,h.cell 4,h.cell 5,h.cell 6,h.cell 7,h.cell 8,h.lt⟩
theorem nH{w:M}{q c:Nat}{A:Option U}{l:List Ln}{k:Ck}{B R:ab}(h:H w (B*aM q A c l k R)):H w (aM q A c l k (B*R)):=h.eq (by unfold aM;ac_rfl)
set_option maxHeartbeats 8000000 in
theorem oF(q m X:Nat)(root:Int)(l:List Ln)(k:Ck)(s:Ms)(R:ab)(W:M)(A:Option U)(c:Nat)
  (h1:H (W.alloc (.cells #[g o 0,g o 0,g o 0] 34)) (aa W.heap.size #[g o 0,g o 0,g o 0] 34*aM q A c l k (az m s*(aa X #[g o 0,g o 0,g o 0,g o 0,D x] 129*R))))
  (x1:O W (W.alloc (.cells #[g o 0,g o 0,g o 0] 34))) (hon:k.on=z) (t j:Nat) (HTT:Hid (k.t=(t:Int))) (hj8:j<8) (htn:t<s.n) (_:s.n≤128)
  (hj:am k.a.page k.level=(j:Int)) (ht:s.has (t:Int)=z) (v:Int) (HV:Hid (s.wd t j=v)) (hvb:0≤v∧v<18446744073709551616) (hcond:(k.mark&&v !=k.w)=x)
  (rg:Int) (us di:Bool) (fr:Int) (hE:eZ v k.level= .tuple #[.agg #[D z,D z,g o rg,D us,D di,g o fr],g o 0]) (hmay:may rg k.a=z) (HMK:Hid (k.mark=x)) (hr:dX ⟨z,z,rg,us,di,fr⟩ k.a=z) (hstep:aR s root k=k.leafEnd s ⟨z,z,rg,us,di,fr⟩):
  T prog 67 #[.pointer (f (u q 0 d)),.pointer (f (u m 0 d)),g o root,.pointer (f (u X 0 d))] W
   (cI (.tuple #[.agg #[g o (aR s root k).r.an.fin,g o (aR s root k).r.an.frame,g o (aR s root k).r.an.rights],D (aR s root k).r.fin,g o (aR s root k).code])
    (aQ q l (aR s root k).c *(az m (aR s root k).s *(aa X #[g o (aR s root k).r.ln.m.page,g o (aR s root k).r.ln.m.size,g o (aR s root k).r.ln.m.frame,g o (aR s root k).r.ln.m.rights,D (aR s root k).r.ln.dirty] 129*R))) W):=by
 have HT:=C (fun R X h=>nv m s (t:Int) R X h);rw[ht] at HT;have HI:=C (fun Y=>dP k.a.page k.level Y);rw[hj] at HI;have HD:=C (fun Y=>ii v k.level Y hvb.1 hvb.2);rw[hE] at HD;have HY:=C (fun Y=>jt rg k.a.page k.a.kind k.a.user Y);rw[show(⟨k.a.page,k.a.kind,k.a.user⟩:Ac)=k.a from rfl,hmay] at HY;have htnz:(t:Int)< (s.n:Int):=by omega
 have hj8z:(j:Int)<8:=by omega
 clear ht hj hE hmay hvb;have hy:=C hstep;clear hstep;have HYR:=C (hy.out.trans (show k.leafEnd s ⟨z,z,rg,us,di,fr⟩=⟨k.idle,s,⟨z,bJ (aA ⟨z,z,rg,us,di,fr⟩ k.level k.a.page) k.a,⟨aA ⟨z,z,rg,us,di,fr⟩ k.level k.a.page,di⟩⟩,0⟩ from rfl));have HLM:Hid (∀Y,T prog 80 #[.agg #[D z,D z,g o rg,D us,D (di),g o fr],.int .i64 k.level,.int .i64 k.a.page] Y (Pure (.agg #[g o (aA ⟨z,z,rg,us,di,fr⟩ k.level k.a.page).page,g o (aA ⟨z,z,rg,us,di,fr⟩ k.level k.a.page).size,g o (aA ⟨z,z,rg,us,di,fr⟩ k.level k.a.page).frame,g o (aA ⟨z,z,rg,us,di,fr⟩ k.level k.a.page).rights]) Y)):=C (fun Y=>gU ⟨z,z,rg,us,di,fr⟩ k.level k.a.page Y);have HAN:Hid (∀Y,T prog 92 #[.agg #[g o (aA ⟨z,z,rg,us,di,fr⟩ k.level k.a.page).page,g o (aA ⟨z,z,rg,us,di,fr⟩ k.level k.a.page).size,g o (aA ⟨z,z,rg,us,di,fr⟩ k.level k.a.page).frame,g o (aA ⟨z,z,rg,us,di,fr⟩ k.level k.a.page).rights],.agg #[g o k.a.page,g o k.a.kind,D k.a.user]] Y (Pure (.agg #[g o (bJ (aA ⟨z,z,rg,us,di,fr⟩ k.level k.a.page) k.a).fin,g o (bJ (aA ⟨z,z,rg,us,di,fr⟩ k.level k.a.page) k.a).frame,g o (bJ (aA ⟨z,z,rg,us,di,fr⟩ k.level k.a.page) k.a).rights]) Y)):=C (fun Y=>iX (aA ⟨z,z,rg,us,di,fr⟩ k.level k.a.page) k.a.page k.a.kind k.a.user Y);clear hy;generalize bJ (aA ⟨z,z,rg,us,di,fr⟩ k.level k.a.page) k.a=an at*
 generalize aA ⟨z,z,rg,us,di,fr⟩ k.level k.a.page=lm at*
 go_enter func67,ntmps67;go_upto_region 1 with fail;generalize W.alloc _=W1 at*
 generalize W.heap.size=X0 at*
 obtain⟨q1,q2,q3,q4,q5,q6,q7,q8,ql⟩:=aJ h1.right;rw[hon] at q1;rw[HTT.out] at q5;go_wp2_with fail
 refine(HT.out _ _ h1.r3).mono ?_;rintro e2 w2 ⟨rfl,rfl⟩;obtain⟨gw,gi,vk,hq⟩:=cm h1.r3;have d0:=ae (Has.cell hq 0);have dw:=bX hq htn hj8;rw[HV.out] at dw;have dw:=ae dw;have v2:=ae q2;have v5:=ae q5;have v6:=ae q6;clear hq q1 q2 q3 q4 q5 q6 q7 q8 ql HT;go_upto_region 5 with fail;refine ap (by kernel_rfl) (by kernel_rfl) ?_;repeat(first|go_big_quiet_step ((go_at_call 120;exact Pure.via (HI.out _)))|quiet_step ((go_at_call 120;exact Pure.via (HI.out _))))
 refine wpQuiet_nil ?_;intro _ hw';obtain⟨uq,hw''⟩:=hw';subst hw'';have h2:=h1.via uq;have x2:=x1.below (aB _ uq);generalize fJ W1 uq=W2 at*
 clear h1 x1 d0 dw v2 v5 v6 HI;obtain⟨q1,q2,q3,q4,q5,q6,q7,q8,ql⟩:=aJ h2.right;go_upto_region 6 with fail;go_cut [62] from 51 to 62 (fun s62 wx=>s62=D x∧H wx (aa X0 #[g o 0,g o 0,g o 0] 34*aM q A c l k (az m s*(aa X #[g o 0,g o 0,g o 0,g o 0,D x] 129*R)))∧O W wx)
 case first=>
  cases hmk:k.mark with
  |false=>
   rw[hmk] at q7;clear hmk hcond;go_wp2_with fail
   go_meet
   case rel=>exact⟨rfl,h2,x2⟩
  |true=>
   rw[hmk] at q7 hcond;have hcond':(v !=k.w)=x:=hcond;clear hmk hcond;go_wp2_with fail
   go_meet
   case rel=>exact⟨rfl,h2,x2⟩
 case rest=>
  clear h2 x2 q1 q2 q3 q4 q5 q6 q7 q8 ql hcond;obtain⟨rfl,h2,x2⟩:=hcut;obtain⟨q1,q2,q3,q4,q5,q6,q7,q8,ql⟩:=aJ h2.right;go_wp2_with fail
  refine(HD.out _).mono ?_;rintro e2 w3 ⟨rfl,b3⟩;have h3:=h2.below b3;have x3:=x2.below b3;clear h2 x2 b3 HD q1 q2 q3 q4 q5 q6 q7 q8 ql;have h4:=h3.new #[D z,D z,g o rg,D us,D di,g o fr] 70;have x4:=x3.alloc (.cells #[D z,D z,g o rg,D us,D di,g o fr] 70);clear h3 x3;go_upto_region 18 with fail;generalize w3.alloc _=w4 at*
  generalize w3.heap.size=EB at*
  obtain⟨e0',e1',e2',e3',e4',e5'⟩:=h4.cells6;have el:=h4.lt;obtain⟨q1,q2,q3,q4,q5,q6,q7,q8,ql⟩:=aJ h4.right.right;have v2:=ae q2;have v3:=ae q3;have v4:=ae q4;have ve2:=ae e2';clear e0' e1' e2' e3' e4' e5' el q1 q2 q3 q4 q5 q6 q7 q8 ql;refine ap (by kernel_rfl) (by kernel_rfl) ?_;repeat(first|go_big_quiet_step ((go_at_call 123;exact Pure.via (HY.out _)))|quiet_step ((go_at_call 123;exact Pure.via (HY.out _))))
  refine wpQuiet_nil ?_;intro _ hw';obtain⟨uq,hw''⟩:=hw';subst hw'';have h5:=h4.via uq;have x5:=x4.below (aB _ uq);generalize fJ w4 uq=w5 at*
  clear h4 x4 v2 v3 v4 ve2 HY;obtain⟨q1,q2,q3,q4,q5,q6,q7,q8,ql⟩:=aJ h5.right.right;obtain⟨e0',e1',e2',e3',e4',e5'⟩:=h5.cells6;have el:=h5.lt;go_upto_region 20 with fail;go_cut [14] from 119 to 132 (fun s14 wx=>s14=D z∧H wx (aa EB #[D z,D z,g o rg,D us,D di,g o fr] 70*(aa X0 #[g o 0,g o 0,g o 0] 34*aM q A c l k (az m s*(aa X #[g o 0,g o 0,g o 0,g o 0,D x] 129*R))))∧O W wx)
  case first=>
   have HRR:=C hr;clear hr;cases us with
   |false=>
    go_wp2_with fail
    go_meet
    case rel=>exact⟨by rw[←HRR.out];first|done|rfl,h5,x5⟩
   |true=>
    cases di with
    |true=>
     go_wp2_with fail
     go_meet
     case rel=>exact⟨by rw[←HRR.out];first|done|rfl,h5,x5⟩
    |false=>
     go_wp2_with fail
     go_meet
     case rel=>exact⟨by rw[←HRR.out];first|done|rfl,h5,x5⟩
  case rest=>
   clear h5 x5 q1 q2 q3 q4 q5 q6 q7 q8 ql e0' e1' e2' e3' e4' e5' el hr;obtain⟨rfl,h6,x6⟩:=hcut;obtain⟨q1,q2,q3,q4,q5,q6,q7,q8,ql⟩:=aJ h6.right.right;rw[HMK.out] at q7;obtain⟨e0',e1',e2',e3',e4',e5'⟩:=h6.cells6;have el:=h6.lt;go_upto_region 28 with fail;have HK:=C (fun(w':M) (P:ab) (h:H w' (aa EB #[D z,D z,g o rg,D us,D (di),g o fr] 70*(aa X0 #[g o 0,g o 0,g o 0] 34*aM q A c l k P)))=>(by
    obtain⟨t1,t2,t3,t4,t5,t6,t7,t8,_⟩:=aJ h.right.right;obtain⟨b0,b1,b2,b3,b4,b5⟩:=h.cells6;exact⟨b0,b1,b2,b3,b4,b5,t2,t6⟩:w'.cell? (u EB 0 d)=f (D z)∧w'.cell? (u EB 1 d)=f (D z)∧w'.cell? (u EB 2 d)=f (g o rg)∧w'.cell? (u EB 3 d)=f (D us)∧w'.cell? (u EB 4 d)=f (D (di))∧w'.cell? (u EB 5 d)=f (g o fr)∧w'.cell? (u q 2 d)=f (g o k.a.page)∧w'.cell? (u q 6 d)=f (g o k.level)))
   go_cut [15] from 195 to 205 (fun s15 wx=>∃XM:Nat,s15= .pointer (f (u XM 0 d))∧H wx (aa XM #[g o lm.page,g o lm.size,g o lm.frame,g o lm.rights] 39*(aa EB #[D z,D z,g o rg,D us,D (di),g o fr] 70*(aa X0 #[g o 0,g o 0,g o 0] 34*aM q A c l k (az m s*(aa X #[g o 0,g o 0,g o 0,g o 0,D x] 129*R)))))∧O W wx)
   case first=>
    go_region_held3 (fun w'=>w'.cell? (u EB 0 d)=f (D z)∧w'.cell? (u EB 1 d)=f (D z)∧w'.cell? (u EB 2 d)=f (g o rg)∧w'.cell? (u EB 3 d)=f (D us)∧w'.cell? (u EB 4 d)=f (D (di))∧w'.cell? (u EB 5 d)=f (g o fr)∧w'.cell? (u q 2 d)=f (g o k.a.page)∧w'.cell? (u q 6 d)=f (g o k.level)) (first|(with_reducible exact HK.out _ _ (h6).drew)|(with_reducible exact HK.out _ _ hL)|(with_reducible exact HK.out _ _ (hL.alloc _))|(with_reducible exact HK.out _ _ gL.right)|(with_reducible exact HK.out _ _ ((h6).drew.alloc _))|(with_reducible exact HK.out _ _ (gL.set4 _ _ _ _).right)|go_keep) (first|(go_at_call 80;(with_reducible refine(HLM.out _).mono ?_);rintro e2 wL ⟨rfl,bL⟩;first|(have hL:=(h6).drew.below bL;have xL:=(x6).drew.below bL)|(have gL:H wL (aa (wc).heap.size #[g o 0,g o 0,g o 0,g o 0] 39*(aa EB #[D z,D z,g o rg,D us,D (di),g o fr] 70*(aa X0 #[g o 0,g o 0,g o 0] 34*aM q A c l k (az m s*(aa X #[g o 0,g o 0,g o 0,g o 0,D x] 129*R))))):=((h6).drew.new #[g o 0,g o 0,g o 0,g o 0] 39).below bL;have yL:=((x6).drew.alloc _).below bL;obtain⟨y0,y1,y2,y3⟩:=gL.frees4;obtain⟨z0,z1,z2,z3⟩:=gL.cells4;have zl:=gL.lt)))
    all_goals
     go_wp2_with fail
     go_meet
     case rel=>first|exact⟨_,rfl,hL.new #[g o lm.page,g o lm.size,g o lm.frame,g o lm.rights] 39,xL.alloc _⟩|exact⟨_,rfl,gL.set4 _ _ _ _,(((yL.set _ _).set _ _).set _ _).set _ _⟩
   case rest=>
    obtain⟨XM,rfl,hM,xM⟩:=hcut;clear HK HLM e0' e1' e2' e3' e4' e5' el q1 q2 q3 q4 q5 q6 q7 q8 ql;have hX:H wc (aa X #[g o 0,g o 0,g o 0,g o 0,D x] 129*(aa XM #[g o lm.page,g o lm.size,g o lm.frame,g o lm.rights] 39*(aa EB #[D z,D z,g o rg,D us,D (di),g o fr] 70*(aa X0 #[g o 0,g o 0,g o 0] 34*aM q A c l k (az m s*R))))):=hM.eq (by unfold aM;ac_rfl);obtain⟨m0,m1,m2,m3⟩:=hX.right.cells4;have ml:=hX.right.lt;have e4':=hX.right.right.cell 4;have el:=hX.right.right.lt;obtain⟨s0,s1,s2,s3,s4⟩:=hX.cells5;have sl:=hX.lt;have f0:=hX.free 0;have f1:=hX.free 1;have f2:=hX.free 2;have f3:=hX.free 3;have f4:=hX.free 4;have hX2:=hX.set5 (g o lm.page) (g o lm.size) (g o lm.frame) (g o lm.rights) (D (di));have xX2:=((((xM.set (u X 0 d) (g o lm.page)).set (u X 1 d) (g o lm.size)).set (u X 2 d) (g o lm.frame)).set (u X 3 d) (g o lm.rights)).set (u X 4 d) (D (di));go_upto_region 30 with fail;generalize ((((wc.setCell (u X 0 d) (g o lm.page)).setCell (u X 1 d) (g o lm.size)).setCell (u X 2 d) (g o lm.frame)).setCell (u X 3 d) (g o lm.rights)).setCell (u X 4 d) (D (di))=w12 at*
    clear hM xM hX m0 m1 m2 m3 ml e4' el s0 s1 s2 s3 s4 sl f0 f1 f2 f3 f4;have hB:H w12 (aa XM #[g o lm.page,g o lm.size,g o lm.frame,g o lm.rights] 39*aM q A c l k (aa X0 #[g o 0,g o 0,g o 0] 34*(aa EB #[D z,D z,g o rg,D us,D (di),g o fr] 70*(az m s*(aa X #[g o lm.page,g o lm.size,g o lm.frame,g o lm.rights,D (di)] 129*R))))):=hX2.eq (by unfold aM;ac_rfl);clear hX2;obtain⟨q1,q2,q3,q4,q5,q6,q7,q8,ql⟩:=aJ hB.right;obtain⟨m0,m1,m2,m3⟩:=hB.cells4;have ml:=hB.lt;have HN:=C (fun R X h=>qk q l k an R X h);have HKX:=C (fun(w':M) (P:ab) (h:H w' (aa XM #[g o lm.page,g o lm.size,g o lm.frame,g o lm.rights] 39*P))=>h.cells4);have hBd:=hB.drew;obtain⟨n1',n2',n3',n4',n5',n6',n7',n8',nl'⟩:=aJ hBd.right;have hS0:(fun(L:Array Bool) (w':M)=>(w'.cell? (u XM 0 d)=f (g o lm.page)∧w'.cell? (u XM 1 d)=f (g o lm.size)∧w'.cell? (u XM 2 d)=f (g o lm.frame)∧w'.cell? (u XM 3 d)=f (g o lm.rights))∧Till 6 5 (fun w'=>w'.cell? (u q 2 d)=f (g o k.a.page)∧w'.cell? (u q 3 d)=f (g o k.a.kind)∧w'.cell? (u q 4 d)=f (D k.a.user)) L w') (Array.replicate 14 x) w12.drew:=⟨hBd.cells4,Till.start ⟨n2',n3',n4'⟩⟩;clear n1' n2' n3' n4' n5' n6' n7' n8' nl';refine iE (S:=fun L w'=>(w'.cell? (u XM 0 d)=f (g o lm.page)∧w'.cell? (u XM 1 d)=f (g o lm.size)∧w'.cell? (u XM 2 d)=f (g o lm.frame)∧w'.cell? (u XM 3 d)=f (g o lm.rights))∧Till 6 5 (fun w'=>w'.cell? (u q 2 d)=f (g o k.a.page)∧w'.cell? (u q 3 d)=f (g o k.a.kind)∧w'.cell? (u q 4 d)=f (D k.a.user)) L w') (by kernel_rfl) hS0 (fun hHeld=> ?_);clear q1 q2 q3 q4 q5 q6 q7 q8 ql m0 m1 m2 m3 ml;refine aO (i:=0) (v:= ?_) rfl (by kernel_rfl) (by kernel_rfl) (by kernel_rfl) (fun _ _ _ h=>h) (J F (G (by decide) ⟨_,⟨5,.data⟩,rfl,by simp,rfl,rfl⟩)) (Or.inl ⟨by kernel_rfl,?_⟩) hHeld (fun hHeld=> ?_);rotate_left;focus (intro wS hSw;obtain⟨Lx,hLx,hs1,hs2⟩:=hSw;skip;go_simp;first|done|with_reducible rfl)
    refine aO (i:=1) (v:= ?_) rfl (by kernel_rfl) (by kernel_rfl) (by kernel_rfl) (fun _ _ _ h=>h) (J F (G (by decide) ⟨_,⟨5,.data⟩,rfl,by simp,rfl,rfl⟩)) (Or.inl ⟨by kernel_rfl,?_⟩) hHeld (fun hHeld=> ?_);rotate_left;focus (intro wS hSw;obtain⟨Lx,hLx,hs1,hs2⟩:=hSw;obtain⟨s0,s1,s2,s3⟩:=hs1;go_simp;first|done|with_reducible rfl)
    refine aO (i:=2) (v:= ?_) rfl (by kernel_rfl) (by kernel_rfl) (by kernel_rfl) (fun _ _ _ h=>h) (J F (G (by decide) ⟨_,⟨5,.data⟩,rfl,by simp,rfl,rfl⟩)) (Or.inl ⟨by kernel_rfl,?_⟩) hHeld (fun hHeld=> ?_);rotate_left;focus (intro wS hSw;obtain⟨Lx,hLx,hs1,hs2⟩:=hSw;skip;go_simp;first|done|with_reducible rfl)
    refine aO (i:=3) (v:= ?_) rfl (by kernel_rfl) (by kernel_rfl) (by kernel_rfl) (fun _ _ _ h=>h) (J F (G (by decide) ⟨_,⟨5,.data⟩,rfl,by simp,rfl,rfl⟩)) (Or.inl ⟨by kernel_rfl,?_⟩) hHeld (fun hHeld=> ?_);rotate_left;focus (intro wS hSw;obtain⟨Lx,hLx,hs1,hs2⟩:=hSw;skip;go_simp;first|done|with_reducible rfl)
    refine aO (i:=4) (v:= ?_) rfl (by kernel_rfl) (by kernel_rfl) (by kernel_rfl) (fun _ _ _ h=>h) (J F (G (by decide) ⟨_,⟨5,.data⟩,rfl,by simp,rfl,rfl⟩)) (Or.inl ⟨by kernel_rfl,?_⟩) hHeld (fun hHeld=> ?_);rotate_left;focus (intro wS hSw;obtain⟨Lx,hLx,hs1,hs2⟩:=hSw;skip;go_simp;first|done|with_reducible rfl)
    refine aO (i:=5) (v:= ?_) rfl (by kernel_rfl) (by kernel_rfl) (by kernel_rfl) (fun _ _ _ h=>h) (J F (G (by decide) ⟨_,⟨5,.data⟩,rfl,by simp,rfl,rfl⟩)) (Or.inl ⟨by kernel_rfl,?_⟩) hHeld (fun hHeld=> ?_);rotate_left;focus (intro wS hSw;obtain⟨Lx,hLx,hs1,hs2⟩:=hSw;obtain⟨s0,s1,s2⟩:=hs2.still hLx;go_simp;first|done|with_reducible rfl)
    refine aX (rs:=[6]) (by kernel_rfl) (by simp) ?_;refine OneOf.cons rfl (fun K hK=> ?_) OneOf.nil;go_simp;go_wp2_with(refine(HAN.out _).mono ?_;rintro e2 w13 ⟨rfl,b13⟩)
    have h13:=hBd.below b13;have x13:=xX2.drew.below b13;refine hK.out _ _ ⟨HKX.out _ _ h13,⟨fun _=>by kernel_rfl,fun h=>aS (by kernel_rfl) h⟩⟩ (fun hHeld=> ?_);clear hK K hB hBd hS0 xX2 b13 HAN;refine aX (rs:=[7]) (by kernel_rfl) (by simp) ?_;refine OneOf.cons rfl (fun K hK=> ?_) OneOf.nil;go_simp;go_wp2_with(refine(HN.out _ _ (bE (nH h13))).mono ?_;rintro e2 w14 ⟨rfl,h14,x14⟩)
    have x15:=x13.trans x14;have hA:H w14 (aa X0 #[g o 0,g o 0,g o 0] 34*(aa XM #[g o lm.page,g o lm.size,g o lm.frame,g o lm.rights] 39*(aQ q l k.idle*(aa EB #[D z,D z,g o rg,D us,D (di),g o fr] 70*(az m s*(aa X #[g o lm.page,g o lm.size,g o lm.frame,g o lm.rights,D (di)] 129*R)))))):=h14.eq (by ac_rfl);refine hK.out _ _ ⟨HKX.out _ _ hA.right,⟨fun _=>by kernel_rfl,fun h=>aS (by kernel_rfl) h⟩⟩ (fun hHeld=> ?_);clear hK K h13 x13 h14 x14 HN;refine aO (i:=8) (v:= ?_) rfl (by kernel_rfl) (by kernel_rfl) (by kernel_rfl) (fun _ _ _ h=>h) (J F (G (by decide) ⟨_,⟨5,.data⟩,rfl,by simp,rfl,rfl⟩)) (Or.inl ⟨by kernel_rfl,?_⟩) hHeld (fun hHeld=> ?_);rotate_left;focus (intro wS hSw;obtain⟨Lx,hLx,hs1,hs2⟩:=hSw;skip;go_simp;first|done|with_reducible rfl)
    refine aO (i:=9) (v:= ?_) rfl (by kernel_rfl) (by kernel_rfl) (by kernel_rfl) (fun _ _ _ h=>h) (J F (G (by decide) ⟨_,⟨5,.data⟩,rfl,by simp,rfl,rfl⟩)) (Or.inl ⟨by kernel_rfl,?_⟩) hHeld (fun hHeld=> ?_);rotate_left;focus (intro wS hSw;obtain⟨Lx,hLx,hs1,hs2⟩:=hSw;skip;go_simp;first|done|with_reducible rfl)
    refine aO (i:=10) (v:= ?_) rfl (by kernel_rfl) (by kernel_rfl) (by kernel_rfl) (fun _ _ _ h=>h) (J F (G (by decide) ⟨_,⟨5,.data⟩,rfl,by simp,rfl,rfl⟩)) (Or.inl ⟨by kernel_rfl,?_⟩) hHeld (fun hHeld=> ?_);rotate_left;focus (intro wS hSw;obtain⟨Lx,hLx,hs1,hs2⟩:=hSw;skip;go_simp;first|done|with_reducible rfl)
    obtain⟨r0,r1,r2⟩:=hA.cells3;obtain⟨g0,g1,g2⟩:=hA.frees3;have rl:=hA.lt;have hF:=hA.set3 (g o an.fin) (g o an.frame) (g o an.rights);refine aX (rs:=[11]) (by kernel_rfl) (by simp) ?_;refine OneOf.cons rfl (fun K hK=> ?_) OneOf.nil;go_simp;refine hK.out _ _ ⟨HKX.out _ _ hF.right,⟨fun _=>by kernel_rfl,fun h=>aS (by kernel_rfl) h⟩⟩ (fun hHeld=> ?_);clear hK K;refine aX (rs:=[12]) (by kernel_rfl) (by simp) ?_;refine OneOf.cons rfl (fun K hK=> ?_) OneOf.nil;go_simp;refine hK.out _ _ ⟨HKX.out _ _ hF.right,⟨fun _=>by kernel_rfl,fun h=>aS (by kernel_rfl) h⟩⟩ (fun hHeld=> ?_);clear hK K;refine aX (rs:=[13]) (by kernel_rfl) (by simp) ?_;refine OneOf.cons rfl (fun K hK=> ?_) OneOf.nil;go_simp;refine hK.out _ _ ⟨HKX.out _ _ hF.right,⟨fun _=>by kernel_rfl,fun h=>aS (by kernel_rfl) h⟩⟩ (fun hHeld=> ?_);clear hK K;refine fj (by kernel_rfl) ?_;clear hHeld;go_wp2_with fail
    refine ak (fun wz=>H wz (aa X0 #[g o an.fin,g o an.frame,g o an.rights] 34*(aa XM #[g o lm.page,g o lm.size,g o lm.frame,g o lm.rights] 39*(aQ q l k.idle*(aa EB #[D z,D z,g o rg,D us,D (di),g o fr] 70*(az m s*(aa X #[g o lm.page,g o lm.size,g o lm.frame,g o lm.rights,D (di)] 129*R))))))∧O W wz) ⟨hF,ah⟩ ?_;rintro wz ⟨hz,xz⟩;exact N (be results67 rfl rfl rfl (br hz)) rfl ⟨by rw[HYR.out];rfl,by rw[HYR.out];exact hz.right.right.p2.right.p2.eq (by ac_rfl),xz⟩
end Go.Proofs.YtmfheghbgihdmaaGreat
