/- Contract of the document's Space: ack. -/
import Derived.Test.YtmfheghbgihdmaaGreatCoreR2
import Derived.Test.YtmfheghbgihdmaaGreatSpcC
import Derived.Test.YtmfheghbgihdmaaGreatEntry2
import Derived.Test.YtmfheghbgihdmaaGreatTblM4
import Derived.Test.YtmfheghbgihdmaaGreatWkr3
import Derived.BigQuiet
import Derived.Deep.RegionHeld3
import Derived.Test.YtmfheghbgihdmaaGreatTabD
namespace Go.Proofs.YtmfheghbgihdmaaGreat
open Go.IntKind renaming u64→vU
open Go.Value renaming int→d,bool→G
open Go.IntKind renaming i64→f
open Option renaming none→o,some→z
open Bool renaming true→u,false→C
open Go.Addr renaming mk→D
open Go.Lib renaming hid→F
open Go.Proofs.YtmfheghbgihdmaaGreat renaming Has→H,Ext→Z
open Go renaming bodyPost_ret→I,World→T,Calls→ax,Addr→bd
open Go.Proofs.YtmfheghbgihdmaaGreat.Pure renaming via→J
open Go.Proofs.YtmfheghbgihdmaaGreat.Good renaming const→M,till→N,and→O
open Go.Proofs.YtmfheghbgihdmaaGreat.OneOf renaming cons→U,nil→ad
open List renaming getElem?_eq_getElem→af
open Go.World renaming size_alloc→ag
open Tryz
open Go.RowKit
set_option maxRecDepth 100000
set_option maxHeartbeats 8000000 in
theorem Aw(b:Nat)(σ:Sc)(k:Nat)(hok:σ.Ok)(hk:k<σ.cs.length)(R:ab)(w:T)(h:H w (cj b σ*R)):
  ax prog 69 #[.pointer (z (D b 0 o)),d f k] w (cR (σ.ack k).2.val (cj b (σ.ack k).1*R) w):=by
 have hc:=Sc.core_ok hok k;have hat:=Safe.at_core hk;obtain⟨s,cs,td,wt,bz,gn⟩:=σ;obtain⟨y,hy,h⟩:=fu h;obtain⟨ym,yA,yc,yps,yG,yd,ygw⟩:=y;unfold fC at h;dsimp only at*
 have hkp:k<yps.length:=by omega
 have hkl:(k:Int)<yps.length:=by omega
 have hk0:(0:Int)≤k:=by omega
 have hfew:yps.length≤4:=by have:=hok.few;dsimp only at this;omega
 obtain⟨Q,eQ,eS⟩:=jU (af hkp) hat;obtain⟨bA,hA,-,-⟩:=jx h.right (af hkp);have hpk:=af hkp;subst hA;have e:Sc.ack ⟨s,cs,td,wt,bz,gn⟩ k=if wt k=C then(⟨s,cs,td,wt,bz,gn⟩,.no 9) else if eG (cI wt k)=u then(⟨bv s gn,cs.set k ⟨Tl.drop (Sc.core ⟨s,cs,td,wt,bz,gn⟩ k).l td,(Sc.core ⟨s,cs,td,wt,bz,gn⟩ k).k.again 0⟩,td,cI wt k,C,[]⟩,⟨0,C,An.zero,u⟩)
   else(⟨s,cs.set k ⟨Tl.drop (Sc.core ⟨s,cs,td,wt,bz,gn⟩ k).l td,(Sc.core ⟨s,cs,td,wt,bz,gn⟩ k).k.again 0⟩,td,cI wt k,bz,gn⟩,.no 0):=rfl
 have hwl:∀i,yps.length≤i→wt i=C:=fun i hi=>hok.w i (by dsimp only;omega);have HSH:=F (fun(s':Ms) (cs':List Cr) (ws':Nat→Bool) (bz':Bool) (gn':List Int) (yG':Option bd) (yd':Nat) (w':T) (R':ab) (hl:yps.length=cs'.length) (h:H w' (fC b ⟨s',cs',td,ws',bz',gn'⟩ ⟨ym,z (D bA 0 o),yc,yps,yG',yd',ygw⟩ R'))=>il (σ:=⟨s',cs',td,ws',bz',gn'⟩) hl h);unfold fC at HSH;dsimp only at HSH;have hms:s.Ok:=hok.s;have HTD:=F hok.told.1;have h1:H _ (aa ygw (bo yps.length (bJ (wt))) 4*(aa b #[.pointer (z (D ym 0 o)),d f 0,.slice (z (D bA 0 o)) yps.length yc,G bz,.slice yG gn.length yd,d f td.page,d f td.size,d f td.frame,d f td.rights,.slice (z (D ygw 0 o)) yps.length yps.length] 52*(aa w.heap.size #[d f 0,G C,d f 0,d f 0,d f 0,G C] 36*(bH (.slice (z (D bA 0 o)) yps.length yc) yps*(ao (.slice yG gn.length yd) gn*(aR yps cs*(az ym s*R))))))):=(h.new #[d f 0,G C,d f 0,d f 0,d f 0,G C] 36).eq (by ac_rfl);have x1:=(Ext.refl w).alloc (.cells #[d f 0,G C,d f 0,d f 0,d f 0,G C] 36);clear h hok hk;have q0:_=z (G (wt k)):=h1.tabGet hkp;have ql:=h1.lt;have c9:=h1.right.cell 9;have cl:=h1.right.lt;cases hw:wt k with
 |false=>
  rw[if_pos hw] at e;rw[e];rw[hw] at q0;have HS1:=F (fun w' R' h=>HSH.out s cs wt bz gn yG yd w' R' hy h);clear e hw hc hat eQ eS HSH hwl hms HTD hy;go_enter func69,ntmps69;go_upto_region 2 with fail;generalize w.alloc _=w1 at*
  generalize w.heap.size=E at*
  clear q0 ql c9 cl;have h2:H _ (aa E #[d f 0,G C,d f 0,d f 0,d f 0,G C] 36*(aa b #[.pointer (z (D ym 0 o)),d f 0,.slice (z (D bA 0 o)) yps.length yc,G bz,.slice yG gn.length yd,d f td.page,d f td.size,d f td.frame,d f td.rights,.slice (z (D ygw 0 o)) yps.length yps.length] 52*(bH (.slice (z (D bA 0 o)) yps.length yc) yps*(ao (.slice yG gn.length yd) gn*(aa ygw (bo yps.length (bJ (wt))) 4*(aR yps cs*(az ym s*R))))))):=h1.eq (by ac_rfl);obtain⟨e0,e1,e2,e3,e4,e5⟩:=h2.cells6;obtain⟨f0,f1,f2,f3,f4,f5⟩:=h2.frees6;have el:=h2.lt;go_wp2_with fail
  refine am (fun wz=>H wz (aa E #[d f 9,G C,d f 0,d f 0,d f 0,G C] 36*(aa b #[.pointer (z (D ym 0 o)),d f 0,.slice (z (D bA 0 o)) yps.length yc,G bz,.slice yG gn.length yd,d f td.page,d f td.size,d f td.frame,d f td.rights,.slice (z (D ygw 0 o)) yps.length yps.length] 52*(bH (.slice (z (D bA 0 o)) yps.length yc) yps*(ao (.slice yG gn.length yd) gn*(aa ygw (bo yps.length (bJ (wt))) 4*(aR yps cs*(az ym s*R)))))))∧Z w wz) ⟨h2.set6 _ _ _ _ _ _,ah⟩ ?_;rintro wz ⟨hz,xz⟩;exact I (aG results69 rfl (aM hz)) rfl ⟨rfl,HS1.out _ _ hz.right,xz⟩
 |true=>
  rw[if_neg (by rw[hw];simp)] at e;rw[hw] at q0;generalize Sc.core ⟨s,cs,td,wt,bz,gn⟩ k=cc at*
  have hlen:yps.length=(cs.set k ⟨Tl.drop cc.l td,cc.k.again 0⟩).length :=by rw[List.length_set];exact hy
  have HLEN:=F hlen;have eS1:=eS ⟨Tl.drop cc.l td,cc.k.again 0⟩;clear hlen;generalize hcs':cs.set k ⟨Tl.drop cc.l td,cc.k.again 0⟩=cs' at*
  have hak:∀i,yps.length≤i→cI wt k i=C:=fun i hi=>by
   by_cases hik:i=k
   ·rw[hik];exact Safe.ack_off wt k
   ·rw[Safe.ack_ne wt hik];exact hwl i hi
  have HD:=F (fun R w h=>xZ (yps[k]'hkp) cc.l cc.k td R w hc.1 HTD.out h);have HG:=F (fun R w h=>oF (yps[k]'hkp) 0 (Tl.drop cc.l td) cc.k R w h);obtain⟨ev,hev⟩:∃ev,Sc.ack ⟨s,cs,td,wt,bz,gn⟩ k=ev:=⟨_,rfl⟩;rw[hev] at e⊢;have HE1:=F (fun(ho:eG (cI wt k)=u)=>e.trans (if_pos ho));have HE2:=F (fun(ho:eG (cI wt k)=C)=>e.trans (if_neg (by rw[ho];simp)));have HOT:Hid ((∀i,i<yps.length→cI wt k i=C)→eG (cI wt k)=u):=F fun ha=>by
   have ha':∀i,cI wt k i=C:=fun i=>if hi:i<yps.length then ha i hi else hak i (by omega)
   unfold eG;rw[ha',ha',ha',ha'];rfl
  have HOF:Hid (∀i,i<yps.length→cI wt k i=u→eG (cI wt k)=C):=F fun i hi ha=>by
   cases ho:eG (cI wt k) with
   |false=>rfl
   |true=>
    unfold eG at ho;have:i=0∨i=1∨i=2∨i=3:=by omega
    rcases this with rfl|rfl|rfl|rfl<;>simp[ha] at ho
  obtain⟨σ2,⟨ec,ef,⟨ea,eb,er⟩,ek⟩⟩:=ev;rw[eQ] at h1;have h2:H _ (aQ (yps[k]'hkp) cc.l cc.k*(aa b #[.pointer (z (D ym 0 o)),d f 0,.slice (z (D bA 0 o)) yps.length yc,G bz,.slice yG gn.length yd,d f td.page,d f td.size,d f td.frame,d f td.rights,.slice (z (D ygw 0 o)) yps.length yps.length] 52*(bH (.slice (z (D bA 0 o)) yps.length yc) yps*(aa ygw (bo yps.length (bJ (cI wt k))) 4*(aa w.heap.size #[d f 0,G C,d f 0,d f 0,d f 0,G C] 36*(ao (.slice yG gn.length yd) gn*(Q*(az ym s*R)))))))):=((h1.tabSet k (G C)).tabExt (f':=bJ (cI wt k)) (fun j _=>by
   unfold bJ cI bT;by_cases hjk:j=k
   ·rw[if_pos hjk];simp[hjk]
   ·rw[if_neg hjk];simp[hjk])).eq (by ac_rfl)
  have x2:=x1.set (D ygw k o) (G C);have qf:=h1.free k;unfold Ev.val;dsimp only;clear hev e hw hc hat eQ eS hwl hy hak hcs';go_enter func69,ntmps69;go_upto_region 4 with fail;generalize (w.alloc (.cells #[d f 0,G C,d f 0,d f 0,d f 0,G C] 36)).setCell (D ygw k o) (G C)=w2 at*
  generalize w.heap.size=E at*
  clear h1 x1 q0 ql c9 cl qf;generalize yps[k]=p at*
  have HK:=F (fun(w':T) (P Q':ab) (h:H w' (P*(aa b #[.pointer (z (D ym 0 o)),d f 0,.slice (z (D bA 0 o)) yps.length yc,G bz,.slice yG gn.length yd,d f td.page,d f td.size,d f td.frame,d f td.rights,.slice (z (D ygw 0 o)) yps.length yps.length] 52*(bH (.slice (z (D bA 0 o)) yps.length yc) yps*Q'))))=>(by
   obtain⟨b2,e2,l2,q2⟩:=jx h.right.right hpk;injection e2 with e2;injection e2 with e2
   subst e2;exact⟨h.right.cell 1,h.right.cell 2,h.right.cell 5,h.right.cell 6,h.right.cell 7,h.right.cell 8,q2⟩:w'.cell? (D b 1 o)=z (d f 0)∧w'.cell? (D b 2 o)=z (.slice (z (D bA 0 o)) yps.length yc)∧w'.cell? (D b 5 o)=z (d f td.page)∧w'.cell? (D b 6 o)=z (d f td.size)∧w'.cell? (D b 7 o)=z (d f td.frame)∧w'.cell? (D b 8 o)=z (d f td.rights)∧w'.cell? (D bA k o)=z (.pointer (z (D p 0 o)))))
  have HL:=F (fun(w':T) (P Q':ab) (h:H w' (P*(aa b #[.pointer (z (D ym 0 o)),d f 0,.slice (z (D bA 0 o)) yps.length yc,G bz,.slice yG gn.length yd,d f td.page,d f td.size,d f td.frame,d f td.rights,.slice (z (D ygw 0 o)) yps.length yps.length] 52*(bH (.slice (z (D bA 0 o)) yps.length yc) yps*Q'))))=>(by
   obtain⟨b2,e2,l2,q2⟩:=jx h.right.right hpk;injection e2 with e2;injection e2 with e2
   subst e2;exact⟨h.right.lt,l2⟩:b<w'.heap.size∧bA<w'.heap.size))
  obtain⟨cl,al⟩:=HL.out _ _ _ h2;have hd:=h2.drew;have xd:=x2.drew;go_cut [] from 22 to 33 (fun wx=>H wx (aQ p (Tl.drop cc.l td) cc.k*(aa b #[.pointer (z (D ym 0 o)),d f 0,.slice (z (D bA 0 o)) yps.length yc,G bz,.slice yG gn.length yd,d f td.page,d f td.size,d f td.frame,d f td.rights,.slice (z (D ygw 0 o)) yps.length yps.length] 52*(bH (.slice (z (D bA 0 o)) yps.length yc) yps*(aa ygw (bo yps.length (bJ (cI wt k))) 4*(aa E #[d f 0,G C,d f 0,d f 0,d f 0,G C] 36*(ao (.slice yG gn.length yd) gn*(Q*(az ym s*R))))))))∧Z w wx)
  case first=>
   clear HSH HG HE1 HE2 HOT HOF hkp;go_region_held3 (fun w'=>w'.cell? (D b 1 o)=z (d f 0)∧w'.cell? (D b 2 o)=z (.slice (z (D bA 0 o)) yps.length yc)∧w'.cell? (D b 5 o)=z (d f td.page)∧w'.cell? (D b 6 o)=z (d f td.size)∧w'.cell? (D b 7 o)=z (d f td.frame)∧w'.cell? (D b 8 o)=z (d f td.rights)∧w'.cell? (D bA k o)=z (.pointer (z (D p 0 o)))) (first|(with_reducible exact HK.out _ _ _ hd)|(with_reducible exact HK.out _ _ _ h5)|go_keep) (first|(go_at_call 126;(with_reducible refine(HD.out _ _ hd).mono ?_);rintro e w5 ⟨rfl,h5,x5⟩))
   all_goals
    go_wp2_with fail
    go_meet
    case rel=>exact⟨h5,xd.trans x5⟩
  case rest=>
   obtain⟨h3,x3⟩:=hcut;clear hd xd h2 x2 HD cl al;generalize Tl.drop cc.l td=l' at*
   obtain⟨cl,al⟩:=HL.out _ _ _ h3;have hd:=h3.drew;have xd:=x3.drew;go_upto_region 5 with fail;go_cut [] from 34 to 45 (fun wx=>H wx (aa ygw (bo yps.length (bJ (cI wt k))) 4*(aa b #[.pointer (z (D ym 0 o)),d f 0,.slice (z (D bA 0 o)) yps.length yc,G bz,.slice yG gn.length yd,d f td.page,d f td.size,d f td.frame,d f td.rights,.slice (z (D ygw 0 o)) yps.length yps.length] 52*(bH (.slice (z (D bA 0 o)) yps.length yc) yps*(ao (.slice yG gn.length yd) gn*(aR yps cs'*(az ym s*(aa E #[d f 0,G C,d f 0,d f 0,d f 0,G C] 36*R)))))))∧Z w wx)
   case first=>
    clear HSH HE1 HE2 HOT HOF;go_region_held3 (fun w'=>w'.cell? (D b 1 o)=z (d f 0)∧w'.cell? (D b 2 o)=z (.slice (z (D bA 0 o)) yps.length yc)∧w'.cell? (D b 5 o)=z (d f td.page)∧w'.cell? (D b 6 o)=z (d f td.size)∧w'.cell? (D b 7 o)=z (d f td.frame)∧w'.cell? (D b 8 o)=z (d f td.rights)∧w'.cell? (D bA k o)=z (.pointer (z (D p 0 o)))) (first|(with_reducible exact HK.out _ _ _ hd)|(with_reducible exact HK.out _ _ _ h5)|go_keep) (first|(go_at_call 118;(with_reducible refine(HG.out _ _ hd).mono ?_);rintro e w5 ⟨rfl,h5,x5⟩))
    all_goals
     go_wp2_with fail
     go_meet
     case rel=>exact⟨h5.eq (by rw[eS1];ac_rfl),xd.trans x5⟩
   case rest=>
    obtain⟨h4,x4⟩:=hcut;clear hd xd h3 x3 HG HL HK cl al hpk eS1;go_wp2_with fail
    go_loopw [5] (fun t wz=>∃i:Nat,i≤yps.length∧t=d f i∧Hid (∀j,j<i→cI wt k j=C)∧H wz (aa ygw (bo yps.length (bJ (cI wt k))) 4*(aa b #[.pointer (z (D ym 0 o)),d f 0,.slice (z (D bA 0 o)) yps.length yc,G bz,.slice yG gn.length yd,d f td.page,d f td.size,d f td.frame,d f td.rights,.slice (z (D ygw 0 o)) yps.length yps.length] 52*(bH (.slice (z (D bA 0 o)) yps.length yc) yps*(ao (.slice yG gn.length yd) gn*(aR yps cs'*(az ym s*(aa E #[d f 0,G C,d f 0,d f 0,d f 0,G C] 36*R)))))))∧Z w wz) (fun t _=>yps.length - (intOf t).toNat)
    case atStart=>exact⟨0,by omega,rfl,F (fun j hj=>absurd hj (by omega)),h4,x4⟩
    case round=>
     clear h4 x4;obtain⟨i,hi,rfl,HA,hz,hxz⟩:=hrel;have c9:=hz.right.cell 9;have cl:=hz.right.lt;by_cases hil:i<yps.length
     ·have q0:_=z (G (cI wt k i)):=hz.tabGet hil
      have ql:=hz.lt;cases hai:cI wt k i with
      |true=>
       have e:=HE2.out (HOF.out i hil hai);rw[hai] at q0;clear hai HA HE1 HE2 HOT HOF;injection e with e1 e2
       subst e1;have HV:=F e2;clear e2;have h5:H _ (aa E #[d f 0,G C,d f 0,d f 0,d f 0,G C] 36*(aa ygw (bo yps.length (bJ (cI wt k))) 4*(aa b #[.pointer (z (D ym 0 o)),d f 0,.slice (z (D bA 0 o)) yps.length yc,G bz,.slice yG gn.length yd,d f td.page,d f td.size,d f td.frame,d f td.rights,.slice (z (D ygw 0 o)) yps.length yps.length] 52*(bH (.slice (z (D bA 0 o)) yps.length yc) yps*(ao (.slice yG gn.length yd) gn*(aR yps cs'*(az ym s*R))))))):=hz.eq (by ac_rfl);obtain⟨e0,e1,e2,e3,e4,e5⟩:=h5.cells6;obtain⟨f0,f1,f2,f3,f4,f5⟩:=h5.frees6;have el:=h5.lt;go_wp2_with fail
       refine am (fun wz=>H wz (aa E #[d f 0,G C,d f 0,d f 0,d f 0,G C] 36*(aa ygw (bo yps.length (bJ (cI wt k))) 4*(aa b #[.pointer (z (D ym 0 o)),d f 0,.slice (z (D bA 0 o)) yps.length yc,G bz,.slice yG gn.length yd,d f td.page,d f td.size,d f td.frame,d f td.rights,.slice (z (D ygw 0 o)) yps.length yps.length] 52*(bH (.slice (z (D bA 0 o)) yps.length yc) yps*(ao (.slice yG gn.length yd) gn*(aR yps cs'*(az ym s*R)))))))∧Z w wz) ⟨h5.set6 _ _ _ _ _ _,ah⟩ ?_;rintro wz ⟨hz,xz⟩;exact I (aG results69 rfl (aM hz)) rfl ⟨by have:=HV.out;injection this with a1 a2 a3 a4;injection a3 with a5 a6 a7;rw[a1,a2,a4,a5,a6,a7],HSH.out s cs' (cI wt k) bz gn yG yd _ R HLEN.out (hz.right.eq (by ac_rfl)),xz⟩
      |false=>
       rw[hai] at q0;have HA2:Hid (∀j,j<i+1→cI wt k j=C):=F fun j hj=>if hji:j<i then HA.out j hji else by rw[show j=i by omega];exact hai
       clear hai HA;go_wp2_with fail
       go_roundw
       case rel=>exact⟨i+1,by omega,by go_num,HA2,hz,hxz⟩
       case measure=>simp[intOf];omega
     ·obtain rfl:i=yps.length:=by omega
      have e:=HE1.out (HOT.out HA.out);clear HA HE1 HE2 HOT HOF;injection e with e1 e2
      have HX:=F e1;have HV:=F e2;clear e1 e2;have h5:H wr (az ym (bv s (gn.take 0))*(ao (.slice yG gn.length yd) gn*(aa b #[.pointer (z (D ym 0 o)),d f 0,.slice (z (D bA 0 o)) yps.length yc,G bz,.slice yG gn.length yd,d f td.page,d f td.size,d f td.frame,d f td.rights,.slice (z (D ygw 0 o)) yps.length yps.length] 52*(bH (.slice (z (D bA 0 o)) yps.length yc) yps*(aa ygw (bo yps.length (bJ (cI wt k))) 4*(aR yps cs'*(aa E #[d f 0,G C,d f 0,d f 0,d f 0,G C] 36*R))))))):=hz.eq (by(rw[show bv s (gn.take 0)=s from rfl];ac_rfl));have hgs:=kK h5.right;clear hz c9 cl;obtain⟨c0,c1,c2,c3,c4,c5,c6,c7,c8,c9⟩:=h5.right.right.cells10;have cl:=h5.right.right.lt;go_wp2_with fail
      go_loopw [6] (fun t wz=>∃(j:Nat),j≤gn.length∧t=d f j∧H wz (az ym (bv s (gn.take j))*(ao (.slice yG gn.length yd) gn*(aa b #[.pointer (z (D ym 0 o)),d f 0,.slice (z (D bA 0 o)) yps.length yc,G bz,.slice yG gn.length yd,d f td.page,d f td.size,d f td.frame,d f td.rights,.slice (z (D ygw 0 o)) yps.length yps.length] 52*(bH (.slice (z (D bA 0 o)) yps.length yc) yps*(aa ygw (bo yps.length (bJ (cI wt k))) 4*(aR yps cs'*(aa E #[d f 0,G C,d f 0,d f 0,d f 0,G C] 36*R)))))))∧Z w wz) (fun t _=>gn.length - (intOf t).toNat)
      case atStart=>exact⟨0,by omega,rfl,h5,hxz⟩
      case round=>
       clear h5 hxz c0 c1 c2 c3 c4 c5 c6 c7 c8 c9 cl;obtain⟨j,hj,rfl,hz,hxz⟩:=hrel;obtain⟨c0,c1,c2,c3,c4,c5,c6,c7,c8,c9⟩:=hz.right.right.cells10;have cl:=hz.right.right.lt;by_cases hjl:j<gn.length
       ·obtain⟨bG,hG,lG,cG⟩:=da hz.right hjl
        subst hG;have hjl':(j:Int)<gn.length:=by omega
        have hj0:(0:Int)≤j:=by omega
        have et:gn.take (j+1)=gn.take j++[gn[j]]:=List.take_succ_eq_append_getElem hjl;have GF:=F (fun R w h=>zS ym (bv s (gn.take j)) gn[j] R w h (nb hms _));rw[←kH,←et] at GF;have HKJ:=F (fun(w':T) (P Q':ab) (h:H w' (P*(ao (.slice (z (D bG 0 o)) gn.length yd) gn*(aa b #[.pointer (z (D ym 0 o)),d f 0,.slice (z (D bA 0 o)) yps.length yc,G bz,.slice (z (D bG 0 o)) gn.length yd,d f td.page,d f td.size,d f td.frame,d f td.rights,.slice (z (D ygw 0 o)) yps.length yps.length] 52*Q'))))=>(by
         obtain⟨b2,e2,l2,q2⟩:=da h.right hjl;injection e2 with e2;injection e2 with e2
         subst e2;exact⟨h.right.right.cell 0,h.right.right.cell 4,q2⟩:w'.cell? (D b 0 o)=z (.pointer (z (D ym 0 o)))∧w'.cell? (D b 4 o)=z (.slice (z (D bG 0 o)) gn.length yd)∧w'.cell? (D bG j o)=z (d f gn[j])))
        generalize gn[j]=v at*
        generalize (bv s (gn.take j)).has v=bb at*
        clear et;go_upto_region 14 with fail;clear c0 c1 c2 c3 c4 c5 c6 c7 c8 cG;have hd:=hz.drew;have xd:=hxz.drew;go_region_held3 (fun w'=>w'.cell? (D b 0 o)=z (.pointer (z (D ym 0 o)))∧w'.cell? (D b 4 o)=z (.slice (z (D bG 0 o)) gn.length yd)∧w'.cell? (D bG j o)=z (d f v)) (first|(with_reducible exact HKJ.out _ _ _ hd)|(with_reducible exact HKJ.out _ _ _ h8)|go_keep) (first|(go_at_call 127;(with_reducible refine(GF.out _ _ hd).mono ?_);rintro e w8 ⟨rfl,h8,x8⟩))
        all_goals
         have y8:=xd.trans x8;clear hz hxz GF HKJ c9 cl lG hd xd x8;go_wp2_with fail
         go_roundw
         case rel=>exact⟨j+1,by omega,by go_num,h8,y8⟩
         case measure=>simp[intOf];omega
       ·obtain rfl:j=gn.length:=by omega
        rw[List.take_length] at hz;have h8:H wr (aa b #[.pointer (z (D ym 0 o)),d f 0,.slice (z (D bA 0 o)) yps.length yc,G bz,.slice yG gn.length yd,d f td.page,d f td.size,d f td.frame,d f td.rights,.slice (z (D ygw 0 o)) yps.length yps.length] 52*(aa E #[d f 0,G C,d f 0,d f 0,d f 0,G C] 36*(bH (.slice (z (D bA 0 o)) yps.length yc) yps*(aa ygw (bo yps.length (bJ (cI wt k))) 4*(aR yps cs'*(az ym (bv s gn)*(ao (.slice yG gn.length yd) gn*R))))))):=hz.eq (by ac_rfl);have f3:=h8.free 3;have f4:=h8.free 4;have h9:H _ (aa b #[.pointer (z (D ym 0 o)),d f 0,.slice (z (D bA 0 o)) yps.length yc,G C,.slice o 0 0,d f td.page,d f td.size,d f td.frame,d f td.rights,.slice (z (D ygw 0 o)) yps.length yps.length] 52*(aa E #[d f 0,G C,d f 0,d f 0,d f 0,G C] 36*(bH (.slice (z (D bA 0 o)) yps.length yc) yps*(aa ygw (bo yps.length (bJ (cI wt k))) 4*(aR yps cs'*(az ym (bv s gn)*(ao (.slice yG gn.length yd) gn*R))))))):=(h8.set 3 (G C)).set 4 (.slice o 0 0);have x9:=(hxz.set (D b 3 o) (G C)).set (D b 4 o) (.slice o 0 0);clear hz h8;go_upto_region 16 with fail;generalize (wr.setCell (D b 3 o) (G C)).setCell (D b 4 o) (.slice o 0 0)=w9 at*
        have h10:H w9 (aa E #[d f 0,G C,d f 0,d f 0,d f 0,G C] 36*(aa b #[.pointer (z (D ym 0 o)),d f 0,.slice (z (D bA 0 o)) yps.length yc,G C,.slice o 0 0,d f td.page,d f td.size,d f td.frame,d f td.rights,.slice (z (D ygw 0 o)) yps.length yps.length] 52*(bH (.slice (z (D bA 0 o)) yps.length yc) yps*(aa ygw (bo yps.length (bJ (cI wt k))) 4*(aR yps cs'*(az ym (bv s gn)*(ao (.slice yG gn.length yd) gn*R))))))):=h9.p2;clear h9 hxz c0 c1 c2 c3 c4 c5 c6 c7 c8 c9 f3 f4 cl;obtain⟨e0,e1,e2,e3,e4,e5⟩:=h10.cells6;obtain⟨f0,f1,f2,f3,f4,f5⟩:=h10.frees6;have el:=h10.lt;have HNL:=F (fun(w':T) (h:H w' (aa b #[.pointer (z (D ym 0 o)),d f 0,.slice (z (D bA 0 o)) yps.length yc,G C,.slice o 0 0,d f td.page,d f td.size,d f td.frame,d f td.rights,.slice (z (D ygw 0 o)) yps.length yps.length] 52*(bH (.slice (z (D bA 0 o)) yps.length yc) yps*(aa ygw (bo yps.length (bJ (cI wt k))) 4*(aR yps cs'*(az ym (bv s gn)*(ao (.slice yG gn.length yd) gn*R)))))))=>HSH.out (bv s gn) cs' (cI wt k) C [] o 0 w' (ao (.slice yG gn.length yd) gn*R) HLEN.out ((Has.rowNil (e:=3) (size:=1) h).eq (show _=aa b #[.pointer (z (D ym 0 o)),d f 0,.slice (z (D bA 0 o)) yps.length yc,G C,.slice o 0 0,d f td.page,d f td.size,d f td.frame,d f td.rights,.slice (z (D ygw 0 o)) yps.length yps.length] 52*(bH (.slice (z (D bA 0 o)) yps.length yc) yps*(ao (.slice o 0 0) []*(aa ygw (bo yps.length (bJ (cI wt k))) 4*(aR yps cs'*(az ym (bv s gn)*(ao (.slice yG gn.length yd) gn*R)))))) by(show ct 3 1 (.slice o 0 0) 0 []*_=_;unfold ao;simp only[List.map_nil,List.length_nil];ac_rfl))));go_wp2_with fail
        refine am (fun wz=>H wz (aa E #[d f 0,G C,d f 0,d f 0,d f 0,G u] 36*(aa b #[.pointer (z (D ym 0 o)),d f 0,.slice (z (D bA 0 o)) yps.length yc,G C,.slice o 0 0,d f td.page,d f td.size,d f td.frame,d f td.rights,.slice (z (D ygw 0 o)) yps.length yps.length] 52*(bH (.slice (z (D bA 0 o)) yps.length yc) yps*(aa ygw (bo yps.length (bJ (cI wt k))) 4*(aR yps cs'*(az ym (bv s gn)*(ao (.slice yG gn.length yd) gn*R)))))))∧Z w wz) ⟨h10.set6 _ _ _ _ _ _,ah⟩ ?_;rintro wz ⟨hz,xz⟩;exact I (aG results69 rfl (aM hz)) rfl ⟨by have:=HV.out;injection this with a1 a2 a3 a4;injection a3 with a5 a6 a7;rw[a1,a2,a4,a5,a6,a7],by rw[HX.out];exact((HNL.out _ hz.right).eq (show _=ao (.slice yG gn.length yd) gn*(cj b ⟨bv s gn,cs',td,cI wt k,C,[]⟩*R) by ac_rfl)).right,xz⟩
theorem aJ{q c:Nat}{A:Option bd}{l:List Ln}{k:Ck}{R:ab}{w:T}(h:H w (aN q A c l k R)):
  w.cell? (D q 1 o)=z (G k.on)∧w.cell? (D q 2 o)=z (d f k.a.page)∧w.cell? (D q 3 o)=z (d f k.a.kind)∧w.cell? (D q 4 o)=z (G k.a.user)∧w.cell? (D q 5 o)=z (d f k.t)∧w.cell? (D q 6 o)=z (d f k.level)∧w.cell? (D q 7 o)=z (G k.mark)∧w.cell? (D q 8 o)=z (d vU k.w)∧q<w.heap.size:=by
 unfold aN cC at h;exact⟨h.cell 1,h.cell 2,h.cell 3,h.cell 4,h.cell 5,h.cell 6,h.cell 7,h.cell 8,h.lt⟩
theorem oN{w:T}{q c:Nat}{A:Option bd}{l:List Ln}{k:Ck}{B R:ab}(h:H w (B*aN q A c l k R)):H w (aN q A c l k (B*R)):=h.eq (by unfold aN;ac_rfl)
set_option maxHeartbeats 8000000 in
theorem pO(q m X:Nat)(root:Int)(l:List Ln)(k:Ck)(s:Ms)(R:ab)(W:T)(A:Option bd)(c:Nat)
  (h1:H (W.alloc (.cells #[d f 0,d f 0,d f 0] 34)) (aa W.heap.size #[d f 0,d f 0,d f 0] 34*aN q A c l k (az m s*(aa X #[d f 0,d f 0,d f 0,d f 0,G C] 129*R))))
  (x1:Z W (W.alloc (.cells #[d f 0,d f 0,d f 0] 34))) (hon:k.on=u) (t j:Nat) (HTT:Hid (k.t=(t:Int))) (hj8:j<8) (htn:t<s.n) (_:s.n≤128)
  (hj:ap k.a.page k.level=(j:Int)) (ht:s.has (t:Int)=u) (v:Int) (HV:Hid (s.wd t j=v)) (hvb:0≤v∧v<18446744073709551616) (hcond:(k.mark&&v !=k.w)=C)
  (rg:Int) (us di:Bool) (fr:Int) (hE:fv v k.level= .tuple #[.agg #[G u,G u,d f rg,G us,G di,d f fr],d f 0]) (hmay:may rg k.a=u) (HMK:Hid (k.mark=C)) (hr:dZ ⟨u,u,rg,us,di,fr⟩ k.a=u) (hstep:aL s root k=k.leafEnd s ⟨u,u,rg,us,di,fr⟩):
  ax prog 67 #[.pointer (z (D q 0 o)),.pointer (z (D m 0 o)),d f root,.pointer (z (D X 0 o))] W
   (cR (.tuple #[.agg #[d f (aL s root k).r.an.fin,d f (aL s root k).r.an.frame,d f (aL s root k).r.an.rights],G (aL s root k).r.fin,d f (aL s root k).code])
    (aQ q l (aL s root k).c *(az m (aL s root k).s *(aa X #[d f (aL s root k).r.ln.m.page,d f (aL s root k).r.ln.m.size,d f (aL s root k).r.ln.m.frame,d f (aL s root k).r.ln.m.rights,G (aL s root k).r.ln.dirty] 129*R))) W):=by
 have HT:=F (fun R X h=>oY m s (t:Int) R X h);rw[ht] at HT;have HI:=F (fun Y=>ei k.a.page k.level Y);rw[hj] at HI;have HD:=F (fun Y=>iJ v k.level Y hvb.1 hvb.2);rw[hE] at HD;have HY:=F (fun Y=>jR rg k.a.page k.a.kind k.a.user Y);rw[show(⟨k.a.page,k.a.kind,k.a.user⟩:Ac)=k.a from rfl,hmay] at HY;have htnz:(t:Int)< (s.n:Int):=by omega
 have hj8z:(j:Int)<8:=by omega
 clear ht hj hE hmay hvb;have hy:=F hstep;clear hstep;have HYR:=F (hy.out.trans (show k.leafEnd s ⟨u,u,rg,us,di,fr⟩=⟨k.idle,s,⟨u,bF (aB ⟨u,u,rg,us,di,fr⟩ k.level k.a.page) k.a,⟨aB ⟨u,u,rg,us,di,fr⟩ k.level k.a.page,di⟩⟩,0⟩ from rfl));have HLM:Hid (∀Y,ax prog 80 #[.agg #[G u,G u,d f rg,G us,G (di),d f fr],.int .i64 k.level,.int .i64 k.a.page] Y (Pure (.agg #[d f (aB ⟨u,u,rg,us,di,fr⟩ k.level k.a.page).page,d f (aB ⟨u,u,rg,us,di,fr⟩ k.level k.a.page).size,d f (aB ⟨u,u,rg,us,di,fr⟩ k.level k.a.page).frame,d f (aB ⟨u,u,rg,us,di,fr⟩ k.level k.a.page).rights]) Y)):=F (fun Y=>iA ⟨u,u,rg,us,di,fr⟩ k.level k.a.page Y);have HAN:Hid (∀Y,ax prog 92 #[.agg #[d f (aB ⟨u,u,rg,us,di,fr⟩ k.level k.a.page).page,d f (aB ⟨u,u,rg,us,di,fr⟩ k.level k.a.page).size,d f (aB ⟨u,u,rg,us,di,fr⟩ k.level k.a.page).frame,d f (aB ⟨u,u,rg,us,di,fr⟩ k.level k.a.page).rights],.agg #[d f k.a.page,d f k.a.kind,G k.a.user]] Y (Pure (.agg #[d f (bF (aB ⟨u,u,rg,us,di,fr⟩ k.level k.a.page) k.a).fin,d f (bF (aB ⟨u,u,rg,us,di,fr⟩ k.level k.a.page) k.a).frame,d f (bF (aB ⟨u,u,rg,us,di,fr⟩ k.level k.a.page) k.a).rights]) Y)):=F (fun Y=>hO (aB ⟨u,u,rg,us,di,fr⟩ k.level k.a.page) k.a.page k.a.kind k.a.user Y);clear hy;generalize bF (aB ⟨u,u,rg,us,di,fr⟩ k.level k.a.page) k.a=an at*
 generalize aB ⟨u,u,rg,us,di,fr⟩ k.level k.a.page=lm at*
 go_enter func67,ntmps67;go_upto_region 1 with fail;generalize W.alloc _=W1 at*
 generalize W.heap.size=X0 at*
 obtain⟨q1,q2,q3,q4,q5,q6,q7,q8,ql⟩:=aJ h1.right;rw[hon] at q1;rw[HTT.out] at q5;go_wp2_with fail
 refine(HT.out _ _ h1.r3).mono ?_;rintro e2 w2 ⟨rfl,rfl⟩;obtain⟨gw,gi,vk,hq⟩:=cv h1.r3;have d0:=ae (Has.cell hq 0);have dw:=ch hq htn hj8;rw[HV.out] at dw;have dw:=ae dw;have v2:=ae q2;have v5:=ae q5;have v6:=ae q6;clear hq q1 q2 q3 q4 q5 q6 q7 q8 ql HT;go_upto_region 5 with fail;refine au (by kernel_rfl) (by kernel_rfl) ?_;repeat(first|go_big_quiet_step ((go_at_call 120;exact J (HI.out _)))|quiet_step ((go_at_call 120;exact J (HI.out _))))
 refine wpQuiet_nil ?_;intro _ hw';obtain⟨uq,hw''⟩:=hw';subst hw'';have h2:=h1.via uq;have x2:=x1.below (aE _ uq);generalize gU W1 uq=W2 at*
 clear h1 x1 d0 dw v2 v5 v6 HI;obtain⟨q1,q2,q3,q4,q5,q6,q7,q8,ql⟩:=aJ h2.right;go_upto_region 6 with fail;go_cut [62] from 51 to 62 (fun s62 wx=>s62=G C∧H wx (aa X0 #[d f 0,d f 0,d f 0] 34*aN q A c l k (az m s*(aa X #[d f 0,d f 0,d f 0,d f 0,G C] 129*R)))∧Z W wx)
 case first=>
  cases hmk:k.mark with
  |false=>
   rw[hmk] at q7;clear hmk hcond;go_wp2_with fail
   go_meet
   case rel=>exact⟨rfl,h2,x2⟩
  |true=>
   rw[hmk] at q7 hcond;have hcond':(v !=k.w)=C:=hcond;clear hmk hcond;go_wp2_with fail
   go_meet
   case rel=>exact⟨rfl,h2,x2⟩
 case rest=>
  clear h2 x2 q1 q2 q3 q4 q5 q6 q7 q8 ql hcond;obtain⟨rfl,h2,x2⟩:=hcut;obtain⟨q1,q2,q3,q4,q5,q6,q7,q8,ql⟩:=aJ h2.right;go_wp2_with fail
  refine(HD.out _).mono ?_;rintro e2 w3 ⟨rfl,b3⟩;have h3:=h2.below b3;have x3:=x2.below b3;clear h2 x2 b3 HD q1 q2 q3 q4 q5 q6 q7 q8 ql;have h4:=h3.new #[G u,G u,d f rg,G us,G di,d f fr] 70;have x4:=x3.alloc (.cells #[G u,G u,d f rg,G us,G di,d f fr] 70);clear h3 x3;go_upto_region 18 with fail;generalize w3.alloc _=w4 at*
  generalize w3.heap.size=EB at*
  obtain⟨e0',e1',e2',e3',e4',e5'⟩:=h4.cells6;have el:=h4.lt;obtain⟨q1,q2,q3,q4,q5,q6,q7,q8,ql⟩:=aJ h4.right.right;have v2:=ae q2;have v3:=ae q3;have v4:=ae q4;have ve2:=ae e2';clear e0' e1' e2' e3' e4' e5' el q1 q2 q3 q4 q5 q6 q7 q8 ql;refine au (by kernel_rfl) (by kernel_rfl) ?_;repeat(first|go_big_quiet_step ((go_at_call 123;exact J (HY.out _)))|quiet_step ((go_at_call 123;exact J (HY.out _))))
  refine wpQuiet_nil ?_;intro _ hw';obtain⟨uq,hw''⟩:=hw';subst hw'';have h5:=h4.via uq;have x5:=x4.below (aE _ uq);generalize gU w4 uq=w5 at*
  clear h4 x4 v2 v3 v4 ve2 HY;obtain⟨q1,q2,q3,q4,q5,q6,q7,q8,ql⟩:=aJ h5.right.right;obtain⟨e0',e1',e2',e3',e4',e5'⟩:=h5.cells6;have el:=h5.lt;go_upto_region 20 with fail;go_cut [14] from 119 to 132 (fun s14 wx=>s14=G u∧H wx (aa EB #[G u,G u,d f rg,G us,G di,d f fr] 70*(aa X0 #[d f 0,d f 0,d f 0] 34*aN q A c l k (az m s*(aa X #[d f 0,d f 0,d f 0,d f 0,G C] 129*R))))∧Z W wx)
  case first=>
   have HRR:=F hr;clear hr;cases us with
   |false=>
    go_wp2_with fail
    go_meet
    case rel=>exact⟨by rw[←HRR.out];first|done|rfl,h5,x5⟩
   |true=>
    cases di with
    |true=>
     go_wp2_with fail
     go_meet
     case rel=>exact⟨by rw[←HRR.out];first|done|rfl,h5,x5⟩
    |false=>
     go_wp2_with fail
     go_meet
     case rel=>exact⟨by rw[←HRR.out];first|done|rfl,h5,x5⟩
  case rest=>
   clear h5 x5 q1 q2 q3 q4 q5 q6 q7 q8 ql e0' e1' e2' e3' e4' e5' el hr;obtain⟨rfl,h6,x6⟩:=hcut;obtain⟨q1,q2,q3,q4,q5,q6,q7,q8,ql⟩:=aJ h6.right.right;rw[HMK.out] at q7;obtain⟨e0',e1',e2',e3',e4',e5'⟩:=h6.cells6;have el:=h6.lt;go_upto_region 28 with fail;have HK:=F (fun(w':T) (P:ab) (h:H w' (aa EB #[G u,G u,d f rg,G us,G (di),d f fr] 70*(aa X0 #[d f 0,d f 0,d f 0] 34*aN q A c l k P)))=>(by
    obtain⟨t1,t2,t3,t4,t5,t6,t7,t8,_⟩:=aJ h.right.right;obtain⟨b0,b1,b2,b3,b4,b5⟩:=h.cells6;exact⟨b0,b1,b2,b3,b4,b5,t2,t6⟩:w'.cell? (D EB 0 o)=z (G u)∧w'.cell? (D EB 1 o)=z (G u)∧w'.cell? (D EB 2 o)=z (d f rg)∧w'.cell? (D EB 3 o)=z (G us)∧w'.cell? (D EB 4 o)=z (G (di))∧w'.cell? (D EB 5 o)=z (d f fr)∧w'.cell? (D q 2 o)=z (d f k.a.page)∧w'.cell? (D q 6 o)=z (d f k.level)))
   go_cut [15] from 195 to 205 (fun s15 wx=>∃XM:Nat,s15= .pointer (z (D XM 0 o))∧H wx (aa XM #[d f lm.page,d f lm.size,d f lm.frame,d f lm.rights] 39*(aa EB #[G u,G u,d f rg,G us,G (di),d f fr] 70*(aa X0 #[d f 0,d f 0,d f 0] 34*aN q A c l k (az m s*(aa X #[d f 0,d f 0,d f 0,d f 0,G C] 129*R)))))∧Z W wx)
   case first=>
    go_region_held3 (fun w'=>w'.cell? (D EB 0 o)=z (G u)∧w'.cell? (D EB 1 o)=z (G u)∧w'.cell? (D EB 2 o)=z (d f rg)∧w'.cell? (D EB 3 o)=z (G us)∧w'.cell? (D EB 4 o)=z (G (di))∧w'.cell? (D EB 5 o)=z (d f fr)∧w'.cell? (D q 2 o)=z (d f k.a.page)∧w'.cell? (D q 6 o)=z (d f k.level)) (first|(with_reducible exact HK.out _ _ (h6).drew)|(with_reducible exact HK.out _ _ hL)|(with_reducible exact HK.out _ _ (hL.alloc _))|(with_reducible exact HK.out _ _ gL.right)|(with_reducible exact HK.out _ _ ((h6).drew.alloc _))|(with_reducible exact HK.out _ _ (gL.set4 _ _ _ _).right)|go_keep) (first|(go_at_call 80;(with_reducible refine(HLM.out _).mono ?_);rintro e2 wL ⟨rfl,bL⟩;first|(have hL:=(h6).drew.below bL;have xL:=(x6).drew.below bL)|(have gL:H wL (aa (wc).heap.size #[d f 0,d f 0,d f 0,d f 0] 39*(aa EB #[G u,G u,d f rg,G us,G (di),d f fr] 70*(aa X0 #[d f 0,d f 0,d f 0] 34*aN q A c l k (az m s*(aa X #[d f 0,d f 0,d f 0,d f 0,G C] 129*R))))):=((h6).drew.new #[d f 0,d f 0,d f 0,d f 0] 39).below bL;have yL:=((x6).drew.alloc _).below bL;obtain⟨y0,y1,y2,y3⟩:=gL.frees4;obtain⟨z0,z1,z2,z3⟩:=gL.cells4;have zl:=gL.lt)))
    all_goals
     go_wp2_with fail
     go_meet
     case rel=>first|exact⟨_,rfl,hL.new #[d f lm.page,d f lm.size,d f lm.frame,d f lm.rights] 39,xL.alloc _⟩|exact⟨_,rfl,gL.set4 _ _ _ _,(((yL.set _ _).set _ _).set _ _).set _ _⟩
   case rest=>
    obtain⟨XM,rfl,hM,xM⟩:=hcut;clear HK HLM e0' e1' e2' e3' e4' e5' el q1 q2 q3 q4 q5 q6 q7 q8 ql;have hX:H wc (aa X #[d f 0,d f 0,d f 0,d f 0,G C] 129*(aa XM #[d f lm.page,d f lm.size,d f lm.frame,d f lm.rights] 39*(aa EB #[G u,G u,d f rg,G us,G (di),d f fr] 70*(aa X0 #[d f 0,d f 0,d f 0] 34*aN q A c l k (az m s*R))))):=hM.eq (by unfold aN;ac_rfl);obtain⟨m0,m1,m2,m3⟩:=hX.right.cells4;have ml:=hX.right.lt;have e4':=hX.right.right.cell 4;have el:=hX.right.right.lt;obtain⟨s0,s1,s2,s3,s4⟩:=hX.cells5;have sl:=hX.lt;have f0:=hX.free 0;have f1:=hX.free 1;have f2:=hX.free 2;have f3:=hX.free 3;have f4:=hX.free 4;have hX2:=hX.set5 (d f lm.page) (d f lm.size) (d f lm.frame) (d f lm.rights) (G (di));have xX2:=((((xM.set (D X 0 o) (d f lm.page)).set (D X 1 o) (d f lm.size)).set (D X 2 o) (d f lm.frame)).set (D X 3 o) (d f lm.rights)).set (D X 4 o) (G (di));go_upto_region 30 with fail;generalize ((((wc.setCell (D X 0 o) (d f lm.page)).setCell (D X 1 o) (d f lm.size)).setCell (D X 2 o) (d f lm.frame)).setCell (D X 3 o) (d f lm.rights)).setCell (D X 4 o) (G (di))=w12 at*
    clear hM xM hX m0 m1 m2 m3 ml e4' el s0 s1 s2 s3 s4 sl f0 f1 f2 f3 f4;have hB:H w12 (aa XM #[d f lm.page,d f lm.size,d f lm.frame,d f lm.rights] 39*aN q A c l k (aa X0 #[d f 0,d f 0,d f 0] 34*(aa EB #[G u,G u,d f rg,G us,G (di),d f fr] 70*(az m s*(aa X #[d f lm.page,d f lm.size,d f lm.frame,d f lm.rights,G (di)] 129*R))))):=hX2.eq (by unfold aN;ac_rfl);clear hX2;obtain⟨q1,q2,q3,q4,q5,q6,q7,q8,ql⟩:=aJ hB.right;obtain⟨m0,m1,m2,m3⟩:=hB.cells4;have ml:=hB.lt;have HN:=F (fun R X h=>rI q l k an R X h);have HKX:=F (fun(w':T) (P:ab) (h:H w' (aa XM #[d f lm.page,d f lm.size,d f lm.frame,d f lm.rights] 39*P))=>h.cells4);have hBd:=hB.drew;obtain⟨n1',n2',n3',n4',n5',n6',n7',n8',nl'⟩:=aJ hBd.right;have hS0:(fun(L:Array Bool) (w':T)=>(w'.cell? (D XM 0 o)=z (d f lm.page)∧w'.cell? (D XM 1 o)=z (d f lm.size)∧w'.cell? (D XM 2 o)=z (d f lm.frame)∧w'.cell? (D XM 3 o)=z (d f lm.rights))∧Till 6 5 (fun w'=>w'.cell? (D q 2 o)=z (d f k.a.page)∧w'.cell? (D q 3 o)=z (d f k.a.kind)∧w'.cell? (D q 4 o)=z (G k.a.user)) L w') (Array.replicate 14 C) w12.drew:=⟨hBd.cells4,Till.start ⟨n2',n3',n4'⟩⟩;clear n1' n2' n3' n4' n5' n6' n7' n8' nl';refine iV (S:=fun L w'=>(w'.cell? (D XM 0 o)=z (d f lm.page)∧w'.cell? (D XM 1 o)=z (d f lm.size)∧w'.cell? (D XM 2 o)=z (d f lm.frame)∧w'.cell? (D XM 3 o)=z (d f lm.rights))∧Till 6 5 (fun w'=>w'.cell? (D q 2 o)=z (d f k.a.page)∧w'.cell? (D q 3 o)=z (d f k.a.kind)∧w'.cell? (D q 4 o)=z (G k.a.user)) L w') (by kernel_rfl) hS0 (fun hHeld=> ?_);clear q1 q2 q3 q4 q5 q6 q7 q8 ql m0 m1 m2 m3 ml;refine aO (i:=0) (v:= ?_) rfl (by kernel_rfl) (by kernel_rfl) (by kernel_rfl) (fun _ _ _ h=>h) (O M (N (by decide) ⟨_,⟨5,.data⟩,rfl,by simp,rfl,rfl⟩)) (Or.inl ⟨by kernel_rfl,?_⟩) hHeld (fun hHeld=> ?_);rotate_left;focus (intro wS hSw;obtain⟨Lx,hLx,hs1,hs2⟩:=hSw;skip;go_simp;first|done|with_reducible rfl)
    refine aO (i:=1) (v:= ?_) rfl (by kernel_rfl) (by kernel_rfl) (by kernel_rfl) (fun _ _ _ h=>h) (O M (N (by decide) ⟨_,⟨5,.data⟩,rfl,by simp,rfl,rfl⟩)) (Or.inl ⟨by kernel_rfl,?_⟩) hHeld (fun hHeld=> ?_);rotate_left;focus (intro wS hSw;obtain⟨Lx,hLx,hs1,hs2⟩:=hSw;obtain⟨s0,s1,s2,s3⟩:=hs1;go_simp;first|done|with_reducible rfl)
    refine aO (i:=2) (v:= ?_) rfl (by kernel_rfl) (by kernel_rfl) (by kernel_rfl) (fun _ _ _ h=>h) (O M (N (by decide) ⟨_,⟨5,.data⟩,rfl,by simp,rfl,rfl⟩)) (Or.inl ⟨by kernel_rfl,?_⟩) hHeld (fun hHeld=> ?_);rotate_left;focus (intro wS hSw;obtain⟨Lx,hLx,hs1,hs2⟩:=hSw;skip;go_simp;first|done|with_reducible rfl)
    refine aO (i:=3) (v:= ?_) rfl (by kernel_rfl) (by kernel_rfl) (by kernel_rfl) (fun _ _ _ h=>h) (O M (N (by decide) ⟨_,⟨5,.data⟩,rfl,by simp,rfl,rfl⟩)) (Or.inl ⟨by kernel_rfl,?_⟩) hHeld (fun hHeld=> ?_);rotate_left;focus (intro wS hSw;obtain⟨Lx,hLx,hs1,hs2⟩:=hSw;skip;go_simp;first|done|with_reducible rfl)
    refine aO (i:=4) (v:= ?_) rfl (by kernel_rfl) (by kernel_rfl) (by kernel_rfl) (fun _ _ _ h=>h) (O M (N (by decide) ⟨_,⟨5,.data⟩,rfl,by simp,rfl,rfl⟩)) (Or.inl ⟨by kernel_rfl,?_⟩) hHeld (fun hHeld=> ?_);rotate_left;focus (intro wS hSw;obtain⟨Lx,hLx,hs1,hs2⟩:=hSw;skip;go_simp;first|done|with_reducible rfl)
    refine aO (i:=5) (v:= ?_) rfl (by kernel_rfl) (by kernel_rfl) (by kernel_rfl) (fun _ _ _ h=>h) (O M (N (by decide) ⟨_,⟨5,.data⟩,rfl,by simp,rfl,rfl⟩)) (Or.inl ⟨by kernel_rfl,?_⟩) hHeld (fun hHeld=> ?_);rotate_left;focus (intro wS hSw;obtain⟨Lx,hLx,hs1,hs2⟩:=hSw;obtain⟨s0,s1,s2⟩:=hs2.still hLx;go_simp;first|done|with_reducible rfl)
    refine aW (rs:=[6]) (by kernel_rfl) (by simp) ?_;refine U rfl (fun K hK=> ?_) ad;go_simp;go_wp2_with(refine(HAN.out _).mono ?_;rintro e2 w13 ⟨rfl,b13⟩)
    have h13:=hBd.below b13;have x13:=xX2.drew.below b13;refine hK.out _ _ ⟨HKX.out _ _ h13,⟨fun _=>by kernel_rfl,fun h=>aS (by kernel_rfl) h⟩⟩ (fun hHeld=> ?_);clear hK K hB hBd hS0 xX2 b13 HAN;refine aW (rs:=[7]) (by kernel_rfl) (by simp) ?_;refine U rfl (fun K hK=> ?_) ad;go_simp;go_wp2_with(refine(HN.out _ _ (bx (oN h13))).mono ?_;rintro e2 w14 ⟨rfl,h14,x14⟩)
    have x15:=x13.trans x14;have hA:H w14 (aa X0 #[d f 0,d f 0,d f 0] 34*(aa XM #[d f lm.page,d f lm.size,d f lm.frame,d f lm.rights] 39*(aQ q l k.idle*(aa EB #[G u,G u,d f rg,G us,G (di),d f fr] 70*(az m s*(aa X #[d f lm.page,d f lm.size,d f lm.frame,d f lm.rights,G (di)] 129*R)))))):=h14.eq (by ac_rfl);refine hK.out _ _ ⟨HKX.out _ _ hA.right,⟨fun _=>by kernel_rfl,fun h=>aS (by kernel_rfl) h⟩⟩ (fun hHeld=> ?_);clear hK K h13 x13 h14 x14 HN;refine aO (i:=8) (v:= ?_) rfl (by kernel_rfl) (by kernel_rfl) (by kernel_rfl) (fun _ _ _ h=>h) (O M (N (by decide) ⟨_,⟨5,.data⟩,rfl,by simp,rfl,rfl⟩)) (Or.inl ⟨by kernel_rfl,?_⟩) hHeld (fun hHeld=> ?_);rotate_left;focus (intro wS hSw;obtain⟨Lx,hLx,hs1,hs2⟩:=hSw;skip;go_simp;first|done|with_reducible rfl)
    refine aO (i:=9) (v:= ?_) rfl (by kernel_rfl) (by kernel_rfl) (by kernel_rfl) (fun _ _ _ h=>h) (O M (N (by decide) ⟨_,⟨5,.data⟩,rfl,by simp,rfl,rfl⟩)) (Or.inl ⟨by kernel_rfl,?_⟩) hHeld (fun hHeld=> ?_);rotate_left;focus (intro wS hSw;obtain⟨Lx,hLx,hs1,hs2⟩:=hSw;skip;go_simp;first|done|with_reducible rfl)
    refine aO (i:=10) (v:= ?_) rfl (by kernel_rfl) (by kernel_rfl) (by kernel_rfl) (fun _ _ _ h=>h) (O M (N (by decide) ⟨_,⟨5,.data⟩,rfl,by simp,rfl,rfl⟩)) (Or.inl ⟨by kernel_rfl,?_⟩) hHeld (fun hHeld=> ?_);rotate_left;focus (intro wS hSw;obtain⟨Lx,hLx,hs1,hs2⟩:=hSw;skip;go_simp;first|done|with_reducible rfl)
    obtain⟨r0,r1,r2⟩:=hA.cells3;obtain⟨g0,g1,g2⟩:=hA.frees3;have rl:=hA.lt;have hF:=hA.set3 (d f an.fin) (d f an.frame) (d f an.rights);refine aW (rs:=[11]) (by kernel_rfl) (by simp) ?_;refine U rfl (fun K hK=> ?_) ad;go_simp;refine hK.out _ _ ⟨HKX.out _ _ hF.right,⟨fun _=>by kernel_rfl,fun h=>aS (by kernel_rfl) h⟩⟩ (fun hHeld=> ?_);clear hK K;refine aW (rs:=[12]) (by kernel_rfl) (by simp) ?_;refine U rfl (fun K hK=> ?_) ad;go_simp;refine hK.out _ _ ⟨HKX.out _ _ hF.right,⟨fun _=>by kernel_rfl,fun h=>aS (by kernel_rfl) h⟩⟩ (fun hHeld=> ?_);clear hK K;refine aW (rs:=[13]) (by kernel_rfl) (by simp) ?_;refine U rfl (fun K hK=> ?_) ad;go_simp;refine hK.out _ _ ⟨HKX.out _ _ hF.right,⟨fun _=>by kernel_rfl,fun h=>aS (by kernel_rfl) h⟩⟩ (fun hHeld=> ?_);clear hK K;refine fD (by kernel_rfl) ?_;clear hHeld;go_wp2_with fail
    refine am (fun wz=>H wz (aa X0 #[d f an.fin,d f an.frame,d f an.rights] 34*(aa XM #[d f lm.page,d f lm.size,d f lm.frame,d f lm.rights] 39*(aQ q l k.idle*(aa EB #[G u,G u,d f rg,G us,G (di),d f fr] 70*(az m s*(aa X #[d f lm.page,d f lm.size,d f lm.frame,d f lm.rights,G (di)] 129*R))))))∧Z W wz) ⟨hF,ah⟩ ?_;rintro wz ⟨hz,xz⟩;exact I (bg results67 rfl rfl rfl (bj hz)) rfl ⟨by rw[HYR.out];rfl,by rw[HYR.out];exact hz.right.right.p2.right.p2.eq (by ac_rfl),xz⟩
set_option maxHeartbeats 8000000 in
theorem qY(q m X:Nat)(root:Int)(l:List Ln)(k:Ck)(s:Ms)(R:ab)(W:T)(A:Option bd)(c:Nat)
  (h1:H (W.alloc (.cells #[d f 0,d f 0,d f 0] 34)) (aa W.heap.size #[d f 0,d f 0,d f 0] 34*aN q A c l k (az m s*(aa X #[d f 0,d f 0,d f 0,d f 0,G C] 129*R))))
  (x1:Z W (W.alloc (.cells #[d f 0,d f 0,d f 0] 34))) (hon:k.on=u) (t j:Nat) (HTT:Hid (k.t=(t:Int))) (hj8:j<8) (htn:t<s.n) (_:s.n≤128)
  (hj:ap k.a.page k.level=(j:Int)) (ht:s.has (t:Int)=u) (v:Int) (HV:Hid (s.wd t j=v)) (hvb:0≤v∧v<18446744073709551616) (hcond:(k.mark&&v !=k.w)=C)
  (rg:Int) (us di:Bool) (fr:Int) (hE:fv v k.level= .tuple #[.agg #[G u,G u,d f rg,G us,G di,d f fr],d f 0]) (hmay:may rg k.a=u) (HMK:Hid (k.mark=u)) (hr:dZ ⟨u,u,rg,us,di,fr⟩ k.a=C) (hstep:aL s root k=k.leafEnd (s.setW t j (bq (bY ⟨u,u,rg,us,di,fr⟩ k.a) k.level)) (bY ⟨u,u,rg,us,di,fr⟩ k.a)):
  ax prog 67 #[.pointer (z (D q 0 o)),.pointer (z (D m 0 o)),d f root,.pointer (z (D X 0 o))] W
   (cR (.tuple #[.agg #[d f (aL s root k).r.an.fin,d f (aL s root k).r.an.frame,d f (aL s root k).r.an.rights],G (aL s root k).r.fin,d f (aL s root k).code])
    (aQ q l (aL s root k).c *(az m (aL s root k).s *(aa X #[d f (aL s root k).r.ln.m.page,d f (aL s root k).r.ln.m.size,d f (aL s root k).r.ln.m.frame,d f (aL s root k).r.ln.m.rights,G (aL s root k).r.ln.dirty] 129*R))) W):=by
 have HT:=F (fun R X h=>oY m s (t:Int) R X h);rw[ht] at HT;have HI:=F (fun Y=>ei k.a.page k.level Y);rw[hj] at HI;have HD:=F (fun Y=>iJ v k.level Y hvb.1 hvb.2);rw[hE] at HD;have HY:=F (fun Y=>jR rg k.a.page k.a.kind k.a.user Y);rw[show(⟨k.a.page,k.a.kind,k.a.user⟩:Ac)=k.a from rfl,hmay] at HY;have htnz:(t:Int)< (s.n:Int):=by omega
 have hj8z:(j:Int)<8:=by omega
 clear ht hj hE hmay hvb;have hy:=F (hstep.trans (show _=k.leafEnd (s.setW t j (bq ⟨u,u,rg,u,di||k.a.kind==1,fr⟩ k.level)) ⟨u,u,rg,u,di||k.a.kind==1,fr⟩ from rfl));clear hstep;have HWD:Hid (∀Y,ax prog 124 #[.agg #[G u,G u,d f rg,G u,G (di||k.a.kind==1),d f fr],.int .i64 k.level] Y (Pure (.tuple #[d vU (bq ⟨u,u,rg,u,di||k.a.kind==1,fr⟩ k.level),d f (aj ⟨u,u,rg,u,di||k.a.kind==1,fr⟩ k.level)]) Y)):=F (fun Y=>je ⟨u,u,rg,u,di||k.a.kind==1,fr⟩ k.level Y);generalize aj ⟨u,u,rg,u,di||k.a.kind==1,fr⟩ k.level=cf at*
 generalize bq ⟨u,u,rg,u,di||k.a.kind==1,fr⟩ k.level=nw at*
 have HYR:=F (hy.out.trans (show k.leafEnd (s.setW t j nw) ⟨u,u,rg,u,di||k.a.kind==1,fr⟩=⟨k.idle,(s.setW t j nw),⟨u,bF (aB ⟨u,u,rg,u,di||k.a.kind==1,fr⟩ k.level k.a.page) k.a,⟨aB ⟨u,u,rg,u,di||k.a.kind==1,fr⟩ k.level k.a.page,di||k.a.kind==1⟩⟩,0⟩ from rfl));have HLM:Hid (∀Y,ax prog 80 #[.agg #[G u,G u,d f rg,G u,G (di||k.a.kind==1),d f fr],.int .i64 k.level,.int .i64 k.a.page] Y (Pure (.agg #[d f (aB ⟨u,u,rg,u,di||k.a.kind==1,fr⟩ k.level k.a.page).page,d f (aB ⟨u,u,rg,u,di||k.a.kind==1,fr⟩ k.level k.a.page).size,d f (aB ⟨u,u,rg,u,di||k.a.kind==1,fr⟩ k.level k.a.page).frame,d f (aB ⟨u,u,rg,u,di||k.a.kind==1,fr⟩ k.level k.a.page).rights]) Y)):=F (fun Y=>iA ⟨u,u,rg,u,di||k.a.kind==1,fr⟩ k.level k.a.page Y);have HAN:Hid (∀Y,ax prog 92 #[.agg #[d f (aB ⟨u,u,rg,u,di||k.a.kind==1,fr⟩ k.level k.a.page).page,d f (aB ⟨u,u,rg,u,di||k.a.kind==1,fr⟩ k.level k.a.page).size,d f (aB ⟨u,u,rg,u,di||k.a.kind==1,fr⟩ k.level k.a.page).frame,d f (aB ⟨u,u,rg,u,di||k.a.kind==1,fr⟩ k.level k.a.page).rights],.agg #[d f k.a.page,d f k.a.kind,G k.a.user]] Y (Pure (.agg #[d f (bF (aB ⟨u,u,rg,u,di||k.a.kind==1,fr⟩ k.level k.a.page) k.a).fin,d f (bF (aB ⟨u,u,rg,u,di||k.a.kind==1,fr⟩ k.level k.a.page) k.a).frame,d f (bF (aB ⟨u,u,rg,u,di||k.a.kind==1,fr⟩ k.level k.a.page) k.a).rights]) Y)):=F (fun Y=>hO (aB ⟨u,u,rg,u,di||k.a.kind==1,fr⟩ k.level k.a.page) k.a.page k.a.kind k.a.user Y);clear hy;generalize bF (aB ⟨u,u,rg,u,di||k.a.kind==1,fr⟩ k.level k.a.page) k.a=an at*
 generalize aB ⟨u,u,rg,u,di||k.a.kind==1,fr⟩ k.level k.a.page=lm at*
 have HI2:=F HI.out;go_enter func67,ntmps67;go_upto_region 1 with fail;generalize W.alloc _=W1 at*
 generalize W.heap.size=X0 at*
 obtain⟨q1,q2,q3,q4,q5,q6,q7,q8,ql⟩:=aJ h1.right;rw[hon] at q1;rw[HTT.out] at q5;go_wp2_with fail
 refine(HT.out _ _ h1.r3).mono ?_;rintro e2 w2 ⟨rfl,rfl⟩;obtain⟨gw,gi,vk,hq⟩:=cv h1.r3;have d0:=ae (Has.cell hq 0);have dw:=ch hq htn hj8;rw[HV.out] at dw;have dw:=ae dw;have v2:=ae q2;have v5:=ae q5;have v6:=ae q6;clear hq q1 q2 q3 q4 q5 q6 q7 q8 ql HT;go_upto_region 5 with fail;refine au (by kernel_rfl) (by kernel_rfl) ?_;repeat(first|go_big_quiet_step ((go_at_call 120;exact J (HI.out _)))|quiet_step ((go_at_call 120;exact J (HI.out _))))
 refine wpQuiet_nil ?_;intro _ hw';obtain⟨uq,hw''⟩:=hw';subst hw'';have h2:=h1.via uq;have x2:=x1.below (aE _ uq);generalize gU W1 uq=W2 at*
 clear h1 x1 d0 dw v2 v5 v6 HI;obtain⟨q1,q2,q3,q4,q5,q6,q7,q8,ql⟩:=aJ h2.right;go_upto_region 6 with fail;go_cut [62] from 51 to 62 (fun s62 wx=>s62=G C∧H wx (aa X0 #[d f 0,d f 0,d f 0] 34*aN q A c l k (az m s*(aa X #[d f 0,d f 0,d f 0,d f 0,G C] 129*R)))∧Z W wx)
 case first=>
  cases hmk:k.mark with
  |false=>
   rw[hmk] at q7;clear hmk hcond;go_wp2_with fail
   go_meet
   case rel=>exact⟨rfl,h2,x2⟩
  |true=>
   rw[hmk] at q7 hcond;have hcond':(v !=k.w)=C:=hcond;clear hmk hcond;go_wp2_with fail
   go_meet
   case rel=>exact⟨rfl,h2,x2⟩
 case rest=>
  clear h2 x2 q1 q2 q3 q4 q5 q6 q7 q8 ql hcond;obtain⟨rfl,h2,x2⟩:=hcut;obtain⟨q1,q2,q3,q4,q5,q6,q7,q8,ql⟩:=aJ h2.right;go_wp2_with fail
  refine(HD.out _).mono ?_;rintro e2 w3 ⟨rfl,b3⟩;have h3:=h2.below b3;have x3:=x2.below b3;clear h2 x2 b3 HD q1 q2 q3 q4 q5 q6 q7 q8 ql;have h4:=h3.new #[G u,G u,d f rg,G us,G di,d f fr] 70;have x4:=x3.alloc (.cells #[G u,G u,d f rg,G us,G di,d f fr] 70);clear h3 x3;go_upto_region 18 with fail;generalize w3.alloc _=w4 at*
  generalize w3.heap.size=EB at*
  obtain⟨e0',e1',e2',e3',e4',e5'⟩:=h4.cells6;have el:=h4.lt;obtain⟨q1,q2,q3,q4,q5,q6,q7,q8,ql⟩:=aJ h4.right.right;have v2:=ae q2;have v3:=ae q3;have v4:=ae q4;have ve2:=ae e2';clear e0' e1' e2' e3' e4' e5' el q1 q2 q3 q4 q5 q6 q7 q8 ql;refine au (by kernel_rfl) (by kernel_rfl) ?_;repeat(first|go_big_quiet_step ((go_at_call 123;exact J (HY.out _)))|quiet_step ((go_at_call 123;exact J (HY.out _))))
  refine wpQuiet_nil ?_;intro _ hw';obtain⟨uq,hw''⟩:=hw';subst hw'';have h5:=h4.via uq;have x5:=x4.below (aE _ uq);generalize gU w4 uq=w5 at*
  clear h4 x4 v2 v3 v4 ve2 HY;obtain⟨q1,q2,q3,q4,q5,q6,q7,q8,ql⟩:=aJ h5.right.right;obtain⟨e0',e1',e2',e3',e4',e5'⟩:=h5.cells6;have el:=h5.lt;go_upto_region 20 with fail;go_cut [14] from 119 to 132 (fun s14 wx=>s14=G C∧H wx (aa EB #[G u,G u,d f rg,G us,G di,d f fr] 70*(aa X0 #[d f 0,d f 0,d f 0] 34*aN q A c l k (az m s*(aa X #[d f 0,d f 0,d f 0,d f 0,G C] 129*R))))∧Z W wx)
  case first=>
   have HRR:=F hr;clear hr;cases us with
   |false=>
    go_wp2_with fail
    go_meet
    case rel=>exact⟨by rw[←HRR.out];first|done|rfl,h5,x5⟩
   |true=>
    cases di with
    |true=>
     go_wp2_with fail
     go_meet
     case rel=>exact⟨by rw[←HRR.out];first|done|rfl,h5,x5⟩
    |false=>
     go_wp2_with fail
     go_meet
     case rel=>exact⟨by rw[←HRR.out];first|done|rfl,h5,x5⟩
  case rest=>
   clear h5 x5 q1 q2 q3 q4 q5 q6 q7 q8 ql e0' e1' e2' e3' e4' e5' el hr;obtain⟨rfl,h6,x6⟩:=hcut;obtain⟨q1,q2,q3,q4,q5,q6,q7,q8,ql⟩:=aJ h6.right.right;rw[HMK.out] at q7;obtain⟨e0',e1',e2',e3',e4',e5'⟩:=h6.cells6;have el:=h6.lt;have f3:=h6.free 3;go_upto_region 26 with fail;have h7:H (wc.setCell (D EB 3 o) (G u)) (aa EB #[G u,G u,d f rg,G u,G di,d f fr] 70*(aa X0 #[d f 0,d f 0,d f 0] 34*aN q A c l k (az m s*(aa X #[d f 0,d f 0,d f 0,d f 0,G C] 129*R)))):=h6.set 3 (G u);have x7:=x6.set (D EB 3 o) (G u);generalize wc.setCell (D EB 3 o) (G u)=w7 at*
   clear h6 x6 e0' e1' e2' e3' e4' e5' el q1 q2 q3 q4 q5 q6 q7 q8 ql f3;go_cut [] from 155 to 165 (fun wx=>H wx (aa EB #[G u,G u,d f rg,G u,G (di||k.a.kind==1),d f fr] 70*(aa X0 #[d f 0,d f 0,d f 0] 34*aN q A c l k (az m s*(aa X #[d f 0,d f 0,d f 0,d f 0,G C] 129*R))))∧Z W wx)
   case first=>
    have e4':=h7.cell 4;have f4:=h7.free 4;have el:=h7.lt;obtain⟨q1,q2,q3,q4,q5,q6,q7,q8,ql⟩:=aJ h7.right.right;clear q1 q2 q4 q5 q6 q7 q8;cases di with
    |false=>
     go_wp2_with fail
     go_meet
     case rel=>exact⟨h7.set 4 (G (k.a.kind==1)),x7.set _ _⟩
    |true=>
     go_wp2_with fail
     go_meet
     case rel=>exact⟨h7.set 4 (G u),x7.set _ _⟩
   case rest=>
    clear h7 x7;obtain⟨h8,x8⟩:=hcut;go_upto_region 27 with fail;have hm5:H wc (az m s*(aa EB #[G u,G u,d f rg,G u,G (di||k.a.kind==1),d f fr] 70*(aa X0 #[d f 0,d f 0,d f 0] 34*aN q A c l k (aa X #[d f 0,d f 0,d f 0,d f 0,G C] 129*R)))):=h8.eq (by unfold aN;ac_rfl);obtain⟨gw,gi,vk,hq⟩:=cv hm5;clear hm5 h8;have HK:=F (fun(w':T) (sx:Ms) (h:H w' (dj m gw gi vk sx (aa EB #[G u,G u,d f rg,G u,G (di||k.a.kind==1),d f fr] 70*(aa X0 #[d f 0,d f 0,d f 0] 34*aN q A c l k (aa X #[d f 0,d f 0,d f 0,d f 0,G C] 129*R)))))=>(by
     have hR:=h.right.r3;obtain⟨t1,t2,t3,t4,t5,t6,t7,t8,_⟩:=aJ hR.right.right;exact⟨Has.cell h 0,hR.cell 0,hR.cell 1,hR.cell 2,hR.cell 3,hR.cell 4,hR.cell 5,t2,t5.trans (by rw[HTT.out]),t6⟩:w'.cell? (D m 0 o)=z (.slice (z (D gw 0 o)) sx.n sx.n)∧w'.cell? (D EB 0 o)=z (G u)∧w'.cell? (D EB 1 o)=z (G u)∧w'.cell? (D EB 2 o)=z (d f rg)∧w'.cell? (D EB 3 o)=z (G u)∧w'.cell? (D EB 4 o)=z (G (di||k.a.kind==1))∧w'.cell? (D EB 5 o)=z (d f fr)∧w'.cell? (D q 2 o)=z (d f k.a.page)∧w'.cell? (D q 5 o)=z (d f (t:Int))∧w'.cell? (D q 6 o)=z (d f k.level)))
    go_cut [] from 166 to 194 (fun wx=>H wx (aa EB #[G u,G u,d f rg,G u,G (di||k.a.kind==1),d f fr] 70*(aa X0 #[d f 0,d f 0,d f 0] 34*aN q A c l k (az m (s.setW t j nw)*(aa X #[d f 0,d f 0,d f 0,d f 0,G C] 129*R))))∧Z W wx)
    case first=>
     have hq0:=hq.drew;have xq0:=x8.drew;go_region_held3 (fun w'=>w'.cell? (D m 0 o)=z (.slice (z (D gw 0 o)) s.n s.n)∧w'.cell? (D EB 0 o)=z (G u)∧w'.cell? (D EB 1 o)=z (G u)∧w'.cell? (D EB 2 o)=z (d f rg)∧w'.cell? (D EB 3 o)=z (G u)∧w'.cell? (D EB 4 o)=z (G (di||k.a.kind==1))∧w'.cell? (D EB 5 o)=z (d f fr)∧w'.cell? (D q 2 o)=z (d f k.a.page)∧w'.cell? (D q 5 o)=z (d f (t:Int))∧w'.cell? (D q 6 o)=z (d f k.level)) (first|(with_reducible exact HK.out _ s hq0)|(with_reducible exact HK.out _ s hi5)|(with_reducible exact HK.out _ s hw6)|(exact HK.out _ (s.setW t j nw) (dr (k:=t) (i:=j) hw6 hj8 nw))|go_keep) (first|(go_at_call 120;(with_reducible refine(HI2.out _).mono ?_);rintro e2 w5 ⟨rfl,b5⟩;first|(have hi5:=hw6.below b5;have xi5:=xw6.below b5;have y0:=ch hi5 htn hj8;have y1:=hi5.right.free (t*8+j);have y2:=hi5.right.lt)|(have hi5:=hq0.below b5;have xi5:=xq0.below b5))|(go_at_call 124;(with_reducible refine(HWD.out _).mono ?_);rintro e2 w6 ⟨rfl,b6⟩;first|(have hw6:=hi5.below b6;have xw6:=xi5.below b6;have y0:=ch hw6 htn hj8;have y1:=hw6.right.free (t*8+j);have y2:=hw6.right.lt)|(have hw6:=hq0.below b6;have xw6:=xq0.below b6)))
     all_goals
      go_wp2_with fail
      go_meet
      case rel=>
       have h7:=cV (dr (k:=t) (i:=j) hw6 hj8 nw);exact⟨h7.eq (by unfold aN;ac_rfl),xw6.set _ _⟩
    case rest=>
     clear hq x8 HK;obtain⟨h9,x9⟩:=hcut;obtain⟨e0',e1',e2',e3',e4',e5'⟩:=h9.cells6;have el:=h9.lt;obtain⟨q1,q2,q3,q4,q5,q6,q7,q8,ql⟩:=aJ h9.right.right;go_upto_region 28 with fail;have HK:=F (fun(w':T) (P:ab) (h:H w' (aa EB #[G u,G u,d f rg,G u,G (di||k.a.kind==1),d f fr] 70*(aa X0 #[d f 0,d f 0,d f 0] 34*aN q A c l k P)))=>(by
      obtain⟨t1,t2,t3,t4,t5,t6,t7,t8,_⟩:=aJ h.right.right;obtain⟨b0,b1,b2,b3,b4,b5⟩:=h.cells6;exact⟨b0,b1,b2,b3,b4,b5,t2,t6⟩:w'.cell? (D EB 0 o)=z (G u)∧w'.cell? (D EB 1 o)=z (G u)∧w'.cell? (D EB 2 o)=z (d f rg)∧w'.cell? (D EB 3 o)=z (G u)∧w'.cell? (D EB 4 o)=z (G (di||k.a.kind==1))∧w'.cell? (D EB 5 o)=z (d f fr)∧w'.cell? (D q 2 o)=z (d f k.a.page)∧w'.cell? (D q 6 o)=z (d f k.level)))
     go_cut [15] from 195 to 205 (fun s15 wx=>∃XM:Nat,s15= .pointer (z (D XM 0 o))∧H wx (aa XM #[d f lm.page,d f lm.size,d f lm.frame,d f lm.rights] 39*(aa EB #[G u,G u,d f rg,G u,G (di||k.a.kind==1),d f fr] 70*(aa X0 #[d f 0,d f 0,d f 0] 34*aN q A c l k (az m (s.setW t j nw)*(aa X #[d f 0,d f 0,d f 0,d f 0,G C] 129*R)))))∧Z W wx)
     case first=>
      go_region_held3 (fun w'=>w'.cell? (D EB 0 o)=z (G u)∧w'.cell? (D EB 1 o)=z (G u)∧w'.cell? (D EB 2 o)=z (d f rg)∧w'.cell? (D EB 3 o)=z (G u)∧w'.cell? (D EB 4 o)=z (G (di||k.a.kind==1))∧w'.cell? (D EB 5 o)=z (d f fr)∧w'.cell? (D q 2 o)=z (d f k.a.page)∧w'.cell? (D q 6 o)=z (d f k.level)) (first|(with_reducible exact HK.out _ _ (h9).drew)|(with_reducible exact HK.out _ _ hL)|(with_reducible exact HK.out _ _ (hL.alloc _))|(with_reducible exact HK.out _ _ gL.right)|(with_reducible exact HK.out _ _ ((h9).drew.alloc _))|(with_reducible exact HK.out _ _ (gL.set4 _ _ _ _).right)|go_keep) (first|(go_at_call 80;(with_reducible refine(HLM.out _).mono ?_);rintro e2 wL ⟨rfl,bL⟩;first|(have hL:=(h9).drew.below bL;have xL:=(x9).drew.below bL)|(have gL:H wL (aa (wc).heap.size #[d f 0,d f 0,d f 0,d f 0] 39*(aa EB #[G u,G u,d f rg,G u,G (di||k.a.kind==1),d f fr] 70*(aa X0 #[d f 0,d f 0,d f 0] 34*aN q A c l k (az m (s.setW t j nw)*(aa X #[d f 0,d f 0,d f 0,d f 0,G C] 129*R))))):=((h9).drew.new #[d f 0,d f 0,d f 0,d f 0] 39).below bL;have yL:=((x9).drew.alloc _).below bL;obtain⟨y0,y1,y2,y3⟩:=gL.frees4;obtain⟨z0,z1,z2,z3⟩:=gL.cells4;have zl:=gL.lt)))
      all_goals
       go_wp2_with fail
       go_meet
       case rel=>first|exact⟨_,rfl,hL.new #[d f lm.page,d f lm.size,d f lm.frame,d f lm.rights] 39,xL.alloc _⟩|exact⟨_,rfl,gL.set4 _ _ _ _,(((yL.set _ _).set _ _).set _ _).set _ _⟩
     case rest=>
      obtain⟨XM,rfl,hM,xM⟩:=hcut;clear HK HLM e0' e1' e2' e3' e4' e5' el q1 q2 q3 q4 q5 q6 q7 q8 ql;have hX:H wc (aa X #[d f 0,d f 0,d f 0,d f 0,G C] 129*(aa XM #[d f lm.page,d f lm.size,d f lm.frame,d f lm.rights] 39*(aa EB #[G u,G u,d f rg,G u,G (di||k.a.kind==1),d f fr] 70*(aa X0 #[d f 0,d f 0,d f 0] 34*aN q A c l k (az m (s.setW t j nw)*R))))):=hM.eq (by unfold aN;ac_rfl);obtain⟨m0,m1,m2,m3⟩:=hX.right.cells4;have ml:=hX.right.lt;have e4':=hX.right.right.cell 4;have el:=hX.right.right.lt;obtain⟨s0,s1,s2,s3,s4⟩:=hX.cells5;have sl:=hX.lt;have f0:=hX.free 0;have f1:=hX.free 1;have f2:=hX.free 2;have f3:=hX.free 3;have f4:=hX.free 4;have hX2:=hX.set5 (d f lm.page) (d f lm.size) (d f lm.frame) (d f lm.rights) (G (di||k.a.kind==1));have xX2:=((((xM.set (D X 0 o) (d f lm.page)).set (D X 1 o) (d f lm.size)).set (D X 2 o) (d f lm.frame)).set (D X 3 o) (d f lm.rights)).set (D X 4 o) (G (di||k.a.kind==1));go_upto_region 30 with fail;generalize ((((wc.setCell (D X 0 o) (d f lm.page)).setCell (D X 1 o) (d f lm.size)).setCell (D X 2 o) (d f lm.frame)).setCell (D X 3 o) (d f lm.rights)).setCell (D X 4 o) (G (di||k.a.kind==1))=w12 at*
      clear hM xM hX m0 m1 m2 m3 ml e4' el s0 s1 s2 s3 s4 sl f0 f1 f2 f3 f4;have hB:H w12 (aa XM #[d f lm.page,d f lm.size,d f lm.frame,d f lm.rights] 39*aN q A c l k (aa X0 #[d f 0,d f 0,d f 0] 34*(aa EB #[G u,G u,d f rg,G u,G (di||k.a.kind==1),d f fr] 70*(az m (s.setW t j nw)*(aa X #[d f lm.page,d f lm.size,d f lm.frame,d f lm.rights,G (di||k.a.kind==1)] 129*R))))):=hX2.eq (by unfold aN;ac_rfl);clear hX2;obtain⟨q1,q2,q3,q4,q5,q6,q7,q8,ql⟩:=aJ hB.right;obtain⟨m0,m1,m2,m3⟩:=hB.cells4;have ml:=hB.lt;have HN:=F (fun R X h=>rI q l k an R X h);have HKX:=F (fun(w':T) (P:ab) (h:H w' (aa XM #[d f lm.page,d f lm.size,d f lm.frame,d f lm.rights] 39*P))=>h.cells4);have hBd:=hB.drew;obtain⟨n1',n2',n3',n4',n5',n6',n7',n8',nl'⟩:=aJ hBd.right;have hS0:(fun(L:Array Bool) (w':T)=>(w'.cell? (D XM 0 o)=z (d f lm.page)∧w'.cell? (D XM 1 o)=z (d f lm.size)∧w'.cell? (D XM 2 o)=z (d f lm.frame)∧w'.cell? (D XM 3 o)=z (d f lm.rights))∧Till 6 5 (fun w'=>w'.cell? (D q 2 o)=z (d f k.a.page)∧w'.cell? (D q 3 o)=z (d f k.a.kind)∧w'.cell? (D q 4 o)=z (G k.a.user)) L w') (Array.replicate 14 C) w12.drew:=⟨hBd.cells4,Till.start ⟨n2',n3',n4'⟩⟩;clear n1' n2' n3' n4' n5' n6' n7' n8' nl';refine iV (S:=fun L w'=>(w'.cell? (D XM 0 o)=z (d f lm.page)∧w'.cell? (D XM 1 o)=z (d f lm.size)∧w'.cell? (D XM 2 o)=z (d f lm.frame)∧w'.cell? (D XM 3 o)=z (d f lm.rights))∧Till 6 5 (fun w'=>w'.cell? (D q 2 o)=z (d f k.a.page)∧w'.cell? (D q 3 o)=z (d f k.a.kind)∧w'.cell? (D q 4 o)=z (G k.a.user)) L w') (by kernel_rfl) hS0 (fun hHeld=> ?_);clear q1 q2 q3 q4 q5 q6 q7 q8 ql m0 m1 m2 m3 ml;refine aO (i:=0) (v:= ?_) rfl (by kernel_rfl) (by kernel_rfl) (by kernel_rfl) (fun _ _ _ h=>h) (O M (N (by decide) ⟨_,⟨5,.data⟩,rfl,by simp,rfl,rfl⟩)) (Or.inl ⟨by kernel_rfl,?_⟩) hHeld (fun hHeld=> ?_);rotate_left;focus (intro wS hSw;obtain⟨Lx,hLx,hs1,hs2⟩:=hSw;skip;go_simp;first|done|with_reducible rfl)
      refine aO (i:=1) (v:= ?_) rfl (by kernel_rfl) (by kernel_rfl) (by kernel_rfl) (fun _ _ _ h=>h) (O M (N (by decide) ⟨_,⟨5,.data⟩,rfl,by simp,rfl,rfl⟩)) (Or.inl ⟨by kernel_rfl,?_⟩) hHeld (fun hHeld=> ?_);rotate_left;focus (intro wS hSw;obtain⟨Lx,hLx,hs1,hs2⟩:=hSw;obtain⟨s0,s1,s2,s3⟩:=hs1;go_simp;first|done|with_reducible rfl)
      refine aO (i:=2) (v:= ?_) rfl (by kernel_rfl) (by kernel_rfl) (by kernel_rfl) (fun _ _ _ h=>h) (O M (N (by decide) ⟨_,⟨5,.data⟩,rfl,by simp,rfl,rfl⟩)) (Or.inl ⟨by kernel_rfl,?_⟩) hHeld (fun hHeld=> ?_);rotate_left;focus (intro wS hSw;obtain⟨Lx,hLx,hs1,hs2⟩:=hSw;skip;go_simp;first|done|with_reducible rfl)
      refine aO (i:=3) (v:= ?_) rfl (by kernel_rfl) (by kernel_rfl) (by kernel_rfl) (fun _ _ _ h=>h) (O M (N (by decide) ⟨_,⟨5,.data⟩,rfl,by simp,rfl,rfl⟩)) (Or.inl ⟨by kernel_rfl,?_⟩) hHeld (fun hHeld=> ?_);rotate_left;focus (intro wS hSw;obtain⟨Lx,hLx,hs1,hs2⟩:=hSw;skip;go_simp;first|done|with_reducible rfl)
      refine aO (i:=4) (v:= ?_) rfl (by kernel_rfl) (by kernel_rfl) (by kernel_rfl) (fun _ _ _ h=>h) (O M (N (by decide) ⟨_,⟨5,.data⟩,rfl,by simp,rfl,rfl⟩)) (Or.inl ⟨by kernel_rfl,?_⟩) hHeld (fun hHeld=> ?_);rotate_left;focus (intro wS hSw;obtain⟨Lx,hLx,hs1,hs2⟩:=hSw;skip;go_simp;first|done|with_reducible rfl)
      refine aO (i:=5) (v:= ?_) rfl (by kernel_rfl) (by kernel_rfl) (by kernel_rfl) (fun _ _ _ h=>h) (O M (N (by decide) ⟨_,⟨5,.data⟩,rfl,by simp,rfl,rfl⟩)) (Or.inl ⟨by kernel_rfl,?_⟩) hHeld (fun hHeld=> ?_);rotate_left;focus (intro wS hSw;obtain⟨Lx,hLx,hs1,hs2⟩:=hSw;obtain⟨s0,s1,s2⟩:=hs2.still hLx;go_simp;first|done|with_reducible rfl)
      refine aW (rs:=[6]) (by kernel_rfl) (by simp) ?_;refine U rfl (fun K hK=> ?_) ad;go_simp;go_wp2_with(refine(HAN.out _).mono ?_;rintro e2 w13 ⟨rfl,b13⟩)
      have h13:=hBd.below b13;have x13:=xX2.drew.below b13;refine hK.out _ _ ⟨HKX.out _ _ h13,⟨fun _=>by kernel_rfl,fun h=>aS (by kernel_rfl) h⟩⟩ (fun hHeld=> ?_);clear hK K hB hBd hS0 xX2 b13 HAN;refine aW (rs:=[7]) (by kernel_rfl) (by simp) ?_;refine U rfl (fun K hK=> ?_) ad;go_simp;go_wp2_with(refine(HN.out _ _ (bx (oN h13))).mono ?_;rintro e2 w14 ⟨rfl,h14,x14⟩)
      have x15:=x13.trans x14;have hA:H w14 (aa X0 #[d f 0,d f 0,d f 0] 34*(aa XM #[d f lm.page,d f lm.size,d f lm.frame,d f lm.rights] 39*(aQ q l k.idle*(aa EB #[G u,G u,d f rg,G u,G (di||k.a.kind==1),d f fr] 70*(az m (s.setW t j nw)*(aa X #[d f lm.page,d f lm.size,d f lm.frame,d f lm.rights,G (di||k.a.kind==1)] 129*R)))))):=h14.eq (by ac_rfl);refine hK.out _ _ ⟨HKX.out _ _ hA.right,⟨fun _=>by kernel_rfl,fun h=>aS (by kernel_rfl) h⟩⟩ (fun hHeld=> ?_);clear hK K h13 x13 h14 x14 HN;refine aO (i:=8) (v:= ?_) rfl (by kernel_rfl) (by kernel_rfl) (by kernel_rfl) (fun _ _ _ h=>h) (O M (N (by decide) ⟨_,⟨5,.data⟩,rfl,by simp,rfl,rfl⟩)) (Or.inl ⟨by kernel_rfl,?_⟩) hHeld (fun hHeld=> ?_);rotate_left;focus (intro wS hSw;obtain⟨Lx,hLx,hs1,hs2⟩:=hSw;skip;go_simp;first|done|with_reducible rfl)
      refine aO (i:=9) (v:= ?_) rfl (by kernel_rfl) (by kernel_rfl) (by kernel_rfl) (fun _ _ _ h=>h) (O M (N (by decide) ⟨_,⟨5,.data⟩,rfl,by simp,rfl,rfl⟩)) (Or.inl ⟨by kernel_rfl,?_⟩) hHeld (fun hHeld=> ?_);rotate_left;focus (intro wS hSw;obtain⟨Lx,hLx,hs1,hs2⟩:=hSw;skip;go_simp;first|done|with_reducible rfl)
      refine aO (i:=10) (v:= ?_) rfl (by kernel_rfl) (by kernel_rfl) (by kernel_rfl) (fun _ _ _ h=>h) (O M (N (by decide) ⟨_,⟨5,.data⟩,rfl,by simp,rfl,rfl⟩)) (Or.inl ⟨by kernel_rfl,?_⟩) hHeld (fun hHeld=> ?_);rotate_left;focus (intro wS hSw;obtain⟨Lx,hLx,hs1,hs2⟩:=hSw;skip;go_simp;first|done|with_reducible rfl)
      obtain⟨r0,r1,r2⟩:=hA.cells3;obtain⟨g0,g1,g2⟩:=hA.frees3;have rl:=hA.lt;have hF:=hA.set3 (d f an.fin) (d f an.frame) (d f an.rights);refine aW (rs:=[11]) (by kernel_rfl) (by simp) ?_;refine U rfl (fun K hK=> ?_) ad;go_simp;refine hK.out _ _ ⟨HKX.out _ _ hF.right,⟨fun _=>by kernel_rfl,fun h=>aS (by kernel_rfl) h⟩⟩ (fun hHeld=> ?_);clear hK K;refine aW (rs:=[12]) (by kernel_rfl) (by simp) ?_;refine U rfl (fun K hK=> ?_) ad;go_simp;refine hK.out _ _ ⟨HKX.out _ _ hF.right,⟨fun _=>by kernel_rfl,fun h=>aS (by kernel_rfl) h⟩⟩ (fun hHeld=> ?_);clear hK K;refine aW (rs:=[13]) (by kernel_rfl) (by simp) ?_;refine U rfl (fun K hK=> ?_) ad;go_simp;refine hK.out _ _ ⟨HKX.out _ _ hF.right,⟨fun _=>by kernel_rfl,fun h=>aS (by kernel_rfl) h⟩⟩ (fun hHeld=> ?_);clear hK K;refine fD (by kernel_rfl) ?_;clear hHeld;go_wp2_with fail
      refine am (fun wz=>H wz (aa X0 #[d f an.fin,d f an.frame,d f an.rights] 34*(aa XM #[d f lm.page,d f lm.size,d f lm.frame,d f lm.rights] 39*(aQ q l k.idle*(aa EB #[G u,G u,d f rg,G u,G (di||k.a.kind==1),d f fr] 70*(az m (s.setW t j nw)*(aa X #[d f lm.page,d f lm.size,d f lm.frame,d f lm.rights,G (di||k.a.kind==1)] 129*R))))))∧Z W wz) ⟨hF,ah⟩ ?_;rintro wz ⟨hz,xz⟩;exact I (bg results67 rfl rfl rfl (bj hz)) rfl ⟨by rw[HYR.out];rfl,by rw[HYR.out];exact hz.right.right.p2.right.p2.eq (by ac_rfl),xz⟩
set_option maxHeartbeats 8000000 in
theorem zt(q m X:Nat)(root:Int)(l:List Ln)(k:Ck)(s:Ms)(hs:s.Ok)(hk:k.Ok)(R:ab)(W:T)(h:H W (aQ q l k*(az m s*(aa X #[d f 0,d f 0,d f 0,d f 0,G C] 129*R)))):
  ax prog 67 #[.pointer (z (D q 0 o)),.pointer (z (D m 0 o)),d f root,.pointer (z (D X 0 o))] W
   (cR (.tuple #[.agg #[d f (aL s root k).r.an.fin,d f (aL s root k).r.an.frame,d f (aL s root k).r.an.rights],G (aL s root k).r.fin,d f (aL s root k).code])
    (aQ q l (aL s root k).c *(az m (aL s root k).s *(aa X #[d f (aL s root k).r.ln.m.page,d f (aL s root k).r.ln.m.size,d f (aL s root k).r.ln.m.frame,d f (aL s root k).r.ln.m.rights,G (aL s root k).r.ln.dirty] 129*R))) W):=by
 obtain⟨A,c,h⟩:=cP h;have h1:=h.new #[d f 0,d f 0,d f 0] 34;have x1:=(Ext.refl W).alloc (.cells #[d f 0,d f 0,d f 0] 34);clear h;cases hon:k.on with
 |false=>
  have hy:=F (show aL s root k=⟨k,s,Rs.zero,9⟩ by unfold aL;rw[if_pos hon]);obtain⟨q1,q2,q3,q4,q5,q6,q7,q8,ql⟩:=aJ h1.right;rw[hon] at q1;obtain⟨r0,r1,r2⟩:=h1.cells3;obtain⟨g0,g1,g2⟩:=h1.frees3;have rl:=h1.lt;clear hon hk hs;go_enter func67,ntmps67;go_wp2_with fail
  refine am (fun wz=>H wz (aa W.heap.size #[d f 0,d f 0,d f 0] 34*aN q A c l k (az m s*(aa X #[d f 0,d f 0,d f 0,d f 0,G C] 129*R)))∧Z W wz) ⟨h1,ah⟩ ?_;rintro wz ⟨hz,xz⟩;exact I (bg results67 rfl rfl rfl (bj hz)) rfl ⟨by rw[hy.out];rfl,by rw[hy.out];exact bx hz.right,xz⟩
 |true=>
  have HT:=F (fun R X h=>oY m s k.t R X h);cases ht:s.has k.t with
  |false=>
   have hy:=F (show aL s root k=⟨k,s,Rs.zero,12⟩ by unfold aL;rw[if_neg (by rw[hon];simp),if_pos ht]);rw[ht] at HT;clear ht hk hs;go_enter func67,ntmps67;go_upto_region 1 with fail;generalize W.alloc _=W1 at*
   generalize W.heap.size=X0 at*
   obtain⟨q1,q2,q3,q4,q5,q6,q7,q8,ql⟩:=aJ h1.right;rw[hon] at q1;skip;go_wp2_with fail
   refine(HT.out _ _ h1.r3).mono ?_;rintro e2 w2 ⟨rfl,rfl⟩;clear hon HT;obtain⟨r0,r1,r2⟩:=(h1).cells3;obtain⟨g0,g1,g2⟩:=(h1).frees3;have rl:=(h1).lt;go_wp2_with fail
   refine am (fun wz=>H wz (aa X0 #[d f 0,d f 0,d f 0] 34*aN q A c l k (az m s*(aa X #[d f 0,d f 0,d f 0,d f 0,G C] 129*R)))∧Z W wz) ⟨h1.set3 _ _ _,ah⟩ ?_;rintro wz ⟨hz,xz⟩;exact I (bg results67 rfl rfl rfl (bj hz)) rfl ⟨by rw[hy.out];rfl,by rw[hy.out];exact bx hz.right,xz⟩
  |true=>
   rw[ht] at HT;have hp:=gj (hk.acc hon);obtain⟨u0,un,_⟩:=Ms.has_iff.1 ht;obtain⟨t,htt⟩:=Int.eq_ofNat_of_zero_le u0;rw[htt] at HT;have HTT:=F htt;obtain⟨j,hj⟩:=Int.eq_ofNat_of_zero_le (im hp (hk.l0 hon) (hk.l3 hon)).1;have hj8:j<8:=by have:=(im hp (hk.l0 hon) (hk.l3 hon)).2;omega
   have htn:t<s.n:=by omega
   have hsn:=hs.small;have hword:k.word s=s.wd t j:=by unfold Ck.word av;rw[htt,hj];rfl
   have HI:=F (fun Y=>ei k.a.page k.level Y);rw[hj] at HI;have hwb:=hs.inv.wok t j;have HD:=F (fun Y=>iJ (s.wd t j) k.level Y hwb.1 hwb.2);have hstep:aL s root k=if k.mark=u∧s.wd t j≠k.w then⟨k.again root,s,Rs.zero,0⟩
     else if br (s.wd t j) k.level≠0 then⟨k,s,Rs.zero,br (s.wd t j) k.level⟩
     else if(aD (s.wd t j) k.level).there =C then k.endWith s 1
     else if(aD (s.wd t j) k.level).leaf =C then⟨{k with t:=(aD (s.wd t j) k.level).frame,level:=k.level - 1},s,Rs.zero,0⟩
     else if may (aD (s.wd t j) k.level).rights k.a=C then k.endWith s 2
     else if k.mark=u then k.leafEnd (s.setW t j (bq (bY (aD (s.wd t j) k.level) k.a) k.level)) (bY (aD (s.wd t j) k.level) k.a)
     else if dZ (aD (s.wd t j) k.level) k.a=u then k.leafEnd s (aD (s.wd t j) k.level)
     else⟨{k with mark:=u,w:=s.wd t j},s,Rs.zero,0⟩:=by
    unfold aL;rw[if_neg (by rw[hon];simp),if_neg (by rw[ht];simp),hword,htt,hj];rfl
   have hlw:k.mark=u→s.wd t j=k.w→dZ (aD (s.wd t j) k.level) k.a=C:=fun h1 h2=>by rw[h2];exact hk.need h1
   have hwr:0≤k.level∧k.level≤3:=⟨hk.l0 hon,hk.l3 hon⟩;have htnz:(t:Int)< (s.n:Int):=by omega
   have hj8z:(j:Int)<8:=by omega
   have hjx:=hj;have htx:s.has (t:Int)=u:=by rw[←htt];exact ht
   have hX1:=h1;have hXx:=x1;have HJX:=F (And.intro hjx htx);have HWB:=F hwb;clear hwb hj u0 un ht hp hk hs hword htt hjx htx hX1 hXx;generalize hv:s.wd t j=v at*
   have HV:=F hv;clear hv;by_cases htr:k.mark=u∧v≠k.w
   ·rw[if_pos htr] at hstep
    have hy:=F hstep;obtain⟨hmk,hne⟩:=htr;have hne':(v !=k.w)=u:=by simpa using hne
    have HAG:=F (fun R X h=>oF q root l k R X h);clear hstep hne hlw HD;as_aux_lemma=>
     go_enter func67,ntmps67;go_upto_region 1 with fail;generalize W.alloc _=W1 at*
     generalize W.heap.size=X0 at*
     obtain⟨q1,q2,q3,q4,q5,q6,q7,q8,ql⟩:=aJ h1.right;rw[hon] at q1;rw[HTT.out] at q5;go_wp2_with fail
     refine(HT.out _ _ h1.r3).mono ?_;rintro e2 w2 ⟨rfl,rfl⟩;obtain⟨gw,gi,vk,hq⟩:=cv h1.r3;have d0:=ae (Has.cell hq 0);have dw:=ch hq htn hj8;rw[HV.out] at dw;have dw:=ae dw;have v2:=ae q2;have v5:=ae q5;have v6:=ae q6;clear hq q1 q2 q3 q4 q5 q6 q7 q8 ql HT;go_upto_region 5 with fail;refine au (by kernel_rfl) (by kernel_rfl) ?_;repeat(first|go_big_quiet_step ((go_at_call 120;exact J (HI.out _)))|quiet_step ((go_at_call 120;exact J (HI.out _))))
     refine wpQuiet_nil ?_;intro _ hw';obtain⟨uq,hw''⟩:=hw';subst hw'';have h2:=h1.via uq;have x2:=x1.below (aE _ uq);generalize gU W1 uq=W2 at*
     clear h1 x1 d0 dw v2 v5 v6 HI;obtain⟨q1,q2,q3,q4,q5,q6,q7,q8,ql⟩:=aJ h2.right;rw[hmk] at q7;clear hmk hon;go_wp2_with fail
     refine(HAG.out _ _ (bx (oN h2))).mono ?_;rintro e2 w3 ⟨rfl,h3,x3⟩;have hA:=h3.p2;have xA:=x2.trans x3;obtain⟨r0,r1,r2⟩:=hA.cells3;obtain⟨g0,g1,g2⟩:=hA.frees3;have rl:=hA.lt;clear h2 x2 h3 x3 HAG q1 q2 q3 q4 q5 q6 q7 q8 ql;go_wp2_with fail
     refine am (fun wz=>H wz (aa X0 #[d f 0,d f 0,d f 0] 34*(aQ q l (k.again root)*(az m s*(aa X #[d f 0,d f 0,d f 0,d f 0,G C] 129*R))))∧Z W wz) ⟨hA.set3 _ _ _,ah⟩ ?_;rintro wz ⟨hz,xz⟩;exact I (bg results67 rfl rfl rfl (bj hz)) rfl ⟨by rw[hy.out];rfl,by rw[hy.out];exact hz.right,xz⟩
   ·rw[if_neg htr] at hstep
    have hmw:k.mark=u→v=k.w:=fun h=>Decidable.byContradiction fun hn=>htr ⟨h,hn⟩;have hcond:(k.mark&&v !=k.w)=C:=by
     cases hmk:k.mark with
     |false=>rfl
     |true=>simp[hmw hmk]
    have HLW:=F (fun h=>hlw h (hmw h));clear hmw hlw htr;by_cases hd:br v k.level=0
    case neg=>
     rw[if_pos hd] at hstep;have hy:=F hstep;have hv:=F (dh (w:=v) (l:=k.level) rfl (.inl hd));rw[hv.out] at HD;have hn:(br v k.level !=0)=u:=by simpa using hd
     clear hv hstep hd;generalize br v k.level=code at*
     as_aux_lemma=>
      go_enter func67,ntmps67;go_upto_region 1 with fail;generalize W.alloc _=W1 at*
      generalize W.heap.size=X0 at*
      obtain⟨q1,q2,q3,q4,q5,q6,q7,q8,ql⟩:=aJ h1.right;rw[hon] at q1;rw[HTT.out] at q5;go_wp2_with fail
      refine(HT.out _ _ h1.r3).mono ?_;rintro e2 w2 ⟨rfl,rfl⟩;obtain⟨gw,gi,vk,hq⟩:=cv h1.r3;have d0:=ae (Has.cell hq 0);have dw:=ch hq htn hj8;rw[HV.out] at dw;have dw:=ae dw;have v2:=ae q2;have v5:=ae q5;have v6:=ae q6;clear hq q1 q2 q3 q4 q5 q6 q7 q8 ql HT;go_upto_region 5 with fail;refine au (by kernel_rfl) (by kernel_rfl) ?_;repeat(first|go_big_quiet_step ((go_at_call 120;exact J (HI.out _)))|quiet_step ((go_at_call 120;exact J (HI.out _))))
      refine wpQuiet_nil ?_;intro _ hw';obtain⟨uq,hw''⟩:=hw';subst hw'';have h2:=h1.via uq;have x2:=x1.below (aE _ uq);generalize gU W1 uq=W2 at*
      clear h1 x1 d0 dw v2 v5 v6 HI;obtain⟨q1,q2,q3,q4,q5,q6,q7,q8,ql⟩:=aJ h2.right;go_upto_region 6 with fail;go_cut [62] from 51 to 62 (fun s62 wx=>s62=G C∧H wx (aa X0 #[d f 0,d f 0,d f 0] 34*aN q A c l k (az m s*(aa X #[d f 0,d f 0,d f 0,d f 0,G C] 129*R)))∧Z W wx)
      case first=>
       cases hmk:k.mark with
       |false=>
        rw[hmk] at q7;clear hmk hcond;go_wp2_with fail
        go_meet
        case rel=>exact⟨rfl,h2,x2⟩
       |true=>
        rw[hmk] at q7 hcond;have hcond':(v !=k.w)=C:=hcond;clear hmk hcond;go_wp2_with fail
        go_meet
        case rel=>exact⟨rfl,h2,x2⟩
      case rest=>
       clear h2 x2 q1 q2 q3 q4 q5 q6 q7 q8 ql hcond;obtain⟨rfl,h2,x2⟩:=hcut;obtain⟨q1,q2,q3,q4,q5,q6,q7,q8,ql⟩:=aJ h2.right;go_wp2_with fail
       refine(HD.out _).mono ?_;rintro e2 w3 ⟨rfl,b3⟩;have h3:=h2.below b3;have x3:=x2.below b3;clear h2 x2 b3 HD q1 q2 q3 q4 q5 q6 q7 q8 ql;obtain⟨r0,r1,r2⟩:=h3.cells3;obtain⟨g0,g1,g2⟩:=h3.frees3;have rl:=h3.lt;go_wp2_with fail
       refine am (fun wz=>H wz (aa X0 #[d f 0,d f 0,d f 0] 34*(aN q A c l k (az m s*(aa X #[d f 0,d f 0,d f 0,d f 0,G C] 129*R))))∧Z W wz) ⟨(h3.set3 _ _ _).alloc _,ah⟩ ?_;rintro wz ⟨hz,xz⟩;exact I (bg results67 rfl rfl rfl (bj hz)) rfl ⟨by rw[hy.out];rfl,by rw[hy.out];exact bx hz.right,xz⟩
    case pos=>
     rw[if_neg (by rw[hd];simp)] at hstep;have hvv:fv v k.level= .tuple #[.agg #[G (aD v k.level).there,G (aD v k.level).leaf,d f (aD v k.level).rights,G (aD v k.level).used,G (aD v k.level).dirty,d f (aD v k.level).frame],d f 0]:=by unfold fv;rw[hd]
     rw[hvv] at HD;generalize hE:aD v k.level=e at*
     obtain⟨th,lf,rg,us,di,fr⟩:=e;dsimp only at hstep;have HVV:=F hvv;clear hvv hE hd;cases th with
     |false=>
      rw[if_pos rfl] at hstep;have hy:=F hstep;clear hstep HLW;as_aux_lemma=>
       go_enter func67,ntmps67;go_upto_region 1 with fail;generalize W.alloc _=W1 at*
       generalize W.heap.size=X0 at*
       obtain⟨q1,q2,q3,q4,q5,q6,q7,q8,ql⟩:=aJ h1.right;rw[hon] at q1;rw[HTT.out] at q5;go_wp2_with fail
       refine(HT.out _ _ h1.r3).mono ?_;rintro e2 w2 ⟨rfl,rfl⟩;obtain⟨gw,gi,vk,hq⟩:=cv h1.r3;have d0:=ae (Has.cell hq 0);have dw:=ch hq htn hj8;rw[HV.out] at dw;have dw:=ae dw;have v2:=ae q2;have v5:=ae q5;have v6:=ae q6;clear hq q1 q2 q3 q4 q5 q6 q7 q8 ql HT;go_upto_region 5 with fail;refine au (by kernel_rfl) (by kernel_rfl) ?_;repeat(first|go_big_quiet_step ((go_at_call 120;exact J (HI.out _)))|quiet_step ((go_at_call 120;exact J (HI.out _))))
       refine wpQuiet_nil ?_;intro _ hw';obtain⟨uq,hw''⟩:=hw';subst hw'';have h2:=h1.via uq;have x2:=x1.below (aE _ uq);generalize gU W1 uq=W2 at*
       clear h1 x1 d0 dw v2 v5 v6 HI;obtain⟨q1,q2,q3,q4,q5,q6,q7,q8,ql⟩:=aJ h2.right;go_upto_region 6 with fail;go_cut [62] from 51 to 62 (fun s62 wx=>s62=G C∧H wx (aa X0 #[d f 0,d f 0,d f 0] 34*aN q A c l k (az m s*(aa X #[d f 0,d f 0,d f 0,d f 0,G C] 129*R)))∧Z W wx)
       case first=>
        cases hmk:k.mark with
        |false=>
         rw[hmk] at q7;clear hmk hcond;go_wp2_with fail
         go_meet
         case rel=>exact⟨rfl,h2,x2⟩
        |true=>
         rw[hmk] at q7 hcond;have hcond':(v !=k.w)=C:=hcond;clear hmk hcond;go_wp2_with fail
         go_meet
         case rel=>exact⟨rfl,h2,x2⟩
       case rest=>
        clear h2 x2 q1 q2 q3 q4 q5 q6 q7 q8 ql hcond;obtain⟨rfl,h2,x2⟩:=hcut;obtain⟨q1,q2,q3,q4,q5,q6,q7,q8,ql⟩:=aJ h2.right;go_wp2_with fail
        refine(HD.out _).mono ?_;rintro e2 w3 ⟨rfl,b3⟩;have h3:=h2.below b3;have x3:=x2.below b3;clear h2 x2 b3 HD q1 q2 q3 q4 q5 q6 q7 q8 ql;have h4:=h3.new #[G C,G lf,d f rg,G us,G di,d f fr] 70;have x4:=x3.alloc (.cells #[G C,G lf,d f rg,G us,G di,d f fr] 70);clear h3 x3;go_upto_region 13 with fail;generalize w3.alloc _=w4 at*
        generalize w3.heap.size=EB at*
        obtain⟨e0',e1',e2',e3',e4',e5'⟩:=h4.cells6;have el:=h4.lt;obtain⟨q1,q2,q3,q4,q5,q6,q7,q8,ql⟩:=aJ h4.right.right;have h8:H w4 (aN q A c l k (aa X0 #[d f 0,d f 0,d f 0] 34*(aa EB #[G C,G lf,d f rg,G us,G di,d f fr] 70*(az m s*(aa X #[d f 0,d f 0,d f 0,d f 0,G C] 129*R))))):=(h4).eq (by unfold aN;ac_rfl);have HE:=F (fun R X h=>rI q l k ⟨1,0,0⟩ R X h);go_wp2_with fail
        refine(HE.out _ _ (bx h8)).mono ?_;rintro e2 w9 ⟨rfl,h9,x9⟩;have hA:=h9.p2;obtain⟨r0,r1,r2⟩:=hA.cells3;obtain⟨g0,g1,g2⟩:=hA.frees3;have rl:=hA.lt;have xA:=(x4).trans x9;clear h8 h9 HE x9;go_wp2_with fail
        refine am (fun wz=>H wz (aa X0 #[d f 1,d f 0,d f 0] 34*(aQ q l k.idle*(aa EB #[G C,G lf,d f rg,G us,G di,d f fr] 70*(az m s*(aa X #[d f 0,d f 0,d f 0,d f 0,G C] 129*R)))))∧Z W wz) ⟨hA.set3 _ _ _,ah⟩ ?_;rintro wz ⟨hz,xz⟩;exact I (bg results67 rfl rfl rfl (bj hz)) rfl ⟨by rw[hy.out];rfl,by rw[hy.out];exact hz.right.p2.right,xz⟩
     |true=>
      rw[if_neg (by simp)] at hstep;cases lf with
      |false=>
       rw[if_pos rfl] at hstep;have hy:=F hstep;have hwr':IntKind.i64.wrap (k.level - 1)=k.level - 1:=by rw[IntKind.wrap_i64];omega
       clear hstep HLW hwr;as_aux_lemma=>
        go_enter func67,ntmps67;go_upto_region 1 with fail;generalize W.alloc _=W1 at*
        generalize W.heap.size=X0 at*
        obtain⟨q1,q2,q3,q4,q5,q6,q7,q8,ql⟩:=aJ h1.right;rw[hon] at q1;rw[HTT.out] at q5;go_wp2_with fail
        refine(HT.out _ _ h1.r3).mono ?_;rintro e2 w2 ⟨rfl,rfl⟩;obtain⟨gw,gi,vk,hq⟩:=cv h1.r3;have d0:=ae (Has.cell hq 0);have dw:=ch hq htn hj8;rw[HV.out] at dw;have dw:=ae dw;have v2:=ae q2;have v5:=ae q5;have v6:=ae q6;clear hq q1 q2 q3 q4 q5 q6 q7 q8 ql HT;go_upto_region 5 with fail;refine au (by kernel_rfl) (by kernel_rfl) ?_;repeat(first|go_big_quiet_step ((go_at_call 120;exact J (HI.out _)))|quiet_step ((go_at_call 120;exact J (HI.out _))))
        refine wpQuiet_nil ?_;intro _ hw';obtain⟨uq,hw''⟩:=hw';subst hw'';have h2:=h1.via uq;have x2:=x1.below (aE _ uq);generalize gU W1 uq=W2 at*
        clear h1 x1 d0 dw v2 v5 v6 HI;obtain⟨q1,q2,q3,q4,q5,q6,q7,q8,ql⟩:=aJ h2.right;go_upto_region 6 with fail;go_cut [62] from 51 to 62 (fun s62 wx=>s62=G C∧H wx (aa X0 #[d f 0,d f 0,d f 0] 34*aN q A c l k (az m s*(aa X #[d f 0,d f 0,d f 0,d f 0,G C] 129*R)))∧Z W wx)
        case first=>
         cases hmk:k.mark with
         |false=>
          rw[hmk] at q7;clear hmk hcond;go_wp2_with fail
          go_meet
          case rel=>exact⟨rfl,h2,x2⟩
         |true=>
          rw[hmk] at q7 hcond;have hcond':(v !=k.w)=C:=hcond;clear hmk hcond;go_wp2_with fail
          go_meet
          case rel=>exact⟨rfl,h2,x2⟩
        case rest=>
         clear h2 x2 q1 q2 q3 q4 q5 q6 q7 q8 ql hcond;obtain⟨rfl,h2,x2⟩:=hcut;obtain⟨q1,q2,q3,q4,q5,q6,q7,q8,ql⟩:=aJ h2.right;go_wp2_with fail
         refine(HD.out _).mono ?_;rintro e2 w3 ⟨rfl,b3⟩;have h3:=h2.below b3;have x3:=x2.below b3;clear h2 x2 b3 HD q1 q2 q3 q4 q5 q6 q7 q8 ql;have h4:=h3.new #[G u,G C,d f rg,G us,G di,d f fr] 70;have x4:=x3.alloc (.cells #[G u,G C,d f rg,G us,G di,d f fr] 70);clear h3 x3;go_upto_region 15 with fail;generalize w3.alloc _=w4 at*
         generalize w3.heap.size=EB at*
         obtain⟨e0',e1',e2',e3',e4',e5'⟩:=h4.cells6;have el:=h4.lt;obtain⟨q1,q2,q3,q4,q5,q6,q7,q8,ql⟩:=aJ h4.right.right;have h5:H w4 (cC q (.slice A l.length c) k*(aa EB #[G u,G C,d f rg,G us,G di,d f fr] 70*(aa X0 #[d f 0,d f 0,d f 0] 34*(gJ (.slice A l.length c) l*(az m s*(aa X #[d f 0,d f 0,d f 0,d f 0,G C] 129*R)))))):=h4.eq (by unfold aN;ac_rfl);have h6:H w4 (cC q (.slice A l.length c) k*(aa X0 #[d f 0,d f 0,d f 0] 34*(aa EB #[G u,G C,d f rg,G us,G di,d f fr] 70*(gJ (.slice A l.length c) l*(az m s*(aa X #[d f 0,d f 0,d f 0,d f 0,G C] 129*R)))))):=h4.eq (by unfold aN;ac_rfl);unfold cC at h5 h6;have n1:=h5.ne;have n2:=n1.symm;have n3:=h6.ne;have n4:=n3.symm;have f5:=h5.free 5;have f6:=h5.free 6;have h7:H ((w4.setCell (D q 5 o) (d f fr)).setCell (D q 6 o) (d f (k.level - 1))) (cC q (.slice A l.length c) {k with t:=fr,level:=k.level - 1}*(aa X0 #[d f 0,d f 0,d f 0] 34*(aa EB #[G u,G C,d f rg,G us,G di,d f fr] 70*(gJ (.slice A l.length c) l*(az m s*(aa X #[d f 0,d f 0,d f 0,d f 0,G C] 129*R)))))):=(h6.set 5 _).set 6 _;obtain⟨r0,r1,r2⟩:=h6.right.cells3;obtain⟨g0,g1,g2⟩:=h6.right.frees3;have rl:=h6.right.lt;clear h4 h5 h6;go_wp2_with fail
         refine am (fun wz=>H wz (aa X0 #[d f 0,d f 0,d f 0] 34*(cC q (.slice A l.length c) {k with t:=fr,level:=k.level - 1}*(aa EB #[G u,G C,d f rg,G us,G di,d f fr] 70*(gJ (.slice A l.length c) l*(az m s*(aa X #[d f 0,d f 0,d f 0,d f 0,G C] 129*R))))))∧Z W wz) ⟨h7.p2.set3 _ _ _,ah⟩ ?_;rintro wz ⟨hz,xz⟩;exact I (bg results67 rfl rfl rfl (bj hz)) rfl ⟨by rw[hy.out];rfl,by rw[hy.out];exact bx (A:=A) (c:=c) (by unfold aN;exact hz.right.p2.right),xz⟩
      |true=>
       rw[if_neg (by simp)] at hstep;have HY:=F (fun Y=>jR rg k.a.page k.a.kind k.a.user Y);rw[show(⟨k.a.page,k.a.kind,k.a.user⟩:Ac)=k.a from rfl] at HY;cases hmay:may rg k.a with
       |false=>
        rw[if_pos hmay] at hstep;rw[hmay] at HY;have hy:=F hstep;clear hstep hmay HLW;as_aux_lemma=>
         go_enter func67,ntmps67;go_upto_region 1 with fail;generalize W.alloc _=W1 at*
         generalize W.heap.size=X0 at*
         obtain⟨q1,q2,q3,q4,q5,q6,q7,q8,ql⟩:=aJ h1.right;rw[hon] at q1;rw[HTT.out] at q5;go_wp2_with fail
         refine(HT.out _ _ h1.r3).mono ?_;rintro e2 w2 ⟨rfl,rfl⟩;obtain⟨gw,gi,vk,hq⟩:=cv h1.r3;have d0:=ae (Has.cell hq 0);have dw:=ch hq htn hj8;rw[HV.out] at dw;have dw:=ae dw;have v2:=ae q2;have v5:=ae q5;have v6:=ae q6;clear hq q1 q2 q3 q4 q5 q6 q7 q8 ql HT;go_upto_region 5 with fail;refine au (by kernel_rfl) (by kernel_rfl) ?_;repeat(first|go_big_quiet_step ((go_at_call 120;exact J (HI.out _)))|quiet_step ((go_at_call 120;exact J (HI.out _))))
         refine wpQuiet_nil ?_;intro _ hw';obtain⟨uq,hw''⟩:=hw';subst hw'';have h2:=h1.via uq;have x2:=x1.below (aE _ uq);generalize gU W1 uq=W2 at*
         clear h1 x1 d0 dw v2 v5 v6 HI;obtain⟨q1,q2,q3,q4,q5,q6,q7,q8,ql⟩:=aJ h2.right;go_upto_region 6 with fail;go_cut [62] from 51 to 62 (fun s62 wx=>s62=G C∧H wx (aa X0 #[d f 0,d f 0,d f 0] 34*aN q A c l k (az m s*(aa X #[d f 0,d f 0,d f 0,d f 0,G C] 129*R)))∧Z W wx)
         case first=>
          cases hmk:k.mark with
          |false=>
           rw[hmk] at q7;clear hmk hcond;go_wp2_with fail
           go_meet
           case rel=>exact⟨rfl,h2,x2⟩
          |true=>
           rw[hmk] at q7 hcond;have hcond':(v !=k.w)=C:=hcond;clear hmk hcond;go_wp2_with fail
           go_meet
           case rel=>exact⟨rfl,h2,x2⟩
         case rest=>
          clear h2 x2 q1 q2 q3 q4 q5 q6 q7 q8 ql hcond;obtain⟨rfl,h2,x2⟩:=hcut;obtain⟨q1,q2,q3,q4,q5,q6,q7,q8,ql⟩:=aJ h2.right;go_wp2_with fail
          refine(HD.out _).mono ?_;rintro e2 w3 ⟨rfl,b3⟩;have h3:=h2.below b3;have x3:=x2.below b3;clear h2 x2 b3 HD q1 q2 q3 q4 q5 q6 q7 q8 ql;have h4:=h3.new #[G u,G u,d f rg,G us,G di,d f fr] 70;have x4:=x3.alloc (.cells #[G u,G u,d f rg,G us,G di,d f fr] 70);clear h3 x3;go_upto_region 18 with fail;generalize w3.alloc _=w4 at*
          generalize w3.heap.size=EB at*
          obtain⟨e0',e1',e2',e3',e4',e5'⟩:=h4.cells6;have el:=h4.lt;obtain⟨q1,q2,q3,q4,q5,q6,q7,q8,ql⟩:=aJ h4.right.right;have v2:=ae q2;have v3:=ae q3;have v4:=ae q4;have ve2:=ae e2';clear e0' e1' e2' e3' e4' e5' el q1 q2 q3 q4 q5 q6 q7 q8 ql;refine au (by kernel_rfl) (by kernel_rfl) ?_;repeat(first|go_big_quiet_step ((go_at_call 123;exact J (HY.out _)))|quiet_step ((go_at_call 123;exact J (HY.out _))))
          refine wpQuiet_nil ?_;intro _ hw';obtain⟨uq,hw''⟩:=hw';subst hw'';have h5:=h4.via uq;have x5:=x4.below (aE _ uq);generalize gU w4 uq=w5 at*
          clear h4 x4 v2 v3 v4 ve2 HY;obtain⟨q1,q2,q3,q4,q5,q6,q7,q8,ql⟩:=aJ h5.right.right;obtain⟨e0',e1',e2',e3',e4',e5'⟩:=h5.cells6;have el:=h5.lt;have h8:H w5 (aN q A c l k (aa X0 #[d f 0,d f 0,d f 0] 34*(aa EB #[G u,G u,d f rg,G us,G di,d f fr] 70*(az m s*(aa X #[d f 0,d f 0,d f 0,d f 0,G C] 129*R))))):=(h5).eq (by unfold aN;ac_rfl);have HE:=F (fun R X h=>rI q l k ⟨2,0,0⟩ R X h);go_wp2_with fail
          refine(HE.out _ _ (bx h8)).mono ?_;rintro e2 w9 ⟨rfl,h9,x9⟩;have hA:=h9.p2;obtain⟨r0,r1,r2⟩:=hA.cells3;obtain⟨g0,g1,g2⟩:=hA.frees3;have rl:=hA.lt;have xA:=(x5).trans x9;clear h8 h9 HE x9;go_wp2_with fail
          refine am (fun wz=>H wz (aa X0 #[d f 2,d f 0,d f 0] 34*(aQ q l k.idle*(aa EB #[G u,G u,d f rg,G us,G di,d f fr] 70*(az m s*(aa X #[d f 0,d f 0,d f 0,d f 0,G C] 129*R)))))∧Z W wz) ⟨hA.set3 _ _ _,ah⟩ ?_;rintro wz ⟨hz,xz⟩;exact I (bg results67 rfl rfl rfl (bj hz)) rfl ⟨by rw[hy.out];rfl,by rw[hy.out];exact hz.right.p2.right,xz⟩
       |true=>
        rw[if_neg (by rw[hmay];simp)] at hstep;have HMAY:=F hmay;clear hmay;cases hmk:k.mark with
        |true=>
         rw[if_pos hmk] at hstep;exact qY q m X root l k s R W A c h1 x1 hon t j HTT hj8 htn hsn HJX.out.1 HJX.out.2 v HV HWB.out hcond rg us di fr HVV.out HMAY.out (F hmk) (HLW.out hmk) hstep
        |false=>
         rw[if_neg (by rw[hmk];simp)] at hstep;have HMK:=F hmk;clear hmk;cases hr:dZ ⟨u,u,rg,us,di,fr⟩ k.a with
         |true=>
          rw[if_pos hr] at hstep;exact pO q m X root l k s R W A c h1 x1 hon t j HTT hj8 htn hsn HJX.out.1 HJX.out.2 v HV HWB.out hcond rg us di fr HVV.out HMAY.out HMK hr hstep
         |false=>
          rw[if_neg (by rw[hr];simp)] at hstep;have hy:=F hstep;rw[HMAY.out] at HY;clear hstep HLW HMAY HVV HJX;as_aux_lemma=>
           go_enter func67,ntmps67;go_upto_region 1 with fail;generalize W.alloc _=W1 at*
           generalize W.heap.size=X0 at*
           obtain⟨q1,q2,q3,q4,q5,q6,q7,q8,ql⟩:=aJ h1.right;rw[hon] at q1;rw[HTT.out] at q5;go_wp2_with fail
           refine(HT.out _ _ h1.r3).mono ?_;rintro e2 w2 ⟨rfl,rfl⟩;obtain⟨gw,gi,vk,hq⟩:=cv h1.r3;have d0:=ae (Has.cell hq 0);have dw:=ch hq htn hj8;rw[HV.out] at dw;have dw:=ae dw;have v2:=ae q2;have v5:=ae q5;have v6:=ae q6;clear hq q1 q2 q3 q4 q5 q6 q7 q8 ql HT;go_upto_region 5 with fail;refine au (by kernel_rfl) (by kernel_rfl) ?_;repeat(first|go_big_quiet_step ((go_at_call 120;exact J (HI.out _)))|quiet_step ((go_at_call 120;exact J (HI.out _))))
           refine wpQuiet_nil ?_;intro _ hw';obtain⟨uq,hw''⟩:=hw';subst hw'';have h2:=h1.via uq;have x2:=x1.below (aE _ uq);generalize gU W1 uq=W2 at*
           clear h1 x1 d0 dw v2 v5 v6 HI;obtain⟨q1,q2,q3,q4,q5,q6,q7,q8,ql⟩:=aJ h2.right;go_upto_region 6 with fail;go_cut [62] from 51 to 62 (fun s62 wx=>s62=G C∧H wx (aa X0 #[d f 0,d f 0,d f 0] 34*aN q A c l k (az m s*(aa X #[d f 0,d f 0,d f 0,d f 0,G C] 129*R)))∧Z W wx)
           case first=>
            cases hmk:k.mark with
            |false=>
             rw[hmk] at q7;clear hmk hcond;go_wp2_with fail
             go_meet
             case rel=>exact⟨rfl,h2,x2⟩
            |true=>
             rw[hmk] at q7 hcond;have hcond':(v !=k.w)=C:=hcond;clear hmk hcond;go_wp2_with fail
             go_meet
             case rel=>exact⟨rfl,h2,x2⟩
           case rest=>
            clear h2 x2 q1 q2 q3 q4 q5 q6 q7 q8 ql hcond;obtain⟨rfl,h2,x2⟩:=hcut;obtain⟨q1,q2,q3,q4,q5,q6,q7,q8,ql⟩:=aJ h2.right;go_wp2_with fail
            refine(HD.out _).mono ?_;rintro e2 w3 ⟨rfl,b3⟩;have h3:=h2.below b3;have x3:=x2.below b3;clear h2 x2 b3 HD q1 q2 q3 q4 q5 q6 q7 q8 ql;have h4:=h3.new #[G u,G u,d f rg,G us,G di,d f fr] 70;have x4:=x3.alloc (.cells #[G u,G u,d f rg,G us,G di,d f fr] 70);clear h3 x3;go_upto_region 18 with fail;generalize w3.alloc _=w4 at*
            generalize w3.heap.size=EB at*
            obtain⟨e0',e1',e2',e3',e4',e5'⟩:=h4.cells6;have el:=h4.lt;obtain⟨q1,q2,q3,q4,q5,q6,q7,q8,ql⟩:=aJ h4.right.right;have v2:=ae q2;have v3:=ae q3;have v4:=ae q4;have ve2:=ae e2';clear e0' e1' e2' e3' e4' e5' el q1 q2 q3 q4 q5 q6 q7 q8 ql;refine au (by kernel_rfl) (by kernel_rfl) ?_;repeat(first|go_big_quiet_step ((go_at_call 123;exact J (HY.out _)))|quiet_step ((go_at_call 123;exact J (HY.out _))))
            refine wpQuiet_nil ?_;intro _ hw';obtain⟨uq,hw''⟩:=hw';subst hw'';have h5:=h4.via uq;have x5:=x4.below (aE _ uq);generalize gU w4 uq=w5 at*
            clear h4 x4 v2 v3 v4 ve2 HY;obtain⟨q1,q2,q3,q4,q5,q6,q7,q8,ql⟩:=aJ h5.right.right;obtain⟨e0',e1',e2',e3',e4',e5'⟩:=h5.cells6;have el:=h5.lt;go_upto_region 20 with fail;go_cut [14] from 119 to 132 (fun s14 wx=>s14=G C∧H wx (aa EB #[G u,G u,d f rg,G us,G di,d f fr] 70*(aa X0 #[d f 0,d f 0,d f 0] 34*aN q A c l k (az m s*(aa X #[d f 0,d f 0,d f 0,d f 0,G C] 129*R))))∧Z W wx)
            case first=>
             have HRR:=F hr;clear hr;cases us with
             |false=>
              go_wp2_with fail
              go_meet
              case rel=>exact⟨by rw[←HRR.out];first|done|rfl,h5,x5⟩
             |true=>
              cases di with
              |true=>
               go_wp2_with fail
               go_meet
               case rel=>exact⟨by rw[←HRR.out];first|done|rfl,h5,x5⟩
              |false=>
               go_wp2_with fail
               go_meet
               case rel=>exact⟨by rw[←HRR.out];first|done|rfl,h5,x5⟩
            case rest=>
             clear h5 x5 q1 q2 q3 q4 q5 q6 q7 q8 ql e0' e1' e2' e3' e4' e5' el hr;obtain⟨rfl,h6,x6⟩:=hcut;obtain⟨q1,q2,q3,q4,q5,q6,q7,q8,ql⟩:=aJ h6.right.right;rw[HMK.out] at q7;obtain⟨e0',e1',e2',e3',e4',e5'⟩:=h6.cells6;have el:=h6.lt;have h7:H wc (cC q (.slice A l.length c) k*(aa X0 #[d f 0,d f 0,d f 0] 34*(aa EB #[G u,G u,d f rg,G us,G di,d f fr] 70*(gJ (.slice A l.length c) l*(az m s*(aa X #[d f 0,d f 0,d f 0,d f 0,G C] 129*R)))))):=h6.eq (by unfold aN;ac_rfl);unfold cC at h7;have n3:=h7.ne;have n4:=n3.symm;have f7:=h7.free 7;have f8:=h7.free 8;have h8:H ((wc.setCell (D q 7 o) (G u)).setCell (D q 8 o) (d vU v)) (cC q (.slice A l.length c) {k with mark:=u,w:=v}*(aa X0 #[d f 0,d f 0,d f 0] 34*(aa EB #[G u,G u,d f rg,G us,G di,d f fr] 70*(gJ (.slice A l.length c) l*(az m s*(aa X #[d f 0,d f 0,d f 0,d f 0,G C] 129*R)))))):=(h7.set 7 _).set 8 _;obtain⟨r0,r1,r2⟩:=h7.right.cells3;obtain⟨g0,g1,g2⟩:=h7.right.frees3;have rl:=h7.right.lt;clear h6 h7;go_wp2_with fail
             refine am (fun wz=>H wz (aa X0 #[d f 0,d f 0,d f 0] 34*(cC q (.slice A l.length c) {k with mark:=u,w:=v}*(aa EB #[G u,G u,d f rg,G us,G di,d f fr] 70*(gJ (.slice A l.length c) l*(az m s*(aa X #[d f 0,d f 0,d f 0,d f 0,G C] 129*R))))))∧Z W wz) ⟨h8.p2.set3 _ _ _,ah⟩ ?_;rintro wz ⟨hz,xz⟩;exact I (bg results67 rfl rfl rfl (bj hz)) rfl ⟨by rw[hy.out];rfl,by rw[hy.out];exact bx (A:=A) (c:=c) (by unfold aN;exact hz.right.p2.right),xz⟩
theorem jg{w:T}{q c:Nat}{A:Option bd}{l:List Ln}{k:Ck}{R:ab}(h:H w (aN q A c l k R))(a:Ac):
  H ((((w.setCell (D q 1 o) (G u)).setCell (D q 2 o) (d f a.page)).setCell (D q 3 o) (d f a.kind)).setCell (D q 4 o) (G a.user)) (aN q A c l {k with on:=u,a:=a} R):=by
 unfold aN cC at h⊢;exact(((h.set 1 (G u)).set 2 (d f a.page)).set 3 (d f a.kind)).set 4 (G a.user)
theorem qZ(q:Nat)(l:List Ln)(root:Int)(k:Ck)(a:Ac)(ha:aq a≠0)(R:ab)(W:T)(h:H W (aQ q l k*R)):
  ax prog 66 #[.pointer (z (D q 0 o)),d f root,.agg #[d f a.page,d f a.kind,G a.user]] W (cR (.tuple #[.agg #[d f 0,d f 0,d f 0],G C,d f (aq a)]) (aQ q l k*R) W):=by
 have hn:(aq ⟨a.page,a.kind,a.user⟩ !=0)=u:=by simpa using ha
 have h1:H _ (aQ q l k*(aa (W.heap.size+1) #[d f 0,d f 0,d f 0] 34*(aa W.heap.size #[d f a.page,d f a.kind,G a.user] 41*R))):=((h.new #[d f a.page,d f a.kind,G a.user] 41).new #[d f 0,d f 0,d f 0] 34).eq (by simp only[ag];ac_rfl);have x1:=((Ext.refl W).alloc (.cells #[d f a.page,d f a.kind,G a.user] 41)).alloc (.cells #[d f 0,d f 0,d f 0] 34);have HC:=F (fun X=>ey a.page a.kind a.user X);clear h;go_enter func66,ntmps66;go_upto_region 1 with fail;generalize (W.alloc (.cells #[d f a.page,d f a.kind,G a.user] 41)).alloc (.cells #[d f 0,d f 0,d f 0] 34)=W1 at*
 generalize W.heap.size+1=X1 at*
 generalize W.heap.size=X0 at*
 obtain⟨a0,a1,a2⟩:=h1.right.right.cells3;have al:=h1.right.right.lt;go_wp2_with fail
 refine(HC.out _).mono ?_;rintro e w2 ⟨rfl,b2⟩;have h2:=h1.below b2;have x2:=x1.below b2;clear h1 x1 a0 a1 a2 al b2 HC;rw[show aq a=aq ⟨a.page,a.kind,a.user⟩ from rfl];generalize aq ⟨a.page,a.kind,a.user⟩=ca at*
 have hA:=h2.p2;obtain⟨r0,r1,r2⟩:=hA.cells3;obtain⟨g0,g1,g2⟩:=hA.frees3;have rl:=hA.lt;go_wp2_with fail
 refine am (fun wz=>H wz (aa X1 #[d f 0,d f 0,d f 0] 34*(aQ q l k*(aa X0 #[d f a.page,d f a.kind,G a.user] 41*R)))∧Z W wz) ⟨hA.set3 _ _ _,ah⟩ ?_;rintro wz ⟨hz,xz⟩;exact I (bg results66 rfl rfl rfl (bj hz)) rfl ⟨rfl,hz.right.p2.right,xz⟩
theorem pP(q:Nat)(l:List Ln)(root:Int)(k:Ck)(a:Ac)(ha:aq a=0)(hon:k.on=u)(R:ab)(W:T)(h:H W (aQ q l k*R)):
  ax prog 66 #[.pointer (z (D q 0 o)),d f root,.agg #[d f a.page,d f a.kind,G a.user]] W (cR (.tuple #[.agg #[d f 0,d f 0,d f 0],G C,d f 8]) (aQ q l k*R) W):=by
 have ha':aq ⟨a.page,a.kind,a.user⟩=0:=ha;clear ha;have h1:H _ (aQ q l k*(aa (W.heap.size+1) #[d f 0,d f 0,d f 0] 34*(aa W.heap.size #[d f a.page,d f a.kind,G a.user] 41*R))):=((h.new #[d f a.page,d f a.kind,G a.user] 41).new #[d f 0,d f 0,d f 0] 34).eq (by simp only[ag];ac_rfl);have x1:=((Ext.refl W).alloc (.cells #[d f a.page,d f a.kind,G a.user] 41)).alloc (.cells #[d f 0,d f 0,d f 0] 34);have HC:=F (fun X=>ey a.page a.kind a.user X);clear h;go_enter func66,ntmps66;go_upto_region 1 with fail;generalize (W.alloc (.cells #[d f a.page,d f a.kind,G a.user] 41)).alloc (.cells #[d f 0,d f 0,d f 0] 34)=W1 at*
 generalize W.heap.size+1=X1 at*
 generalize W.heap.size=X0 at*
 obtain⟨a0,a1,a2⟩:=h1.right.right.cells3;have al:=h1.right.right.lt;go_wp2_with fail
 refine(HC.out _).mono ?_;rintro e w2 ⟨rfl,b2⟩;have h2:=h1.below b2;have x2:=x1.below b2;clear h1 x1 a0 a1 a2 al b2 HC;rw[ha'];obtain⟨A,c,h3⟩:=cP h2;obtain⟨q1,q2,q3,q4,q5,q6,q7,q8,ql⟩:=aJ h3;rw[hon] at q1;have hA:=h2.p2;obtain⟨r0,r1,r2⟩:=hA.cells3;obtain⟨g0,g1,g2⟩:=hA.frees3;have rl:=hA.lt;clear h3 hon q2 q3 q4 q5 q6 q7 q8;go_wp2_with fail
 refine am (fun wz=>H wz (aa X1 #[d f 0,d f 0,d f 0] 34*(aQ q l k*(aa X0 #[d f a.page,d f a.kind,G a.user] 41*R)))∧Z W wz) ⟨hA.set3 _ _ _,ah⟩ ?_;rintro wz ⟨hz,xz⟩;exact I (bg results66 rfl rfl rfl (bj hz)) rfl ⟨rfl,hz.right.p2.right,xz⟩
set_option maxHeartbeats 4000000 in
theorem pQ(q:Nat)(l:List Ln)(root:Int)(k:Ck)(a:Ac)(hl:Tl.Ok l)(ha:aq a=0)(hp:cW a.page)(hon:k.on=C)(hi:Tl.idx l a.page= -1)(R:ab)(W:T)(h:H W (aQ q l k*R)):
  ax prog 66 #[.pointer (z (D q 0 o)),d f root,.agg #[d f a.page,d f a.kind,G a.user]] W (cR (.tuple #[.agg #[d f 0,d f 0,d f 0],G C,d f 0]) (aQ q l (k.begin root a)*R) W):=by
 have ha':aq ⟨a.page,a.kind,a.user⟩=0:=ha;have HKP:=F (fun R X h=>uh q l k a.page R X hl hp h);have HAG:=F (fun R X h=>oF q root l {k with on:=u,a:=a} R X h);have hag:({k with on:=u,a:=a}:Ck).again root=k.begin root a:=by unfold Ck.again Ck.begin;rw[if_pos rfl]
 rw[hag] at HAG;rw[hi] at HKP;clear hi hl;clear ha hp hag;have h1:H _ (aQ q l k*(aa (W.heap.size+1) #[d f 0,d f 0,d f 0] 34*(aa W.heap.size #[d f a.page,d f a.kind,G a.user] 41*R))):=((h.new #[d f a.page,d f a.kind,G a.user] 41).new #[d f 0,d f 0,d f 0] 34).eq (by simp only[ag];ac_rfl);have x1:=((Ext.refl W).alloc (.cells #[d f a.page,d f a.kind,G a.user] 41)).alloc (.cells #[d f 0,d f 0,d f 0] 34);have HC:=F (fun X=>ey a.page a.kind a.user X);clear h;go_enter func66,ntmps66;go_upto_region 1 with fail;generalize (W.alloc (.cells #[d f a.page,d f a.kind,G a.user] 41)).alloc (.cells #[d f 0,d f 0,d f 0] 34)=W1 at*
 generalize W.heap.size+1=X1 at*
 generalize W.heap.size=X0 at*
 obtain⟨a0,a1,a2⟩:=h1.right.right.cells3;have al:=h1.right.right.lt;go_wp2_with fail
 refine(HC.out _).mono ?_;rintro e w2 ⟨rfl,b2⟩;have h2:=h1.below b2;have x2:=x1.below b2;clear h1 x1 a0 a1 a2 al b2 HC;rw[ha'];obtain⟨a0,a1,a2⟩:=h2.right.right.cells3;have al:=h2.right.right.lt;obtain⟨A,c,h3⟩:=cP h2;obtain⟨q1,q2,q3,q4,q5,q6,q7,q8,ql⟩:=aJ h3;rw[hon] at q1;go_wp2_with fail
 refine(HKP.out _ _ h2).mono ?_;rintro e w4 ⟨rfl,b4⟩;have h5:=h3.below b4;have x5:=x2.below b4;clear h2 h3 x2 a0 a1 a2 al b4 HKP q1 q2 q3 q4 q5 q6 q7 q8 ql ha' hon;go_upto_region 11 with fail;go_cut [] from 58 to 64 (fun wx=>H wx (aN q A c l {k with on:=u,a:=a} (aa X1 #[d f 0,d f 0,d f 0] 34*(aa X0 #[d f a.page,d f a.kind,G a.user] 41*R)))∧Z W wx)
 case first=>
  have h6:H _ (cC q (.slice A l.length c) k*(aa X0 #[d f a.page,d f a.kind,G a.user] 41*(gJ (.slice A l.length c) l*(aa X1 #[d f 0,d f 0,d f 0] 34*R)))):=h5.eq (by unfold aN;ac_rfl);unfold cC at h6;have n1:=h6.ne;have n2:=n1.symm;obtain⟨a0,a1,a2⟩:=h6.right.cells3;have al:=h6.right.lt;have f1:=h6.free 1;have f2:=h6.free 2;have f3:=h6.free 3;have f4:=h6.free 4;obtain⟨q1,q2,q3,q4,q5,q6,q7,q8,ql⟩:=aJ h5;go_region
  all_goals
   go_wp2_with fail
   go_meet
   case rel=>first|exact⟨(jg h5 a).drew,((((x5.set _ _).set _ _).set _ _).set _ _).drew⟩|exact⟨jg h5.drew a,(((x5.drew.set _ _).set _ _).set _ _).set _ _⟩
 case rest=>
  clear h5 x5;obtain⟨h6,x6⟩:=hcut;go_wp2_with fail
  refine(HAG.out _ _ (bx h6)).mono ?_;rintro e w7 ⟨rfl,h7,x7⟩;have hA:=h7.p2;have xA:=x6.trans x7;obtain⟨r0,r1,r2⟩:=hA.cells3;obtain⟨g0,g1,g2⟩:=hA.frees3;have rl:=hA.lt;clear h6 x6 h7 x7;go_wp2_with fail
  refine am (fun wz=>H wz (aa X1 #[d f 0,d f 0,d f 0] 34*(aQ q l (k.begin root a)*(aa X0 #[d f a.page,d f a.kind,G a.user] 41*R)))∧Z W wz) ⟨hA.set3 _ _ _,ah⟩ ?_;rintro wz ⟨hz,xz⟩;exact I (bg results66 rfl rfl rfl (bj hz)) rfl ⟨rfl,hz.right.p2.right,xz⟩
set_option maxHeartbeats 8000000 in
theorem lK(q:Nat)(l:List Ln)(root:Int)(k:Ck)(a:Ac)(hl:Tl.Ok l)(ha:aq a=0)(hp:cW a.page)(hon:k.on=C)(j:Nat)(hj:j<l.length)(hi:Tl.idx l a.page=j)(x:Ln)(hx:Hid (l[j]=x))(an:An)(hAn:Hid (bF x.m a=an))(hit:Bool)(hh:Hid (hit=mV x a))(b:Bq)(hb:Hid (b=if hit=u then⟨an,u,0,k⟩ else⟨An.zero,C,0,k.begin root a⟩))
  (R:ab) (W:T) (h:H W (aQ q l k*R)):
  ax prog 66 #[.pointer (z (D q 0 o)),d f root,.agg #[d f a.page,d f a.kind,G a.user]] W (cR (.tuple #[.agg #[d f b.an.fin,d f b.an.frame,d f b.an.rights],G b.fin,d f b.code]) (aQ q l b.c*R) W):=by
 have ha':aq ⟨a.page,a.kind,a.user⟩=0:=ha;have HKP:=F (fun R X h=>uh q l k a.page R X hl hp h);have HAG:=F (fun R X h=>oF q root l {k with on:=u,a:=a} R X h);have hag:({k with on:=u,a:=a}:Ck).again root=k.begin root a:=by unfold Ck.again Ck.begin;rw[if_pos rfl]
 rw[hag] at HAG;rw[hi] at HKP;have hsm:l.length≤6:=hl.len;have HAN:=F (fun X=>hO x.m a.page a.kind a.user X);rw[show bF x.m ⟨a.page,a.kind,a.user⟩=an from hAn.out] at HAN;have hfin:Hid ((an.fin !=0)= !may x.m.rights a):=F (by rw[←hAn.out];unfold bF;split<;>simp_all);clear hi hl hAn;clear ha hp hag;have h1:H _ (aQ q l k*(aa (W.heap.size+1) #[d f 0,d f 0,d f 0] 34*(aa W.heap.size #[d f a.page,d f a.kind,G a.user] 41*R))):=((h.new #[d f a.page,d f a.kind,G a.user] 41).new #[d f 0,d f 0,d f 0] 34).eq (by simp only[ag];ac_rfl);have x1:=((Ext.refl W).alloc (.cells #[d f a.page,d f a.kind,G a.user] 41)).alloc (.cells #[d f 0,d f 0,d f 0] 34);have HC:=F (fun X=>ey a.page a.kind a.user X);clear h;go_enter func66,ntmps66;go_upto_region 1 with fail;generalize (W.alloc (.cells #[d f a.page,d f a.kind,G a.user] 41)).alloc (.cells #[d f 0,d f 0,d f 0] 34)=W1 at*
 generalize W.heap.size+1=X1 at*
 generalize W.heap.size=X0 at*
 obtain⟨a0,a1,a2⟩:=h1.right.right.cells3;have al:=h1.right.right.lt;go_wp2_with fail
 refine(HC.out _).mono ?_;rintro e w2 ⟨rfl,b2⟩;have h2:=h1.below b2;have x2:=x1.below b2;clear h1 x1 a0 a1 a2 al b2 HC;rw[ha'];obtain⟨a0,a1,a2⟩:=h2.right.right.cells3;have al:=h2.right.right.lt;obtain⟨A,c,h3⟩:=cP h2;obtain⟨q1,q2,q3,q4,q5,q6,q7,q8,ql⟩:=aJ h3;rw[hon] at q1;go_wp2_with fail
 refine(HKP.out _ _ h2).mono ?_;rintro e w4 ⟨rfl,b4⟩;have h5:=h3.below b4;have x5:=x2.below b4;clear h2 h3 x2 a0 a1 a2 al b4 HKP q1 q2 q3 q4 q5 q6 q7 q8 ql ha' hon;obtain⟨g,off,rfl,gl,d0,d1,d2,d3,d4⟩:=iI h5.right hj;rw[hx.out] at d0 d1 d2 d3 d4;have hji:(j:Int)<l.length:=by omega
 have hj0:¬((j:Int)<0):=by omega
 have HK:=F (fun(w':T) (P Q:ab) (h:H w' (aN q (z (D g off o)) c l k (P*(aa X0 #[d f a.page,d f a.kind,G a.user] 41*Q))))=>(by
  obtain⟨g',off',e,_,d0,d1,d2,d3,d4⟩:=iI h.right hj;injection e with e
  injection e with e1 e2
  subst e1;subst e2;rw[hx.out] at d0 d1 d2 d3 d4;obtain⟨a0,a1,a2⟩:=h.r3.cells3;have q0:=h;unfold aN cC at q0;exact⟨q0.cell 0,d0,d1,d2,d3,d4,a0,a1,a2⟩:w'.cell? (D q 0 o)=z (.slice (z (D g off o)) l.length c)∧w'.cell? ⟨g,off+j*5,o⟩=z (d f x.m.page)∧w'.cell? ⟨g,off+j*5+1,o⟩=z (d f x.m.size)∧w'.cell? ⟨g,off+j*5+2,o⟩=z (d f x.m.frame)∧w'.cell? ⟨g,off+j*5+3,o⟩=z (d f x.m.rights)∧w'.cell? ⟨g,off+j*5+4,o⟩=z (G x.dirty)∧w'.cell? (D X0 0 o)=z (d f a.page)∧w'.cell? (D X0 1 o)=z (d f a.kind)∧w'.cell? (D X0 2 o)=z (G a.user)))
 obtain⟨q0,_,_,_,_,_,a0,a1,a2⟩:=HK.out _ _ _ h5;have ql:=(aJ h5).2.2.2.2.2.2.2.2;have al:=h5.r3.lt;go_upto_region 8 with fail;go_cut [11] from 29 to 39 (fun s11 wx=>∃V:Nat,s11= .pointer (z (D V 0 o))∧H wx (aN q (z (D g off o)) c l k (aa X1 #[d f 0,d f 0,d f 0] 34*(aa X0 #[d f a.page,d f a.kind,G a.user] 41*(aa V #[d f an.fin,d f an.frame,d f an.rights] 34*R))))∧Z W wx)
 case first=>
  have h6:=h5.drew;have x6:=x5.drew;have z6:H (w4.alloc (.cells #[d f 0,d f 0,d f 0] 34)).drew (aN q (z (D g off o)) c l k (aa X1 #[d f 0,d f 0,d f 0] 34*(aa X0 #[d f a.page,d f a.kind,G a.user] 41*(aa w4.heap.size #[d f 0,d f 0,d f 0] 34*R)))):=(h5.new #[d f 0,d f 0,d f 0] 34).drew.eq (by unfold aN;ac_rfl);have y6:=(x5.alloc (.cells #[d f 0,d f 0,d f 0] 34)).drew;go_region_held3 (fun w'=>w'.cell? (D q 0 o)=z (.slice (z (D g off o)) l.length c)∧w'.cell? ⟨g,off+j*5,o⟩=z (d f x.m.page)∧w'.cell? ⟨g,off+j*5+1,o⟩=z (d f x.m.size)∧w'.cell? ⟨g,off+j*5+2,o⟩=z (d f x.m.frame)∧w'.cell? ⟨g,off+j*5+3,o⟩=z (d f x.m.rights)∧w'.cell? ⟨g,off+j*5+4,o⟩=z (G x.dirty)∧w'.cell? (D X0 0 o)=z (d f a.page)∧w'.cell? (D X0 1 o)=z (d f a.kind)∧w'.cell? (D X0 2 o)=z (G a.user)) (first|(with_reducible exact HK.out _ _ _ h6)|(with_reducible exact HK.out _ _ _ z6)|(with_reducible exact HK.out _ _ _ hL)|(with_reducible exact HK.out _ _ _ gL)|(with_reducible exact HK.out _ _ _ hN)|(with_reducible exact HK.out _ _ _ gN)|go_keep) (first|(go_at_call 92;first|((with_reducible refine(HAN.out _).mono ?_);rintro e w7 ⟨rfl,b7⟩;first|(have hL:=h6.below b7;have xL:=x6.below b7;have hN:H _ (aN q (z (D g off o)) c l k (aa X1 #[d f 0,d f 0,d f 0] 34*(aa X0 #[d f a.page,d f a.kind,G a.user] 41*(aa w7.heap.size #[d f an.fin,d f an.frame,d f an.rights] 34*R)))):=(hL.new #[d f an.fin,d f an.frame,d f an.rights] 34).eq (by unfold aN;ac_rfl))|(have gL:=z6.below b7;have yL:=y6.below b7;have gM:H _ (aa w4.heap.size #[d f 0,d f 0,d f 0] 34*aN q (z (D g off o)) c l k (aa X1 #[d f 0,d f 0,d f 0] 34*(aa X0 #[d f a.page,d f a.kind,G a.user] 41*R))):=gL.eq (by unfold aN;ac_rfl);obtain⟨z0,z1,z2⟩:=gM.cells3;obtain⟨y0,y1,y2⟩:=gM.frees3;have zl:=gM.lt;have gN:H _ (aN q (z (D g off o)) c l k (aa X1 #[d f 0,d f 0,d f 0] 34*(aa X0 #[d f a.page,d f a.kind,G a.user] 41*(aa w4.heap.size #[d f an.fin,d f an.frame,d f an.rights] 34*R)))):=(gM.set3 (d f an.fin) (d f an.frame) (d f an.rights)).eq (by unfold aN;ac_rfl)))))
  all_goals
   go_wp2_with fail
   go_meet
   case rel=>first|exact⟨_,rfl,hN,xL.alloc _⟩|exact⟨_,rfl,gN,((yL.set _ _).set _ _).set _ _⟩
 case rest=>
  clear h5 x5 q0 d0 d1 d2 d3 d4 a0 a1 a2 ql al gl HAN;obtain⟨V,rfl,h5,x5⟩:=hcut;obtain⟨q0,_,_,_,_,d4,a0,a1,a2⟩:=HK.out _ _ _ h5;obtain⟨r0,r1,r2⟩:=h5.right.r3.cells3;have rl:=h5.right.r3.lt;have ql:=(aJ h5).2.2.2.2.2.2.2.2;have al:=h5.r3.lt;have gl:g<wc.heap.size:=by
   obtain⟨g',off',e,gl,_⟩:=iI h5.right hj;injection e with e
   injection e with e1 e2
   rw[e1];exact gl
  go_upto_region 9 with fail;go_cut [56] from 39 to 56 (fun s56 wx=>s56=G hit∧wx=wc)
  case first=>
   have hh:=F (show hit=(x.dirty||(a.kind !=1||(an.fin !=0))) by rw[hh.out,hfin.out];rfl);cases hf:(an.fin !=0) with
   |true=>
    rw[hf] at hh;go_wp2_with fail
    go_meet
    case rel=>exact⟨by rw[hh.out];simp,rfl⟩
   |false=>
    rw[hf] at hh;cases hk1:(a.kind !=1) with
    |true=>
     rw[hk1] at hh;go_wp2_with fail
     go_meet
     case rel=>exact⟨by rw[hh.out];simp,rfl⟩
    |false=>
     rw[hk1] at hh;go_wp2_with fail
     go_meet
     case rel=>exact⟨by rw[hh.out];simp,rfl⟩
  case rest=>
   obtain⟨rfl,rfl⟩:=hcut;have hb:=hb.out;cases hit with
   |true=>
    rw[if_pos rfl] at hb;subst hb;try dsimp only
    have h7:H _ (aa X1 #[d f 0,d f 0,d f 0] 34*(aa V #[d f an.fin,d f an.frame,d f an.rights] 34*(aN q (z (D g off o)) c l k (aa X0 #[d f a.page,d f a.kind,G a.user] 41*R)))):=h5.eq (by unfold aN;ac_rfl);obtain⟨s0,s1,s2⟩:=h7.cells3;obtain⟨g0,g1,g2⟩:=h7.frees3;have sl:=h7.lt;have vn:=h7.ne;have vn':=vn.symm;clear HK;go_wp2_with fail
    refine am (fun wz=>H wz (aa X1 #[d f an.fin,d f an.frame,d f an.rights] 34*(aa V #[d f an.fin,d f an.frame,d f an.rights] 34*(aN q (z (D g off o)) c l k (aa X0 #[d f a.page,d f a.kind,G a.user] 41*R))))∧Z W wz) ⟨h7.set3 _ _ _,ah⟩ ?_;rintro wz ⟨hz,xz⟩;exact I (bg results66 rfl rfl rfl (bj hz)) rfl ⟨rfl,(bx hz.right.right).p2.right,xz⟩
   |false=>
    rw[if_neg (by simp)] at hb;subst hb;try dsimp only[An.zero]
    clear HK hh;generalize hA':z ((D g off o):bd)=A at h5;clear hA' q0 d4 a0 a1 a2 r0 r1 r2 rl ql al gl;go_upto_region 11 with fail;go_cut [] from 58 to 64 (fun wx=>H wx (aN q A c l {k with on:=u,a:=a} (aa X1 #[d f 0,d f 0,d f 0] 34*(aa X0 #[d f a.page,d f a.kind,G a.user] 41*(aa V #[d f an.fin,d f an.frame,d f an.rights] 34*R))))∧Z W wx)
    case first=>
     have h6:H _ (cC q (.slice A l.length c) k*(aa X0 #[d f a.page,d f a.kind,G a.user] 41*(gJ (.slice A l.length c) l*(aa X1 #[d f 0,d f 0,d f 0] 34*(aa V #[d f an.fin,d f an.frame,d f an.rights] 34*R))))):=h5.eq (by unfold aN;ac_rfl);unfold cC at h6;have n1:=h6.ne;have n2:=n1.symm;obtain⟨a0,a1,a2⟩:=h6.right.cells3;have al:=h6.right.lt;have f1:=h6.free 1;have f2:=h6.free 2;have f3:=h6.free 3;have f4:=h6.free 4;obtain⟨q1,q2,q3,q4,q5,q6,q7,q8,ql⟩:=aJ h5;go_region
     all_goals
      go_wp2_with fail
      go_meet
      case rel=>first|exact⟨(jg h5 a).drew,((((x5.set _ _).set _ _).set _ _).set _ _).drew⟩|exact⟨jg h5.drew a,(((x5.drew.set _ _).set _ _).set _ _).set _ _⟩
    case rest=>
     clear h5 x5;obtain⟨h6,x6⟩:=hcut;go_wp2_with fail
     refine(HAG.out _ _ (bx h6)).mono ?_;rintro e w7 ⟨rfl,h7,x7⟩;have hA:=h7.p2;have xA:=x6.trans x7;obtain⟨r0,r1,r2⟩:=hA.cells3;obtain⟨g0,g1,g2⟩:=hA.frees3;have rl:=hA.lt;clear h6 x6 h7 x7;go_wp2_with fail
     refine am (fun wz=>H wz (aa X1 #[d f 0,d f 0,d f 0] 34*(aQ q l (k.begin root a)*(aa X0 #[d f a.page,d f a.kind,G a.user] 41*(aa V #[d f an.fin,d f an.frame,d f an.rights] 34*R))))∧Z W wz) ⟨hA.set3 _ _ _,ah⟩ ?_;rintro wz ⟨hz,xz⟩;exact I (bg results66 rfl rfl rfl (bj hz)) rfl ⟨rfl,hz.right.p2.right.p2.right,xz⟩
theorem yp(q:Nat)(l:List Ln)(root:Int)(k:Ck)(a:Ac)(hl:Tl.Ok l)(hp:cW a.page)(R:ab)(W:T)(h:H W (aQ q l k*R)):
  ax prog 66 #[.pointer (z (D q 0 o)),d f root,.agg #[d f a.page,d f a.kind,G a.user]] W
   (cR (.tuple #[.agg #[d f (ce l root k a).an.fin,d f (ce l root k a).an.frame,d f (ce l root k a).an.rights],G (ce l root k a).fin,d f (ce l root k a).code]) (aQ q l (ce l root k a).c *R) W):=by
 by_cases ha:aq a=0
 ·cases hon:k.on with
  |true=>
   have e:ce l root k a=⟨An.zero,C,8,k⟩:=by unfold ce;rw[if_neg (by rw[ha];simp),if_pos hon]
   rw[e];exact pP q l root k a ha hon R W h
  |false=>
   have e:ce l root k a=match ja l a with|some r=>⟨r,u,0,k⟩|none=>⟨An.zero,C,0,k.begin root a⟩:=by unfold ce;rw[if_neg (by rw[ha];simp),if_neg (by rw[hon];simp)];rfl
   rcases Tl.idx_find l a.page with ⟨hf,hi⟩|⟨j,hj,hi,hf,_⟩
   ·have e2:ja l a=o:=by unfold ja;rw[hf]
    rw[e2] at e;rw[e];exact pQ q l root k a hl ha hp hon hi R W h
   ·cases hu:mV l[j] a with
    |true=>
     have e2:ja l a=z (bF l[j].m a):=by
      unfold ja;rw[hf];refine if_pos ?_;unfold mV at hu;simpa using hu
     rw[e2] at e;exact lK q l root k a hl ha hp hon j hj hi _ (F rfl) _ (F rfl) u (F hu.symm) _ (F e) R W h
    |false=>
     have e2:ja l a=o:=by
      unfold ja;rw[hf];refine if_neg fun h=> ?_;have:mV l[j] a=u:=by unfold mV;simpa using h
      rw[this] at hu;cases hu
     rw[e2] at e;exact lK q l root k a hl ha hp hon j hj hi _ (F rfl) _ (F rfl) C (F hu.symm) _ (F e) R W h
 ·have e:ce l root k a=⟨An.zero,C,aq a,k⟩:=by unfold ce;rw[if_pos ha]
  rw[e];exact qZ q l root k a ha R W h
end Go.Proofs.YtmfheghbgihdmaaGreat
