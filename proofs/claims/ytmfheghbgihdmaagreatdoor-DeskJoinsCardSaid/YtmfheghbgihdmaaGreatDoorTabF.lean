/- Contract of table.Find. -/
import Derived.Test.YtmfheghbgihdmaaGreatDoorTabI
import Derived.Test.YtmfheghbgihdmaaGreatDoorInsM2
import Derived.Test.YtmfheghbgihdmaaGreatDoorEntBits
import Derived.Shelf.Abstract
import Derived.Test.YtmfheghbgihdmaaGreatDoorPage
import Derived.Test.YtmfheghbgihdmaaGreatDoorSep
import Derived.Test.YtmfheghbgihdmaaGreatDoorTblM3
import Derived.Lib.Hide
import Derived.Lib.SliceRun
import Derived.Laws.OwnMore
import Derived.Outline
import Derived.BigQuiet
import Derived.Deep.LoopGhost
import Derived.Test.YtmfheghbgihdmaaGreatDoorWkr
namespace Go.Proofs.YtmfheghbgihdmaaGreatDoor
open Go.IntKind renaming u64→vU
open Go.Value renaming int→o,bool→H
open Go.IntKind renaming i64→q,wrap_i64→ad
open Bool renaming false→z,true→Y
open Go.Lib renaming hid→C
open Option renaming none→D,some→F
open Go.Addr renaming mk→J
open Go renaming bodyPost_ret→M,World→U,Calls→Z,Value→al,Addr→ap
open List renaming length_append→N,getElem?_eq_getElem→af,getElem?_eq_some_iff→ak
open Go.Proofs.YtmfheghbgihdmaaGreatDoor renaming Has→T,Ext→an
open Go.World renaming size_alloc→V
open Tryz
open Go.RowKit
set_option maxRecDepth 100000
set_option maxHeartbeats 1000000 in
theorem zc(f:Nat)(s:Ms)(root p:Int)(R:ab)(w:U)(hs:s.Ok)(h:T w (ae f s*R)):
  Z prog 121 #[.pointer (F (J f 0 D)),o q root,o q p] w (Pure (.tuple #[(bJ s root p).val,zX (jT s root p),o q (bm s root p)]) w):=by
 have h0:=((bc w).new #[o q 0,o q 0,o q 0,o q 0] 75).new #[H z,H z,o q 0,H z,H z,o q 0] 81;have x0:=((Ext.refl w).alloc (.cells #[o q 0,o q 0,o q 0,o q 0] 75)).alloc (.cells #[H z,H z,o q 0,H z,H z,o q 0] 81);simp only[V] at h0;have hq:=(h.alloc (.cells #[o q 0,o q 0,o q 0,o q 0] 75)).alloc (.cells #[H z,H z,o q 0,H z,H z,o q 0] 81);have W1:=C (vt f s root p R _ hs hq);have hfe:jT s root p=if bm s root p=0 then(bo s root p).e else En.zero:=rfl
 have hfm:bm s root p≠0→bJ s root p=Mp.zero:=fun hn=>by unfold bJ;rw[if_neg hn]
 unfold mP at W1;generalize bm s root p=fc at*
 generalize bJ s root p=fm at*
 generalize jT s root p=fe at*
 generalize bo s root p=y at*
 have HFE:=C hfe;have HFM:=C hfm;clear h hq hfe hfm;go_enter func121,ntmps121;go_wp2_with fail
 refine W1.out.mono ?_;rintro e w1 hF;generalize (w.alloc (.cells #[o q 0,o q 0,o q 0,o q 0] 75)).alloc (.cells #[H z,H z,o q 0,H z,H z,o q 0] 81)=w0 at*
 rcases hF with ⟨hfc,A,B,c,d,rfl,h1,x1⟩|⟨hfc,rfl,b1⟩
 ·have h2:=(h0.onto' (h1.a2)).a1
  have h3:T w1 (aa (w.heap.size+1) #[H z,H z,o q 0,H z,H z,o q 0] 81*(aa w.heap.size #[o q 0,o q 0,o q 0,o q 0] 75*cr w w.heap.size)):=h2.right.right;have x3:=x0.trans x1;have hfe:=HFE.out;rw[if_pos hfc] at hfe;subst hfc;clear h0 x0 h1 x1 W1 h2 HFE HFM;have h4:=(h3.new #[o q y.lev,H y.e.there,H y.e.leaf,o q y.e.rights,H y.e.used,H y.e.dirty,o q y.e.frame,.slice A y.tabs.length c,.slice B y.tabs.length d] 248).new #[o q fm.page,o q fm.size,o q fm.frame,o q fm.rights] 75;simp only[V] at h4;have x4:=(x3.alloc (.cells #[o q y.lev,H y.e.there,H y.e.leaf,o q y.e.rights,H y.e.used,H y.e.dirty,o q y.e.frame,.slice A y.tabs.length c,.slice B y.tabs.length d] 248)).alloc (.cells #[o q fm.page,o q fm.size,o q fm.frame,o q fm.rights] 75);have HFE:=C hfe;clear h3 x3 hfe;unfold rS;go_upto_region 2 with fail;generalize (w1.alloc (.cells #[o q y.lev,H y.e.there,H y.e.leaf,o q y.e.rights,H y.e.used,H y.e.dirty,o q y.e.frame,.slice A y.tabs.length c,.slice B y.tabs.length d] 248)).alloc (.cells #[o q fm.page,o q fm.size,o q fm.frame,o q fm.rights] 75)=w3 at*
  generalize w1.heap.size=X2 at*
  obtain⟨m0,m1,m2,m3⟩:=h4.cells4;have ml:=h4.lt;obtain⟨k0,k1,k2,k3,k4,k5,k6,k7,k8⟩:=h4.right.cells9;have kl:=h4.right.lt;obtain⟨d0,d1,d2,d3,d4,d5⟩:=h4.right.right.cells6;obtain⟨f0,f1,f2,f3,f4,f5⟩:=h4.right.right.frees6;have dl:=h4.right.right.lt;obtain⟨c0,c1,c2,c3⟩:=h4.r3.cells4;obtain⟨g0,g1,g2,g3⟩:=h4.r3.frees4;have cl:=h4.r3.lt;have h6:T w3 (aa w.heap.size #[o q 0,o q 0,o q 0,o q 0] 75*(aa (w.heap.size+1) #[H z,H z,o q 0,H z,H z,o q 0] 81*(aa (X2+1) #[o q fm.page,o q fm.size,o q fm.frame,o q fm.rights] 75*(aa X2 #[o q y.lev,H y.e.there,H y.e.leaf,o q y.e.rights,H y.e.used,H y.e.dirty,o q y.e.frame,.slice A y.tabs.length c,.slice B y.tabs.length d] 248*cr w w.heap.size)))):=h4.eq (by ac_rfl);have a1:=h6.ne;have a2:=h6.p2.right.ne;have a3:=(h6.eq (show _=aa w.heap.size #[o q 0,o q 0,o q 0,o q 0] 75*(aa X2 #[o q y.lev,H y.e.there,H y.e.leaf,o q y.e.rights,H y.e.used,H y.e.dirty,o q y.e.frame,.slice A y.tabs.length c,.slice B y.tabs.length d] 248*(aa (w.heap.size+1) #[H z,H z,o q 0,H z,H z,o q 0] 81*(aa (X2+1) #[o q fm.page,o q fm.size,o q fm.frame,o q fm.rights] 75*cr w w.heap.size))) by ac_rfl)).ne;have a4:=h6.right.ne;have a5:=h6.right.p2.right.ne;have b1':=a1.symm;have b2':=a2.symm;have b3':=a3.symm;have b4':=a4.symm;have b5':=a5.symm;have h7:=(h6.set4 (o q fm.page) (o q fm.size) (o q fm.frame) (o q fm.rights)).p2.set6 (H y.e.there) (H y.e.leaf) (o q y.e.rights) (H y.e.used) (H y.e.dirty) (o q y.e.frame);have h8:=(h6.p2.set6 (H y.e.there) (H y.e.leaf) (o q y.e.rights) (H y.e.used) (H y.e.dirty) (o q y.e.frame)).p2.set4 (o q fm.page) (o q fm.size) (o q fm.frame) (o q fm.rights);have h7d:=(h6.drew.set4 (o q fm.page) (o q fm.size) (o q fm.frame) (o q fm.rights)).p2.set6 (H y.e.there) (H y.e.leaf) (o q y.e.rights) (H y.e.used) (H y.e.dirty) (o q y.e.frame);have h8d:=(h6.drew.p2.set6 (H y.e.there) (H y.e.leaf) (o q y.e.rights) (H y.e.used) (H y.e.dirty) (o q y.e.frame)).p2.set4 (o q fm.page) (o q fm.size) (o q fm.frame) (o q fm.rights);go_upto_region 4 with fail;go_region
  all_goals
   go_wp2_with fail
   refine ay (fun wz=>T wz (aa (w.heap.size+1) #[H y.e.there,H y.e.leaf,o q y.e.rights,H y.e.used,H y.e.dirty,o q y.e.frame] 81*(aa w.heap.size #[o q fm.page,o q fm.size,o q fm.frame,o q fm.rights] 75*cr w w.heap.size))∧an w wz) ⟨by first|with_reducible exact h7.drop3.drop3|with_reducible exact h7.drew.drop3.drop3|with_reducible exact h8.p2.drop3.drop3|with_reducible exact h8.drew.p2.drop3.drop3|with_reducible exact h7d.drop3.drop3|with_reducible exact h8d.p2.drop3.drop3,aj⟩ ?_;rintro wz ⟨hz,xz⟩;exact M (eT results121 rfl rfl rfl (br hz.right) (co hz)) rfl ⟨by rw[HFE.out];rfl,aA hz.right.right xz⟩
 ·have h3:T w1 (aa (w.heap.size+1) #[H z,H z,o q 0,H z,H z,o q 0] 81*(aa w.heap.size #[o q 0,o q 0,o q 0,o q 0] 75*cr w w.heap.size)):=h0.below b1
  have x3:=x0.below b1;have hfe:=HFE.out;rw[if_neg hfc] at hfe;have hfm:=HFM.out hfc;have hn:(fc !=0)=Y:=by simpa using hfc
  clear h0 x0 b1 W1 HFE HFM hfc;have h4:=(h3.new #[o q 0,H z,H z,o q 0,H z,H z,o q 0,.slice D 0 0,.slice D 0 0] 248).new #[o q 0,o q 0,o q 0,o q 0] 75;simp only[V] at h4;have x4:=(x3.alloc (.cells #[o q 0,H z,H z,o q 0,H z,H z,o q 0,.slice D 0 0,.slice D 0 0] 248)).alloc (.cells #[o q 0,o q 0,o q 0,o q 0] 75);have HFE:=C (And.intro hfe hfm);clear h3 x3 hfe hfm;unfold rR;go_upto_region 2 with fail;generalize (w1.alloc (.cells #[o q 0,H z,H z,o q 0,H z,H z,o q 0,.slice D 0 0,.slice D 0 0] 248)).alloc (.cells #[o q 0,o q 0,o q 0,o q 0] 75)=w3 at*
  generalize w1.heap.size=X2 at*
  obtain⟨m0,m1,m2,m3⟩:=h4.cells4;have ml:=h4.lt;obtain⟨k0,k1,k2,k3,k4,k5,k6,k7,k8⟩:=h4.right.cells9;have kl:=h4.right.lt;obtain⟨d0,d1,d2,d3,d4,d5⟩:=h4.right.right.cells6;obtain⟨f0,f1,f2,f3,f4,f5⟩:=h4.right.right.frees6;have dl:=h4.right.right.lt;obtain⟨c0,c1,c2,c3⟩:=h4.r3.cells4;obtain⟨g0,g1,g2,g3⟩:=h4.r3.frees4;have cl:=h4.r3.lt;have h6:T w3 (aa w.heap.size #[o q 0,o q 0,o q 0,o q 0] 75*(aa (w.heap.size+1) #[H z,H z,o q 0,H z,H z,o q 0] 81*(aa (X2+1) #[o q 0,o q 0,o q 0,o q 0] 75*(aa X2 #[o q 0,H z,H z,o q 0,H z,H z,o q 0,.slice D 0 0,.slice D 0 0] 248*cr w w.heap.size)))):=h4.eq (by ac_rfl);have a1:=h6.ne;have a2:=h6.p2.right.ne;have a3:=(h6.eq (show _=aa w.heap.size #[o q 0,o q 0,o q 0,o q 0] 75*(aa X2 #[o q 0,H z,H z,o q 0,H z,H z,o q 0,.slice D 0 0,.slice D 0 0] 248*(aa (w.heap.size+1) #[H z,H z,o q 0,H z,H z,o q 0] 81*(aa (X2+1) #[o q 0,o q 0,o q 0,o q 0] 75*cr w w.heap.size))) by ac_rfl)).ne;have a4:=h6.right.ne;have a5:=h6.right.p2.right.ne;have b1':=a1.symm;have b2':=a2.symm;have b3':=a3.symm;have b4':=a4.symm;have b5':=a5.symm;have h7:=(h6.set4 (o q 0) (o q 0) (o q 0) (o q 0)).p2.set6 (H z) (H z) (o q 0) (H z) (H z) (o q 0);go_wp2_with fail
  refine ay (fun wz=>T wz (aa (w.heap.size+1) #[H z,H z,o q 0,H z,H z,o q 0] 81*(aa w.heap.size #[o q 0,o q 0,o q 0,o q 0] 75*cr w w.heap.size))∧an w wz) ⟨h7.drop3.drop3,aj⟩ ?_;rintro wz ⟨hz,xz⟩;exact M (eT results121 rfl rfl rfl (br hz.right) (co hz)) rfl ⟨by rw[HFE.out.1,HFE.out.2];rfl,aA hz.right.right xz⟩
def rO(f:Nat)(s:Ms)(r p:Int)(R:ab)(w:U)(e:Ending)(w':U):Prop:=
 ∃A n c,cF (.tuple #[(bJ s r p).val,.slice A n c,o q (bm s r p)]) (aq (.slice A n c) (gR s r p)*(ae f (dn s r p)*R)) w e w'
set_option maxHeartbeats 8000000 in
theorem AV(f:Nat)(s:Ms)(root p:Int)(R:ab)(w:U)(hs:s.Ok)(h:T w (ae f s*R)):
  Z prog 176 #[.pointer (F (J f 0 D)),o q root,o q p] w (rO f s root p R w):=by
 have h0:=h.new #[o q 0,o q 0,o q 0,o q 0] 75;have x0:=(Ext.refl w).alloc (.cells #[o q 0,o q 0,o q 0,o q 0] 75);have W1:=C (vt f s root p _ _ hs h0.p2);unfold mP at W1;unfold rO;by_cases hfc:bm s root p=0
 ·have hcode:(bo s root p).code =0:=by
   unfold bm at hfc;split at hfc
   ·rename_i hn;exact absurd hfc hn
   ·rename_i hn;simpa using hn
  obtain⟨hp,n,hn,hn3,hl,hu⟩:=gE hcode;have hRS:dn s root p=(j4 p (bo s root p).tabs n (s.setW ((bo s root p).tabs.getD n 0).toNat (ai p (3 - n:Nat)).toNat 0)).1:=by
   unfold dn;rw[if_pos hfc,hn,Nat.add_sub_cancel,qY]
  have hRG:gR s root p=(j4 p (bo s root p).tabs n (s.setW ((bo s root p).tabs.getD n 0).toNat (ai p (3 - n:Nat)).toNat 0)).2:=by
   unfold gR;rw[if_pos hfc,hn,Nat.add_sub_cancel,qY]
  rw[hfc] at W1⊢;have hHas:∀k,(hk:k< (bo s root p).tabs.length)→s.has ((bo s root p).tabs.getD k 0)=Y:=fun k hk=>by
   rw[List.getD_eq_getElem?_getD,af hk];exact hu _ (List.getElem_mem hk)
  have hTk:∀k,k< (bo s root p).tabs.length →(bo s root p).tabs[k]? =F ((bo s root p).tabs.getD k 0):=fun k hk=>by
   rw[List.getD_eq_getElem?_getD,af hk];rfl
  have hPk:∀k,k<n+1→(aB p (bo s root p).tabs.length)[k]? =F (ai p (3 - k:Nat)):=fun k hk=>by
   rw[iL p (by omega)];congr 2
   omega
  have hSt:∀(σ:Ms),(∀u,σ.has u=s.has u)→∀k,k<n+1→∀R w,T w (ae f σ*R)→Z prog 211 #[.pointer (F (J f 0 D)),o q ((bo s root p).tabs.getD k 0),o q (ai p (3 - k:Nat)),o vU 0] w (cF (H Y) (ae f (σ.setW ((bo s root p).tabs.getD k 0).toNat (ai p (3 - k:Nat)).toNat 0)*R) w):=fun σ hσ k hk R w h=>by
   have hw:σ.hasW ((bo s root p).tabs.getD k 0) (ai p (3 - k:Nat))=Y:=by
    rw[dJ hp (by omega) (by omega),hσ];exact hHas k (by omega)
   have:=q7 f σ ((bo s root p).tabs.getD k 0) (ai p (3 - k:Nat)) 0 R w h;unfold eL at this;rw[if_pos hw,hw] at this;exact this
  have hEm:∀(σ:Ms),(∀u,σ.has u=s.has u)→∀k,k<n+1→∀R w,T w (ae f σ*R)→Z prog 212 #[.pointer (F (J f 0 D)),o q ((bo s root p).tabs.getD k 0)] w (Same (H (i7 σ ((bo s root p).tabs.getD k 0))) w):=fun σ hσ k hk R w h=>by
   have:=yR f ((bo s root p).tabs.getD k 0) σ R w h;rw[sS (by rw[hσ];exact hHas k (by omega))] at this;exact this
  have HST:=C hSt;have HEM:=C hEm;have HTK:=C hTk;have HPK:=C hPk;have HRS:=C hRS;have HRG:=C hRG;clear hSt hEm hTk hPk hRS hRG hHas hu hl hcode h hfc;generalize dn s root p=rs at*
  generalize gR s root p=rg at*
  generalize bJ s root p=fm at*
  generalize bo s root p=y at*
  generalize aB p y.tabs.length=pls at*
  generalize hix:(fun k:Nat=>ai p (3 - k:Nat))=ixs;have HIX:=C hix;clear hix;have HN:=C hn;clear hn;go_enter func176,ntmps176;go_wp2_with fail
  refine W1.out.mono ?_;rintro e w1 hF;rcases hF with ⟨_,A,B,c,d,rfl,h1,x1⟩|⟨hfc,_⟩
  ·have h2:=(h0.onto' (h1.a2)).a1
   have x2:=x0.trans x1;clear h0 x0 h1 x1 W1;have h4:=(h2.new #[o q y.lev,H y.e.there,H y.e.leaf,o q y.e.rights,H y.e.used,H y.e.dirty,o q y.e.frame,.slice A y.tabs.length c,.slice B y.tabs.length d] 248).new #[o q fm.page,o q fm.size,o q fm.frame,o q fm.rights] 75;simp only[V] at h4;have x4:=(x2.alloc (.cells #[o q y.lev,H y.e.there,H y.e.leaf,o q y.e.rights,H y.e.used,H y.e.dirty,o q y.e.frame,.slice A y.tabs.length c,.slice B y.tabs.length d] 248)).alloc (.cells #[o q fm.page,o q fm.size,o q fm.frame,o q fm.rights] 75);clear h2 x2;unfold rS;go_upto_region 4 with fail;generalize (w1.alloc (.cells #[o q y.lev,H y.e.there,H y.e.leaf,o q y.e.rights,H y.e.used,H y.e.dirty,o q y.e.frame,.slice A y.tabs.length c,.slice B y.tabs.length d] 248)).alloc (.cells #[o q fm.page,o q fm.size,o q fm.frame,o q fm.rights] 75)=w3 at*
   generalize w1.heap.size=X2 at*
   generalize w.heap.size=X0 at*
   have hNo:=HN.out;obtain⟨bA,hA1,-,-⟩:=fg (h4.right.right) (k:=n) (by omega);have hpll:pls.length=y.tabs.length:=(fh h4.r3).symm;obtain⟨bB,hB1,-,-⟩:=fg (h4.r3) (k:=n) (by omega);subst hA1;subst hB1;have hlen1:((y.tabs.length:Nat):Int) - 1=(n:Int):=by omega
   have h6:T w3 (ae f s*(aa (X2+1) #[o q fm.page,o q fm.size,o q fm.frame,o q fm.rights] 75*(aa X2 #[o q y.lev,H y.e.there,H y.e.leaf,o q y.e.rights,H y.e.used,H y.e.dirty,o q y.e.frame,.slice (F (J bA 0 D)) y.tabs.length c,.slice (F (J bB 0 D)) y.tabs.length d] 248*(aq (.slice (F (J bA 0 D)) y.tabs.length c) y.tabs*(aq (.slice (F (J bB 0 D)) y.tabs.length d) pls*(aa X0 #[o q 0,o q 0,o q 0,o q 0] 75*R)))))):=h4.eq (by ac_rfl);have HK:=C (fun(k:Nat) (hk:k<n+1) (w':U) (P Q:ab) (h:T w' (P*(Q*(aa X2 #[o q y.lev,H y.e.there,H y.e.leaf,o q y.e.rights,H y.e.used,H y.e.dirty,o q y.e.frame,.slice (F (J bA 0 D)) y.tabs.length c,.slice (F (J bB 0 D)) y.tabs.length d] 248*(aq (.slice (F (J bA 0 D)) y.tabs.length c) y.tabs*(aq (.slice (F (J bB 0 D)) y.tabs.length d) pls*(aa X0 #[o q 0,o q 0,o q 0,o q 0] 75*R)))))))=>(by
    have hno:=HN.out;obtain⟨b1,e1,l1,q1⟩:=fg (h.r3) (k:=k) (by omega);have hpl2:pls.length=y.tabs.length:=(fh h.right.r3).symm;obtain⟨b2,e2,l2,q2⟩:=fg (h.right.r3) (k:=k) (by omega);injection e1 with e1;injection e1 with e1
    injection e2 with e2;injection e2 with e2
    subst e1;subst e2;rw[(ak.1 (HTK.out k (by omega))).2] at q1;rw[(ak.1 (HPK.out k hk)).2] at q2;exact⟨h.right.right.cell 7,h.right.right.cell 8,q1,q2,h.right.right.lt,l1,l2⟩:w'.cell? (J X2 7 D)=F (.slice (F (J bA 0 D)) y.tabs.length c)∧w'.cell? (J X2 8 D)=F (.slice (F (J bB 0 D)) y.tabs.length d)∧w'.cell? (J bA k D)=F (o q (y.tabs.getD k 0))∧w'.cell? (J bB k D)=F (o q (ai p (3 - k:Nat)))∧X2<w'.heap.size∧bA<w'.heap.size∧bB<w'.heap.size))
   obtain⟨k7,k8,_,_,kl,_,_⟩:=HK.out n (by omega) _ _ _ h6;have HLN:=C hlen1;clear hNo hpll hlen1 h4;go_upto_region 5 with fail;go_cut [13] from 26 to 30 (fun s13 wx=>s13=o q n∧wx=w3)
   case first=>
    have hlen1:=HLN.out;go_wp2_with fail
    go_meet
    case rel=>exact⟨by first|rfl|(rw[←hlen1];done)|(rw[←hlen1];go_num),rfl⟩
   case rest=>
   obtain⟨rfl,hwr⟩:=hcut;replace hwr:=hwr.symm;subst hwr;clear k7 k8 kl;obtain⟨k7,k8,kA,kB,kl,lA,lB⟩:=HK.out n (by omega) _ _ _ h6;have hni:(n:Int)<y.tabs.length:=by have:=HN.out;omega
   have hn0:¬((n:Int)<0):=by omega
   have hS1:=C (HST.out s (fun _=>rfl) n (by omega));have HKn:=C (HK.out n (by omega));have HRS':=C HRS.out;have HRG':=C HRG.out;have hhas:∀u,(s.setW (y.tabs.getD n 0).toNat (ai p (3 - n:Nat)).toNat 0).has u=s.has u:=fun u=>rfl;have HHA:=C hhas;clear HRS HRG hhas;generalize s.setW (y.tabs.getD n 0).toNat (ai p (3 - n:Nat)).toNat 0=s1 at*
   generalize y.tabs.getD n 0=t at kA hS1 HKn;generalize ai p (3 - n:Nat)=ix at kB hS1 HKn;have h7:=h6.drew;have x7:=x4.drew;go_upto_region 6 with fail;go_region_held3 (fun w'=>w'.cell? (J X2 7 D)=F (.slice (F (J bA 0 D)) y.tabs.length c)∧w'.cell? (J X2 8 D)=F (.slice (F (J bB 0 D)) y.tabs.length d)∧w'.cell? (J bA n D)=F (o q t)∧w'.cell? (J bB n D)=F (o q ix)) (first|(with_reducible exact⟨(HKn.out _ _ _ h7).1,(HKn.out _ _ _ h7).2.1,(HKn.out _ _ _ h7).2.2.1,(HKn.out _ _ _ h7).2.2.2.1⟩)|(with_reducible exact⟨(HKn.out _ _ _ h8).1,(HKn.out _ _ _ h8).2.1,(HKn.out _ _ _ h8).2.2.1,(HKn.out _ _ _ h8).2.2.2.1⟩)|go_keep) (first|(go_at_call 211;(with_reducible refine(hS1.out _ _ h7).mono ?_);rintro e w8 ⟨rfl,h8,x8⟩))
   have x9:=x7.trans x8;have h9:T w8 (aq (.slice D 0 0) []*(ae f s1*(aa (X2+1) #[o q fm.page,o q fm.size,o q fm.frame,o q fm.rights] 75*(aa X2 #[o q y.lev,H y.e.there,H y.e.leaf,o q y.e.rights,H y.e.used,H y.e.dirty,o q y.e.frame,.slice (F (J bA 0 D)) y.tabs.length c,.slice (F (J bB 0 D)) y.tabs.length d] 248*(aq (.slice (F (J bA 0 D)) y.tabs.length c) y.tabs*(aq (.slice (F (J bB 0 D)) y.tabs.length d) pls*(aa X0 #[o q 0,o q 0,o q 0,o q 0] 75*R))))))):=Has.rowNil h8;clear h6 x4 h7 x7 h8 x8 hS1 HKn k7 k8 kA kB kl lA lB hni hn0;go_wp2_with fail
   go_loopw [12,13] (fun t12 t13 wr=>∃(k:Nat) (σ:Ms) (g:List Int) (G:Option ap) (gc:Nat),k<n+1∧t13=o q k∧t12= .slice G g.length gc∧Hid (∀u,σ.has u=s.has u)∧Hid (rs=(j4 p y.tabs k σ).1∧rg=g++(j4 p y.tabs k σ).2)∧g.length+k≤n∧T wr (aq (.slice G g.length gc) g*(ae f σ*(aa (X2+1) #[o q fm.page,o q fm.size,o q fm.frame,o q fm.rights] 75*(aa X2 #[o q y.lev,H y.e.there,H y.e.leaf,o q y.e.rights,H y.e.used,H y.e.dirty,o q y.e.frame,.slice (F (J bA 0 D)) y.tabs.length c,.slice (F (J bB 0 D)) y.tabs.length d] 248*(aq (.slice (F (J bA 0 D)) y.tabs.length c) y.tabs*(aq (.slice (F (J bB 0 D)) y.tabs.length d) pls*(aa X0 #[o q 0,o q 0,o q 0,o q 0] 75*R)))))))∧an w wr) (fun _ t13 _=>(intOf t13).toNat)
   case atStart=>exact⟨n,s1,[],D,0,by omega,rfl,rfl,HHA,C ⟨HRS'.out,by rw[List.nil_append];exact HRG'.out⟩,by simp,h9,x9⟩
   case round=>
    clear h9 x9 HRS' HRG' HHA;obtain⟨k,σ,g,G,gc,hk,rfl,rfl,HHS,HCU,hgl,hr,hx⟩:=hrel;have hEk:=C (HEM.out σ HHS.out k hk);obtain⟨k7,k8,kA,kB,kl,lA,lB⟩:=HK.out k hk _ _ _ hr.right;have hki:(k:Int)<y.tabs.length:=by have:=HN.out;omega
    have hkn:¬((k:Int)<0):=by omega
    have hz:T _ (aa X0 #[o q 0,o q 0,o q 0,o q 0] 75*(aq (.slice G g.length gc) g*(ae f σ*(aa (X2+1) #[o q fm.page,o q fm.size,o q fm.frame,o q fm.rights] 75*(aa X2 #[o q y.lev,H y.e.there,H y.e.leaf,o q y.e.rights,H y.e.used,H y.e.dirty,o q y.e.frame,.slice (F (J bA 0 D)) y.tabs.length c,.slice (F (J bB 0 D)) y.tabs.length d] 248*(aq (.slice (F (J bA 0 D)) y.tabs.length c) y.tabs*(aq (.slice (F (J bB 0 D)) y.tabs.length d) pls*R))))))):=hr.eq (by ac_rfl);obtain⟨r0,r1,r2,r3⟩:=hz.cells4;obtain⟨q0,q1,q2,q3⟩:=hz.frees4;have rl:=hz.lt;obtain⟨m0,m1,m2,m3⟩:=hr.right.right.cells4;have ml:=hr.right.right.lt;by_cases hk0:k=0
    ·have hcut:=rL p y.tabs (k:=k) (s:=σ) (.inl hk0)
     subst hk0;have HF:=C (show rs=σ∧rg=g by have:=HCU.out;rw[hcut] at this;exact⟨this.1,by rw[this.2];simp⟩);clear hcut HCU hEk;go_wp2_with fail
     refine ay (fun wz=>T wz (aa X0 #[o q fm.page,o q fm.size,o q fm.frame,o q fm.rights] 75*(aq (.slice G g.length gc) g*(ae f σ*(aa (X2+1) #[o q fm.page,o q fm.size,o q fm.frame,o q fm.rights] 75*(aa X2 #[o q y.lev,H y.e.there,H y.e.leaf,o q y.e.rights,H y.e.used,H y.e.dirty,o q y.e.frame,.slice (F (J bA 0 D)) y.tabs.length c,.slice (F (J bB 0 D)) y.tabs.length d] 248*(aq (.slice (F (J bA 0 D)) y.tabs.length c) y.tabs*(aq (.slice (F (J bB 0 D)) y.tabs.length d) pls*R)))))))∧an w wz) ⟨hz.set4 _ _ _ _,aj⟩ ?_;rintro wz ⟨hw,xw⟩;have hw2:T wz (aq (.slice (F (J bB 0 D)) y.tabs.length d) pls*(aq (.slice (F (J bA 0 D)) y.tabs.length c) y.tabs*(aa X2 #[o q y.lev,H y.e.there,H y.e.leaf,o q y.e.rights,H y.e.used,H y.e.dirty,o q y.e.frame,.slice (F (J bA 0 D)) y.tabs.length c,.slice (F (J bB 0 D)) y.tabs.length d] 248*(aa (X2+1) #[o q fm.page,o q fm.size,o q fm.frame,o q fm.rights] 75*(aa X0 #[o q fm.page,o q fm.size,o q fm.frame,o q fm.rights] 75*(aq (.slice G g.length gc) g*(ae f σ*R))))))):=hw.eq (by ac_rfl);exact M (cP results176 rfl rfl rfl (br hw)) rfl ⟨G,g.length,gc,rfl,by rw[HF.out.1,HF.out.2];exact hw2.right.right.r3,xw⟩
    ·obtain⟨j,hj⟩:∃j,k=j+1:=⟨k - 1,by omega⟩
     have hk0':(0:Int)< (k:Int):=by omega
     have hji:(k:Int) - 1=(j:Int):=by omega
     have HJ:=C hj;have hjn:j<n+1:=by omega
     clear hj;cases hez:i7 σ (y.tabs.getD k 0) with
     |false=>
      have hcut:=rL p y.tabs (k:=k) (s:=σ) (.inr hez);have HF:=C (show rs=σ∧rg=g by have:=HCU.out;rw[hcut] at this;exact⟨this.1,by rw[this.2];simp⟩);rw[hez] at hEk;clear hcut HCU hez;generalize y.tabs.getD k 0=t at kA hEk;go_wp2_with fail
      refine(hEk.out _ _ hr.right).mono ?_;rintro e w2 ⟨rfl,rfl⟩;go_wp2_with fail
      refine ay (fun wz=>T wz (aa X0 #[o q fm.page,o q fm.size,o q fm.frame,o q fm.rights] 75*(aq (.slice G g.length gc) g*(ae f σ*(aa (X2+1) #[o q fm.page,o q fm.size,o q fm.frame,o q fm.rights] 75*(aa X2 #[o q y.lev,H y.e.there,H y.e.leaf,o q y.e.rights,H y.e.used,H y.e.dirty,o q y.e.frame,.slice (F (J bA 0 D)) y.tabs.length c,.slice (F (J bB 0 D)) y.tabs.length d] 248*(aq (.slice (F (J bA 0 D)) y.tabs.length c) y.tabs*(aq (.slice (F (J bB 0 D)) y.tabs.length d) pls*R)))))))∧an w wz) ⟨hz.set4 _ _ _ _,aj⟩ ?_;rintro wz ⟨hw,xw⟩;have hw2:T wz (aq (.slice (F (J bB 0 D)) y.tabs.length d) pls*(aq (.slice (F (J bA 0 D)) y.tabs.length c) y.tabs*(aa X2 #[o q y.lev,H y.e.there,H y.e.leaf,o q y.e.rights,H y.e.used,H y.e.dirty,o q y.e.frame,.slice (F (J bA 0 D)) y.tabs.length c,.slice (F (J bB 0 D)) y.tabs.length d] 248*(aa (X2+1) #[o q fm.page,o q fm.size,o q fm.frame,o q fm.rights] 75*(aa X0 #[o q fm.page,o q fm.size,o q fm.frame,o q fm.rights] 75*(aq (.slice G g.length gc) g*(ae f σ*R))))))):=hw.eq (by ac_rfl);exact M (cP results176 rfl rfl rfl (br hw)) rfl ⟨G,g.length,gc,rfl,by rw[HF.out.1,HF.out.2];exact hw2.right.right.r3,xw⟩
     |true=>
      have hcut:=uJ p y.tabs (k:=k) (j:=j) (s:=σ) HJ.out hez;rw[hez] at hEk;have HCU':=C (show rs=(j4 p y.tabs j (σ.setW (y.tabs.getD j 0).toNat (ai p (3 - j:Nat)).toNat 0)).1∧rg=(g++[y.tabs.getD k 0])++(j4 p y.tabs j (σ.setW (y.tabs.getD j 0).toNat (ai p (3 - j:Nat)).toNat 0)).2 by
       have:=HCU.out;rw[hcut] at this;exact⟨this.1,by rw[this.2];simp⟩)
      have hSj:=C (HST.out σ HHS.out j hjn);have HKj:=C (HK.out j hjn);have HKk:=C (HK.out k hk);have HHS':=C (show∀u,(σ.setW (y.tabs.getD j 0).toNat (ai p (3 - j:Nat)).toNat 0).has u=s.has u from HHS.out);clear hcut HCU hez HHS;generalize σ.setW (y.tabs.getD j 0).toNat (ai p (3 - j:Nat)).toNat 0=σ' at*
      obtain⟨j7,j8,jA,jB,_,_,_⟩:=HKj.out _ _ _ hr.right;generalize y.tabs.getD k 0=t at kA hEk HCU' HKk;generalize y.tabs.getD j 0=tj at jA hSj HKj;generalize ai p (3 - j:Nat)=ij at jB hSj HKj;generalize ai p (3 - k:Nat)=ik at kB HKk;have hjl:(j:Int)<y.tabs.length:=by have:=HN.out;omega
      have hj0:¬((j:Int)<0):=by omega
      have hj00:(0:Int)≤(j:Int):=by omega
      have hj3:j≤3:=by omega
      have hwj:IntKind.i64.wrap (j:Int)=(j:Int):=by rw[ad];omega
      have hwk:IntKind.i64.wrap ((k:Int) - 1)=(j:Int):=by rw[hji];exact hwj
      go_wp2_with fail
      refine(hEk.out _ _ hr.right).mono ?_;rintro e w2 ⟨rfl,rfl⟩;have h7:T _ (ae f σ*((aq (.slice G g.length gc) g*aa (X2+1) #[o q fm.page,o q fm.size,o q fm.frame,o q fm.rights] 75)*(aa X2 #[o q y.lev,H y.e.there,H y.e.leaf,o q y.e.rights,H y.e.used,H y.e.dirty,o q y.e.frame,.slice (F (J bA 0 D)) y.tabs.length c,.slice (F (J bB 0 D)) y.tabs.length d] 248*(aq (.slice (F (J bA 0 D)) y.tabs.length c) y.tabs*(aq (.slice (F (J bB 0 D)) y.tabs.length d) pls*(aa X0 #[o q 0,o q 0,o q 0,o q 0] 75*R)))))):=(hr.eq (by ac_rfl)).drew;have x7:=hx.drew;go_upto_region 9 with fail;go_region_held3 (fun w'=>w'.cell? (J X2 7 D)=F (.slice (F (J bA 0 D)) y.tabs.length c)∧w'.cell? (J X2 8 D)=F (.slice (F (J bB 0 D)) y.tabs.length d)∧w'.cell? (J bA j D)=F (o q tj)∧w'.cell? (J bB j D)=F (o q ij)) (first|(with_reducible exact⟨(HKj.out _ _ _ h7).1,(HKj.out _ _ _ h7).2.1,(HKj.out _ _ _ h7).2.2.1,(HKj.out _ _ _ h7).2.2.2.1⟩)|(with_reducible exact⟨(HKj.out _ _ _ h8).1,(HKj.out _ _ _ h8).2.1,(HKj.out _ _ _ h8).2.2.1,(HKj.out _ _ _ h8).2.2.2.1⟩)|go_keep) (first|(go_at_call 211;(with_reducible refine(hSj.out _ _ h7).mono ?_);rintro e w8 ⟨rfl,h8,x8⟩))
      have x9:=x7.trans x8;have h9:T w8 (bt 3 1 (.slice G g.length gc) g.length (g.map (o q))*(ae f σ'*(aa (X2+1) #[o q fm.page,o q fm.size,o q fm.frame,o q fm.rights] 75*(aa X2 #[o q y.lev,H y.e.there,H y.e.leaf,o q y.e.rights,H y.e.used,H y.e.dirty,o q y.e.frame,.slice (F (J bA 0 D)) y.tabs.length c,.slice (F (J bB 0 D)) y.tabs.length d] 248*(aq (.slice (F (J bA 0 D)) y.tabs.length c) y.tabs*(aq (.slice (F (J bB 0 D)) y.tabs.length d) pls*(aa X0 #[o q 0,o q 0,o q 0,o q 0] 75*R))))))):=h8.eq (by unfold aq;ac_rfl);obtain⟨k7',k8',kA',kB',kl',lA',lB'⟩:=HKk.out _ _ _ h8;clear hr hx hz r0 r1 r2 r3 q0 q1 q2 q3 rl m0 m1 m2 m3 ml k7 k8 kA kB kl lA lB j7 j8 jA jB h7 x7 h8 x8 hEk hSj;have hrow:=h9.alloc (.cells #[o q t] 3);go_wp2_with(first|(at_builtin;refine a8 rfl _ _ 55 rfl underlying55 gK _ _ _ rfl hrow (J w8.heap.size 0 D) 1 1 [o q t] rfl rfl (fj w8 (o q t) 3) ?c1 ?c2 ?c3 ?_))
      case c1=>intro u hu;simp at hu;subst hu;rfl
      case c2=>unfold maxLen;omega
      case c3=>omega
      intro v' w10 h10 x10;obtain⟨G',gc',rfl⟩:=h10.rowForm;go_wp2_with fail
      go_roundw
      case rel=>exact⟨j,σ',g++[t],G',gc',hjn,by go_num,by simp,HHS',HCU',by simp;have:=HJ.out;omega,by unfold aq;simp only[N,List.length_singleton,List.map_append,List.map_cons,List.map_nil];exact h10,(x9.alloc _).trans x10⟩
      case measure=>have:=HJ.out;simp[intOf];omega
  ·exact absurd rfl hfc
 ·have hrs:dn s root p=s:=by unfold dn;rw[if_neg hfc]
  have hrg:gR s root p=[]:=by unfold gR;rw[if_neg hfc]
  have hm:bJ s root p=Mp.zero:=by unfold bJ;rw[if_neg hfc]
  have hn:(bm s root p !=0)=Y:=by simpa using hfc
  have HF:=C (And.intro hrs (And.intro hrg hm));generalize bm s root p=fc at*
  generalize dn s root p=rs at*
  generalize gR s root p=rg at*
  generalize bJ s root p=fm at*
  clear hrs hrg hm h;go_enter func176,ntmps176;go_wp2_with fail
  refine W1.out.mono ?_;rintro e w1 hF;rcases hF with ⟨h0',_⟩|⟨_,rfl,b1⟩
  ·exact absurd h0' hfc
  ·have h1:=h0.below b1
   have x1:=x0.below b1;clear h0 x0 b1 W1 hfc;have h4:T _ (aa w.heap.size #[o q 0,o q 0,o q 0,o q 0] 75*(ae f s*(aa (w1.heap.size+1) #[o q 0,o q 0,o q 0,o q 0] 75*(aa w1.heap.size #[o q 0,H z,H z,o q 0,H z,H z,o q 0,.slice D 0 0,.slice D 0 0] 248*R)))):=((h1.new #[o q 0,H z,H z,o q 0,H z,H z,o q 0,.slice D 0 0,.slice D 0 0] 248).new #[o q 0,o q 0,o q 0,o q 0] 75).eq (by simp only[V];ac_rfl);have x4:=(x1.alloc (.cells #[o q 0,H z,H z,o q 0,H z,H z,o q 0,.slice D 0 0,.slice D 0 0] 248)).alloc (.cells #[o q 0,o q 0,o q 0,o q 0] 75);clear h1 x1;unfold rR;go_upto_region 2 with fail;generalize (w1.alloc (.cells #[o q 0,H z,H z,o q 0,H z,H z,o q 0,.slice D 0 0,.slice D 0 0] 248)).alloc (.cells #[o q 0,o q 0,o q 0,o q 0] 75)=w3 at*
   generalize w1.heap.size=X2 at*
   generalize w.heap.size=X0 at*
   obtain⟨r0,r1,r2,r3⟩:=h4.cells4;obtain⟨q0,q1,q2,q3⟩:=h4.frees4;have rl:=h4.lt;go_wp2_with fail
   refine ay (fun wz=>T wz (aa X0 #[o q 0,o q 0,o q 0,o q 0] 75*(ae f s*(aa (X2+1) #[o q 0,o q 0,o q 0,o q 0] 75*(aa X2 #[o q 0,H z,H z,o q 0,H z,H z,o q 0,.slice D 0 0,.slice D 0 0] 248*R))))∧an w wz) ⟨h4.set4 _ _ _ _,aj⟩ ?_;rintro wz ⟨hw,xw⟩;have hw2:T wz (aa (X2+1) #[o q 0,o q 0,o q 0,o q 0] 75*(aa X2 #[o q 0,H z,H z,o q 0,H z,H z,o q 0,.slice D 0 0,.slice D 0 0] 248*(ae f s*R))):=hw.right.eq (by ac_rfl);exact M (cP results176 rfl rfl rfl (br hw)) rfl ⟨D,0,0,by rw[HF.out.2.2];rfl,by rw[HF.out.1,HF.out.2.1];exact Has.rowNil hw2.right.right,xw⟩
structure Az (v:kN):Prop where
 l0:0≤v.lev
 l3:v.lev≤3
 a0:0≤v.at_
 a4:v.at_*az v.lev.toNat<4096
def li:Nat→Nat|0=>0|L+1=>kO L
theorem wX(L:Nat):kO L=8*(1+li L):=by
 cases L with
 |zero=>rfl
 |succ L=>show 8+8*kO L=8*(1+kO L);omega
theorem qe{i:Nat}(h:i<8):List.range' i (8 - i)=i::List.range' (i+1) (8 - (i+1)):=by
 rw[show 8 - i=(8 - (i+1))+1 by omega,List.range'_succ]
theorem vp{s:Ms}{L:Nat}{t a:Int}{sub:Int→Int→Vs}{i:Nat}{is:List Nat}(h:bv (ar s t i) L≠0):cK s L t a sub (i::is)=⟨bv (ar s t i) L,[]⟩:=by
 rw[cK,if_pos h]
theorem rh{s:Ms}{L:Nat}{t a:Int}{sub:Int→Int→Vs}{i:Nat}{is:List Nat}(h:bv (ar s t i) L=0)(hn:¬((aC (ar s t i) L).there =Y∧(aC (ar s t i) L).leaf =z)):
  cK s L t a sub (i::is)=⟨(cK s L t a sub is).code,⟨t,L,a*8+i,aC (ar s t i) L⟩::(cK s L t a sub is).vs⟩:=by
 rw[cK,if_neg (by rw[h];simp)];dsimp only;rw[if_neg hn];simp
theorem vq{s:Ms}{L:Nat}{t a:Int}{sub:Int→Int→Vs}{i:Nat}{is:List Nat}(h:bv (ar s t i) L=0)(hn:(aC (ar s t i) L).there =Y∧(aC (ar s t i) L).leaf =z)
  (hc:(sub (aC (ar s t i) L).frame (a*8+i)).code =0):
  cK s L t a sub (i::is)=⟨(cK s L t a sub is).code,⟨t,L,a*8+i,aC (ar s t i) L⟩::((sub (aC (ar s t i) L).frame (a*8+i)).vs ++(cK s L t a sub is).vs)⟩:=by
 rw[cK,if_neg (by rw[h];simp)];dsimp only;rw[if_pos hn,if_neg (by rw[hc];simp)]
theorem qg{s:Ms}{L:Nat}{t a:Int}{sub:Int→Int→Vs}{i:Nat}{is:List Nat}(h:bv (ar s t i) L=0)(hn:(aC (ar s t i) L).there =Y∧(aC (ar s t i) L).leaf =z)
  (hc:(sub (aC (ar s t i) L).frame (a*8+i)).code ≠0):
  cK s L t a sub (i::is)=⟨(sub (aC (ar s t i) L).frame (a*8+i)).code,⟨t,L,a*8+i,aC (ar s t i) L⟩::(sub (aC (ar s t i) L).frame (a*8+i)).vs⟩:=by
 rw[cK,if_neg (by rw[h];simp)];dsimp only;rw[if_pos hn,if_pos hc]
theorem ze{L:Nat}{a:Int}{i:Nat}(hL:L≤3)(h0:0≤a)(h:a*az (L+1)<4096)(hi:i<8):0≤a*8+i∧(a*8+i)*az L<4096∧a<4096:=by
 refine⟨by omega,Ba hL h0 h hi,?_⟩;have hp:=dE (L+1);have:a*1≤a*az (L+1):=Int.mul_le_mul_of_nonneg_left (by omega) h0;omega
section
variable (f:Nat) (s:Ms) (hs:s.Ok) (g:Nat) (cap:Array al) (eg:∀args w,(callFunc g args).run prog w= .ok (.enter g args) w) (I:List kN→ab) (B:Nat)
 (hsee:∀(P:ab) (vs:List kN) (v:kN) (W:U),Az v→vs.length<B→T W (I vs*P)→
  Z prog g (#[o q v.t,o q v.lev,o q v.at_,.agg #[H v.e.there,H v.e.leaf,o q v.e.rights,H v.e.used,H v.e.dirty,o q v.e.frame]]++cap) W (cF (.tuple #[]) (I (vs++[v])*P) W))
include hs eg hsee
def rj(L:Nat):Prop:=∀(R:ab) (t a:Int) (vs0:List kN) (w:U),0≤a→a*az (L+1)<4096→vs0.length+kO L≤B→T w (I vs0*(ae f s*R))→
  Z prog 161 #[.pointer (F (J f 0 D)),o q t,o q L,o q a,.func (.func g) #[] cap] w (cF (o q (bV s L t a).code) (I (vs0++(bV s L t a).vs)*(ae f s*R)) w)
set_option maxHeartbeats 4000000 in
theorem nW(L:Nat)(hL:L≤3)(ih:∀K,L=K+1→rj f s g cap I B K):rj f s g cap I B L:=by
  intro R t a vs0 w ha ha4 hB h;have IH:=C ih;clear ih;have HSEE:=C hsee;have hmo:=wX L;go_enter func161,ntmps161;go_wp2_with fail
  go_loopw [18] (fun s18 wr=>∃(i:Nat) (vs:List kN),i≤8∧s18=o q i∧vs.length≤i*(1+li L)∧(0<i→s.has t=Y)∧
    Hid (s.has t=Y→bV s L t a=⟨(cK s L t a (gj s L) (List.range' i (8 - i))).code,vs++(cK s L t a (gj s L) (List.range' i (8 - i))).vs⟩)∧
    T wr (I (vs0++vs)*(ae f s*R))∧an w wr) (fun s18 _=>8 - (intOf s18).toNat)
  case atStart=>
   refine⟨0,[],by omega,rfl,by simp,fun h=>by omega,C fun ht=> ?_,by simpa using h,Ext.refl _⟩;rw[iy,if_neg (by rw[ht];simp),List.range_eq_range'];rfl
  case round=>
   clear h;obtain⟨i,vs,hi,rfl,hvl,hti,HE,hr,hx⟩:=hrel;by_cases hlt:i<8
   ·have hLD:=rM f s t i _ wr hr.p2
    cases ht:s.has t with
    |false=>
     have hi0:i=0:=by
      rcases Nat.eq_zero_or_pos i with h|h
      ·exact h
      ·rw[hti h] at ht;cases ht
     subst hi0;have hv0:vs=[]:=List.eq_nil_of_length_eq_zero (by omega);subst hv0;have hy:=C (show bV s L t a=⟨12,[]⟩ by rw[iy,if_pos ht]);have hw:s.hasW t ((0:Nat):Int)=z:=by unfold Ms.hasW;rw[ht];rfl
     rw[hw] at hLD;clear hw ht hti HE;generalize dw s t ((0:Nat):Int)=v at*
     go_wp2_with fail
     refine hLD.mono ?_;rintro e w2 ⟨rfl,rfl⟩;go_wp2_with fail
     go_ret;rw[hy.out];exact⟨rfl,hr,hx⟩
    |true=>
     have hw:s.hasW t (i:Int)=Y:=iB.2 ⟨ht,by omega,by omega⟩;have hlv:dw s t (i:Int)=ar s t i:=by unfold dw ar;rw[if_pos hw]
     rw[hw,hlv] at hLD;clear hw hlv;have hb:=hs.inv.wok t.toNat ((i:Int)).toNat;have HD:=C (fun W=>j0 (ar s t i) L W hb.1 hb.2);clear hb;have hEq:=HE.out ht;rw[qe hlt] at hEq;have HEQ:=C hEq;clear hEq HE hti;have HT:=C ht;clear ht;obtain⟨hat0,hat4,ha6⟩:=ze hL ha ha4 hlt;have hm1:IntKind.i64.wrap (a*8)=a*8:=by rw[ad];omega
     have hm2:IntKind.i64.wrap (a*8+i)=a*8+i:=by rw[ad];omega
     by_cases hc:bv (ar s t i) L=0
     case neg=>
      have hy:=C (show bV s L t a=⟨bv (ar s t i) L,vs⟩ by rw[HEQ.out,vp hc];simp);have hv:=C (fd (w:=ar s t i) (l:=L) rfl (.inl hc));rw[hv.out] at HD;have hn:(bv (ar s t i) L !=0)=Y:=by simpa using hc
      clear hv hc HEQ;generalize bv (ar s t i) L=code at*
      generalize ar s t i=v at*
      go_wp2_with fail
      refine hLD.mono ?_;rintro e w2 ⟨rfl,rfl⟩;go_wp2_with fail
      refine(HD.out _).mono ?_;rintro e w2 ⟨rfl,b2⟩;go_wp2_with fail
      go_ret;rw[hy.out];exact⟨rfl,(hr.below b2).alloc _,(hx.below b2).alloc _⟩
     have hp1:=C (fun hn=>rh (a:=a) (sub:=gj s L) (is:=List.range' (i+1) (8 - (i+1))) hc hn);have hp2:=C (fun hn hk=>vq (a:=a) (sub:=gj s L) (is:=List.range' (i+1) (8 - (i+1))) hc hn hk);have hp3:=C (fun hn hk=>qg (a:=a) (sub:=gj s L) (is:=List.range' (i+1) (8 - (i+1))) hc hn hk);have hv:=C (show ic (ar s t i) L= .tuple #[.agg #[H (aC (ar s t i) L).there,H (aC (ar s t i) L).leaf,o q (aC (ar s t i) L).rights,H (aC (ar s t i) L).used,H (aC (ar s t i) L).dirty,o q (aC (ar s t i) L).frame],o q 0] by unfold ic;rw[hc]);rw[hv.out] at HD;have hK:=C (show(aC (ar s t i) L).there =Y∧(aC (ar s t i) L).leaf =z→∃K,L=K+1 by
      intro hn;cases L with
      |zero=>
       rcases d9 hc with h|h
       ·have:=hn.1.symm.trans h
        cases this
       ·have:=hn.2.symm.trans h
        cases this
      |succ K=>exact⟨K,rfl⟩)
     clear hv hc;have hvis:Az ⟨t,L,a*8+i,aC (ar s t i) L⟩:=⟨by show(0:Int)≤(L:Int);omega,by show(L:Int)≤3;omega,hat0,hat4⟩;have HS:=fun P=>HSEE.out P (vs0++vs) ⟨t,L,a*8+i,aC (ar s t i) L⟩;generalize aC (ar s t i) L=e at*
     have hbnd:(vs0++vs).length <B:=by
      have h1:=Nat.mul_le_mul_right (1+li L) (show i≤7 by omega);have h2:8*(1+li L)=7*(1+li L)+(1+li L):=by omega
      rw[N];omega
     generalize ar s t i=v at*
     have HSA:=C (fun P W hW=>HS P W hvis hbnd hW);clear HS hvis hbnd;go_wp2_with fail
     refine hLD.mono ?_;rintro e2 w2 ⟨rfl,rfl⟩;go_wp2_with fail
     refine(HD.out _).mono ?_;rintro e2 w2 ⟨rfl,b2⟩;have h2:=hr.below b2;have x2:=hx.below b2;have h3:=(h2.new #[H e.there,H e.leaf,o q e.rights,H e.used,H e.dirty,o q e.frame] 81);have x3:=x2.alloc (.cells #[H e.there,H e.leaf,o q e.rights,H e.used,H e.dirty,o q e.frame] 81);have h3:=h3.p2;clear hLD HD hr hx h2 x2 b2;go_wp2_with fail
     refine(HSA.out _ _ h3).mono ?_;rintro e2 w5 ⟨rfl,h5,x5⟩;have x5:=x3.trans x5;obtain⟨e0,e1,e2',e3,e4,e5⟩:=h5.right.cells6;have el:=h5.right.lt;have hlen1:i*(1+li L)+(1+li L)=(i+1)*(1+li L):=by rw[Nat.add_mul,Nat.one_mul]
     have hv1:vs0++vs++[⟨t,L,a*8+i,e⟩]=vs0++(vs++[⟨t,L,a*8+i,e⟩]):=List.append_assoc _ _ _;have HV1:=C hv1;clear hv1 h3 x3;by_cases hn:e.there=Y∧e.leaf=z
     ·obtain⟨K,hLK⟩:=hK.out hn
      have hLKH:=C hLK;have hwr:IntKind.i64.wrap ((L:Int) - 1)=(K:Int):=by rw[ad];omega
      have hlv:vs.length≤7*(1+li L):=Nat.le_trans hvl (Nat.mul_le_mul_right _ (by omega));have hIH:=IH.out K hLK _ e.frame (a*8+i) (vs0++(vs++[⟨t,(L:Int),a*8+i,e⟩])) w5 hat0 (by rw[←hLKH.out];exact hat4) (by
       have hsm:li L=kO K:=by rw[hLKH.out];rfl
       rw[N,N,List.length_singleton];omega) (by
       rw[←HV1.out];exact h5.eq (by rw[av (aa _ _ _)]))
      have hsub:gj s L=bV s K:=by rw[hLKH.out];rfl
      have HP2:=C (fun hk=>hp2.out hn hk);have HP3:=C (fun hk=>hp3.out hn hk);rw[←hsub] at hIH;have hrl:=C (show(gj s L e.frame (a*8+i)).vs.length ≤kO K by rw[hsub];exact nV s K e.frame (a*8+i));clear hLK hsub;obtain⟨n1,n2⟩:=hn;generalize gj s L e.frame (a*8+i)=r at*
      go_wp2_with fail
      refine hIH.mono ?_;rintro e2 w6 ⟨rfl,h6,x6⟩;have x6:=x5.trans x6;by_cases hk:r.code=0
      ·have hfin:=C (HP2.out hk)
       go_wp2_with fail
       go_roundw
       case rel=>
        refine⟨i+1,vs++(⟨t,(L:Int),a*8+i,e⟩::r.vs),by omega,by go_num,?_,by intros;first|trivial|exact HT.out,C fun _=> ?_,?_,x6⟩
        ·have:=hrl.out
         have hsm:li L=kO K:=by rw[hLKH.out];rfl
         rw[N,List.length_cons];omega
        ·rw[HEQ.out,hfin.out]
         simp
        ·have h7:=h6.p2.p2
         have e7:vs0++(vs++[⟨t,(L:Int),a*8+i,e⟩])++r.vs=vs0++(vs++(⟨t,(L:Int),a*8+i,e⟩::r.vs)):=by simp
         rw[e7] at h6;exact h6.drop3
       case measure=>simp[intOf];omega
      ·have hfin:=C (HP3.out hk)
       have hkn:(r.code !=0)=Y:=by simpa using hk
       go_wp2_with fail
       go_ret;rw[HEQ.out,hfin.out];have e7:vs0++(vs++[⟨t,(L:Int),a*8+i,e⟩])++r.vs=vs0++(vs++(⟨t,(L:Int),a*8+i,e⟩::r.vs)):=by simp
       rw[e7] at h6;exact⟨rfl,h6.drop3,x6⟩
     ·have hfin:=C (hp1.out hn)
      rw[HV1.out] at h5;have hcase:e.there=z∨(e.there=Y∧e.leaf=Y):=by
       cases h1:e.there<;>cases h2:e.leaf<;>simp_all
      have hround:∀wz,T wz (I (vs0++(vs++[⟨t,(L:Int),a*8+i,e⟩]))*(aa w2.heap.size #[H e.there,H e.leaf,o q e.rights,H e.used,H e.dirty,o q e.frame] 81*(ae f s*R)))→T wz (I (vs0++(vs++[⟨t,(L:Int),a*8+i,e⟩]))*(ae f s*R)):=fun _ h=>h.p2.right;have HR:=C hround;clear hround hn;rcases hcase with h1|⟨h1,h2⟩
      ·go_wp2_with fail
       go_roundw
       case rel=>
        refine⟨i+1,vs++[⟨t,(L:Int),a*8+i,e⟩],by omega,by go_num,by rw[N,List.length_singleton];omega,by intros;first|trivial|exact HT.out,C fun _=> ?_,HR.out _ h5,x5⟩;rw[HEQ.out,hfin.out];simp
       case measure=>simp[intOf];omega
      ·go_wp2_with fail
       go_roundw
       case rel=>
        refine⟨i+1,vs++[⟨t,(L:Int),a*8+i,e⟩],by omega,by go_num,by rw[N,List.length_singleton];omega,by intros;first|trivial|exact HT.out,C fun _=> ?_,HR.out _ h5,x5⟩;rw[HEQ.out,hfin.out];simp
       case measure=>simp[intOf];omega
   ·obtain rfl:i=8:=by omega
    have hy:=C (HE.out (hti (by omega)));go_wp2_with fail
    go_ret;rw[hy.out];exact⟨rfl,by simpa [cK] using hr,hx⟩
theorem mM:∀(L:Nat),L≤3→rj f s g cap I B L
 |0,h=>nW f s hs g cap eg I B hsee 0 h fun _ e=>by cases e
 |L+1,h=>nW f s hs g cap eg I B hsee (L+1) h fun K e=>by
  obtain rfl:L=K:=by omega
  exact mM L (by omega)
end
def mpZero:al:= .agg #[o q 0,o q 0,o q 0,o q 0]
theorem rk:kL prog 75 mpZero 4 32:=⟨by kernel_rfl,rfl,by omega⟩
theorem il(x:Mp):x.cells.length=4:=rfl
def aP(l:List Mp):List al:=fw Mp.cells l
theorem de(l:List Mp):(aP l).length =l.length*4:=pT il l
theorem kY(l:List Mp)(m:Mp):aP (l++[m])=aP l++m.cells:=by unfold aP;rw[gZ];simp[fw]
def cz(v:al)(l:List Mp):ab:=bt 75 4 v l.length (aP l)
theorem qh(x:Mp):∀u∈x.cells,u.oneCell'=Y:=by
 intro u hx;simp[Mp.cells] at hx;rcases hx with rfl|rfl|rfl|rfl<;>rfl
theorem iN(l:List Mp):∀u∈aP l,u.oneCell'=Y:=by
 intro u hu;unfold aP fw at hu;obtain⟨x,_,hx⟩:=List.mem_flatMap.1 hu;exact qh x u hx
theorem eD(a b:List Mp):aP (a++b)=aP a++aP b:=gZ a b
theorem dt{w:U}{R:ab}{A:Option ap}{n c:Nat}{l:List Mp}(h:T w (cz (.slice A n c) l*R)):n=l.length:=by
 rcases(Has.rowCases (e:=75) (size:=4) h) with ⟨hv,h0,_⟩|⟨g,cap,cur,hv,_⟩
 ·injection hv with a b
  omega
 ·injection hv
theorem gH{w:U}{R:ab}{A:Option ap}{n c:Nat}{l:List Mp}(h:T w (cz (.slice A n c) l*R)):n≤9223372036854775807:=by
 obtain rfl:=dt h;exact(Has.rowLens (e:=75) (size:=4) h).2
theorem fk{w:U}{R:ab}{A:Option ap}{n c:Nat}{l:List Mp}(h:T w (cz (.slice A n c) l*R)){k:Nat}(hk:k<l.length):
  ∃b,A=F (J b 0 D)∧b<w.heap.size∧
   (w.cell? ⟨b,k*4,D⟩=F (o q l[k].page)∧w.cell? ⟨b,k*4+1,D⟩=F (o q l[k].size)∧w.cell? ⟨b,k*4+2,D⟩=F (o q l[k].frame)∧w.cell? ⟨b,k*4+3,D⟩=F (o q l[k].rights)):=by
 obtain rfl:=dt h;have g:=fun t (ht:t<4)=>Has.rowGet (e:=75) (size:=4) h (i:=k*4+t) (u:=(l[k].cells[t]'(by rw[il];exact ht))) (by
  have:=mB (cells:=Mp.cells) il hk ht;rw[af (l:=l[k].cells) (by rw[il];exact ht)] at this;exact this)
 obtain⟨b,rfl,hb,c0,_⟩:=g 0 (by omega);obtain⟨b1,e1,_,c1,_⟩:=g 1 (by omega);obtain⟨b2,e2,_,c2,_⟩:=g 2 (by omega);obtain⟨b3,e3,_,c3,_⟩:=g 3 (by omega);injection e1 with e1;injection e1 with e1;subst e1
 injection e2 with e2;injection e2 with e2;subst e2
 injection e3 with e3;injection e3 with e3;subst e3
 exact⟨b,rfl,hb,c0,c1,c2,c3⟩
def jO(O:Nat)(vs:List kN):ab:=ex fun A=>ex fun c=>aa O #[.slice A (bH vs).length c] 98*cz (.slice A (bH vs).length c) (bH vs)
theorem mN{O:Nat}{vs:List kN}{P:ab}{w:U}(h:T w (jO O vs*P)):∃A c,T w (aa O #[.slice A (bH vs).length c] 98*(cz (.slice A (bH vs).length c) (bH vs)*P)):=by
 unfold jO at h;obtain⟨A,h⟩:=aw.1 h;obtain⟨c,h⟩:=aw.1 h;exact⟨A,c,h.a1⟩
theorem kc{O c:Nat}{A:Option ap}{vs:List kN}{P:ab}{w:U}(h:T w (aa O #[.slice A (bH vs).length c] 98*(cz (.slice A (bH vs).length c) (bH vs)*P))):T w (jO O vs*P):=by
 unfold jO;exact aw.2 ⟨A,aw.2 ⟨c,h.a2⟩⟩
theorem rm(vs:List kN):(bH vs).length ≤vs.length:=List.length_filterMap_le _ _
theorem rn(vs:List kN):(bL vs).length ≤vs.length:=List.length_filterMap_le _ _
theorem tw{i j:Nat}(h:i≤j):az i≤az j:=by
 induction h with
 |refl=>exact Int.le_refl _
 |step _ ih=>rw[dD];have:=dE i;omega
set_option maxHeartbeats 2000000 in
theorem AW(O:Nat)(P:ab)(vs:List kN)(v:kN)(W:U)(hv:Az v)(hl:vs.length<5000)(h:T W (jO O vs*P)):
  Z prog 162 #[o q v.t,o q v.lev,o q v.at_,.agg #[H v.e.there,H v.e.leaf,o q v.e.rights,H v.e.used,H v.e.dirty,o q v.e.frame],.pointer (F (J O 0 D))] W (cF (.tuple #[]) (jO O (vs++[v])*P) W):=by
 obtain⟨A,c,h⟩:=mN h;have hml:=rm vs;obtain⟨t,lev,at_,⟨th,lf,rg,us,di,fr⟩⟩:=v;obtain⟨l0,l3,ha0,ha4⟩:=hv;dsimp only at*
 have h1:=h.new #[H th,H lf,o q rg,H us,H di,o q fr] 81;have x1:=(Ext.refl W).alloc (.cells #[H th,H lf,o q rg,H us,H di,o q fr] 81);obtain⟨e0,e1,e2,e3,e4,e5⟩:=h1.cells6;have el:=h1.lt;cases lf with
 |false=>
  have hm:bH (vs++[⟨t,lev,at_,⟨th,z,rg,us,di,fr⟩⟩])=bH vs:=by rw[im];simp[bH]
  have hfin:T (W.alloc (.cells #[H th,H z,o q rg,H us,H di,o q fr] 81)) (jO O (vs++[⟨t,lev,at_,⟨th,z,rg,us,di,fr⟩⟩])*P):=by
   refine kc (A:=A) (c:=c) ?_;rw[hm];exact h1.right
  go_enter func162,ntmps162;go_wp2_with fail
  exact M (v:= .tuple #[]) (by simp[results,results162]) rfl ⟨rfl,hfin,x1⟩
 |true=>
  obtain⟨k,rfl⟩:=Int.eq_ofNat_of_zero_le l0;have hk3:k≤3:=by omega
  rw[Int.toNat_natCast] at ha4;have hm:=C (show bH (vs++[⟨t,k,at_,⟨th,Y,rg,us,di,fr⟩⟩])=bH vs++[aK ⟨th,Y,rg,us,di,fr⟩ k (at_*az k)] by rw[im];simp[bH]);have HE:=C (kg ⟨th,Y,rg,us,di,fr⟩ k (at_*az k));generalize aK ⟨th,Y,rg,us,di,fr⟩ k (at_*az k)=m at*
  go_enter func162,ntmps162;go_wp2_with fail
  go_loopw [9,14] (fun s9 s14 wr=>∃j:Nat,j≤k∧s14=o q j∧s9=o q (at_*az j)∧(W.alloc (.cells #[H th,H Y,o q rg,H us,H di,o q fr] 81))=wr) (fun _ s14 _=>k - (intOf s14).toNat)
  case atStart=>exact⟨0,Nat.zero_le _,rfl,by simp[az],rfl⟩
  case round=>
   obtain⟨j,hj,rfl,rfl,rfl⟩:=hrel;by_cases hlt:j<k
   ·have hpw:at_*az j*8=at_*az (j+1):=by rw[dD,Int.mul_assoc,Int.mul_comm (az j) 8]
    have hle:at_*az (j+1)≤at_*az k:=Int.mul_le_mul_of_nonneg_left (tw (by omega)) ha0;have hge:0≤at_*az (j+1):=Int.mul_nonneg ha0 (Int.le_of_lt (dE _));have hwr:IntKind.i64.wrap (at_*az j*8)=at_*az (j+1):=by rw[hpw,ad];omega
    clear hpw hle hge;go_wp2_with fail
    go_roundw
    case rel=>exact⟨j+1,by omega,by go_num,rfl,trivial⟩
    case measure=>simp[intOf];omega
   ·obtain rfl:j=k:=by omega
    have c0:(W.alloc (.cells #[H th,H Y,o q rg,H us,H di,o q fr] 81)).cell? (J O 0 D)=F (.slice A (bH vs).length c):=h1.right.cell 0;generalize at_*az j=pg at*
    generalize W.alloc _=w4 at*
    generalize W.heap.size=E at*
    go_wp2_with fail
    refine kr (S:=fun L w'=>Till 6 0 (fun w'=>w'.cell? (J O 0 D)=F (.slice A (bH vs).length c)) L w'∧Till 4 1 (fun w'=>w'.cell? (J E 0 D)=F (H th)∧w'.cell? (J E 1 D)=F (H Y)∧w'.cell? (J E 2 D)=F (o q rg)∧w'.cell? (J E 3 D)=F (H us)∧w'.cell? (J E 4 D)=F (H di)∧w'.cell? (J E 5 D)=F (o q fr)) L w') (by kernel_rfl) ⟨Till.start c0,Till.start ⟨e0,e1,e2,e3,e4,e5⟩⟩ (fun hHeld=> ?_);refine aZ (i:=0) (v:= ?_) rfl (by kernel_rfl) (by kernel_rfl) (by kernel_rfl) (fun _ _ _ h=>h) (Good.and (Good.till (by decide) ⟨_,⟨0,.data⟩,rfl,by simp,rfl,rfl⟩) (Good.till (by decide) ⟨_,⟨1,.data⟩,rfl,by simp,rfl,rfl⟩)) (Or.inl ⟨by kernel_rfl,?_⟩) hHeld (fun hHeld=> ?_);rotate_left;focus (intro wS hSw;obtain⟨Lx,hLx,hs1,hs2⟩:=hSw;have cS:=hs1.still hLx;go_simp;first|done|with_reducible rfl)
    try go_simp
    refine aZ (i:=1) (v:= ?_) rfl (by kernel_rfl) (by kernel_rfl) (by kernel_rfl) (fun _ _ _ h=>h) (Good.and (Good.till (by decide) ⟨_,⟨0,.data⟩,rfl,by simp,rfl,rfl⟩) (Good.till (by decide) ⟨_,⟨1,.data⟩,rfl,by simp,rfl,rfl⟩)) (Or.inl ⟨by kernel_rfl,?_⟩) hHeld (fun hHeld=> ?_);rotate_left;focus (intro wS hSw;obtain⟨Lx,hLx,hs1,hs2⟩:=hSw;obtain⟨s0,s1,s2,s3,s4,s5⟩:=hs2.still hLx;go_simp;first|done|with_reducible rfl)
    try go_simp
    refine aZ (i:=2) (v:= ?_) rfl (by kernel_rfl) (by kernel_rfl) (by kernel_rfl) (fun _ _ _ h=>h) (Good.and (Good.till (by decide) ⟨_,⟨0,.data⟩,rfl,by simp,rfl,rfl⟩) (Good.till (by decide) ⟨_,⟨1,.data⟩,rfl,by simp,rfl,rfl⟩)) (Or.inl ⟨by kernel_rfl,?_⟩) hHeld (fun hHeld=> ?_);rotate_left;focus (intro wS hSw;obtain⟨Lx,hLx,hs1,hs2⟩:=hSw;skip;go_simp;first|done|with_reducible rfl)
    try go_simp
    refine aZ (i:=3) (v:= ?_) rfl (by kernel_rfl) (by kernel_rfl) (by kernel_rfl) (fun _ _ _ h=>h) (Good.and (Good.till (by decide) ⟨_,⟨0,.data⟩,rfl,by simp,rfl,rfl⟩) (Good.till (by decide) ⟨_,⟨1,.data⟩,rfl,by simp,rfl,rfl⟩)) (Or.inl ⟨by kernel_rfl,?_⟩) hHeld (fun hHeld=> ?_);rotate_left;focus (intro wS hSw;obtain⟨Lx,hLx,hs1,hs2⟩:=hSw;skip;go_simp;first|done|with_reducible rfl)
    try go_simp
    refine aY (rs:=[4]) (by kernel_rfl) (by simp) ?_;refine OneOf.cons rfl (fun K hK=> ?_) OneOf.nil;go_simp;go_wp2_with(refine(HE.out _).mono ?_;rintro e2 w5 ⟨rfl,b5⟩)
    have h5:=(h1.drew.right.below b5);have x5:=x1.drew.below b5;refine hK.out _ _ ⟨⟨fun _=>by kernel_rfl,fun _=>h5.cell 0⟩,⟨fun _=>by kernel_rfl,fun h=>aU (by kernel_rfl) h⟩⟩ (fun hHeld=> ?_);clear hK K;refine aY (rs:=[5]) (by kernel_rfl) (by simp) ?_;refine OneOf.cons rfl (fun K hK=> ?_) OneOf.nil;go_simp;have h6:=(h5.p2).alloc (.cells #[o q m.page,o q m.size,o q m.frame,o q m.rights] 75);refine hK.out _ _ ⟨⟨fun _=>by kernel_rfl,fun _=>h6.right.cell 0⟩,⟨fun _=>by kernel_rfl,fun h=>aU (by kernel_rfl) h⟩⟩ (fun hHeld=> ?_);clear hK K;refine aY (rs:=[6]) (by kernel_rfl) (by simp) ?_;refine OneOf.cons rfl (fun K hK=> ?_) OneOf.nil;refine bU rfl (.tmp 19) (.tmp 24) 98 rfl underlying98 rk _ _ _ (by simp[Act.eval]) h6 (J w5.heap.size 0 D) 1 1 m.cells (by simp[Act.eval]) rfl (jH w5 m.cells 75) (qh m) (by unfold maxLen;omega) (by omega) ?_;intro A' c' w7 h7 x7;try go_simp
    refine hK.out _ _ ⟨⟨fun _=>by kernel_rfl,fun h=>aU (by kernel_rfl) h⟩,⟨fun _=>by kernel_rfl,fun h=>aU (by kernel_rfl) h⟩⟩ (fun hHeld=> ?_);clear hK K;have y0:=h7.right.cell 0;have y1:=h7.right.free 0;have yl:=h7.right.lt;refine aY (rs:=[7]) (by kernel_rfl) (by simp) ?_;refine OneOf.cons rfl (fun K hK=> ?_) OneOf.nil;go_simp;refine hK.out _ _ ⟨⟨fun _=>by kernel_rfl,fun h=>aU (by kernel_rfl) h⟩,⟨fun _=>by kernel_rfl,fun h=>aU (by kernel_rfl) h⟩⟩ (fun hHeld=> ?_);clear hK K;refine gp (by kernel_rfl) ?_;have hfin:T (w7.setCell (J O 0 D) (.slice A' ((bH vs).length +1) c')) (jO O (vs++[⟨t,j,at_,⟨th,Y,rg,us,di,fr⟩⟩])*P):=by
     refine kc (A:=A') (c:=c') ?_;unfold cz;rw[hm.out,kY,N,List.length_singleton];exact h7.p2.set 0 _
    go_wp2_with fail
    exact M (v:= .tuple #[]) (by simp[results,results162]) rfl ⟨rfl,hfin,((x5.alloc _).trans x7).set _ _⟩
def kZ(y:Vs):List Mp:=if y.code=0 then bH y.vs else []
def rP(y:Vs)(R:ab)(w:U)(e:Ending)(w':U):Prop:=
 ∃A c,e= .returned (.tuple #[.slice A (kZ y).length c,o q y.code])∧T w' (cz (.slice A (kZ y).length c) (kZ y)*R)∧an w w'
theorem vr(f:Nat)(s:Ms)(root:Int)(R:ab)(w:U)(hs:s.Ok)(h:T w (ae f s*R)):
  Z prog 123 #[.pointer (F (J f 0 D)),o q root] w (rP (bV s 3 root 0) (ae f s*R) w):=by
 have hmf:∀(fn:Fn) (first cap:Array al) (w:U),(Instr.makeFunc fn first cap).run prog w= .ok (.func fn first cap) w:=fun _ _ _ _=>rfl;have h1:=h.new #[.slice D 0 0] 98;have h2:T (w.alloc (.cells #[.slice D 0 0] 98)) (jO w.heap.size []*(ae f s*R)):=kc (A:=D) (c:=0) (Has.p2 (Has.rowNil h1));have x1:=(Ext.refl w).alloc (.cells #[.slice D 0 0] 98);have hE:=mM f s hs 162 #[.pointer (F (J w.heap.size 0 D))] (enters_of func162 (by kernel_rfl) rfl) (jO w.heap.size) 5000
  (fun P vs v W hv hl h=>AW w.heap.size P vs v W hv hl h) 3 (by omega) R root 0 [] _ (by omega) (by decide) (by decide) h2
 rw[List.nil_append] at hE;have hln:=C (show(kZ (bV s 3 root 0))=if(bV s 3 root 0).code =0 then bH (bV s 3 root 0).vs else [] from rfl);generalize bV s 3 root 0=y at*
 by_cases hc:y.code=0
 ·have hm:kZ y=bH y.vs:=by rw[hln.out,if_pos hc]
  have HM:=C hm;clear hm;go_enter func123,ntmps123;go_wp2_with(refine hE.mono ?_;rintro e w2 ⟨rfl,h3,x3⟩;obtain⟨A,c,h4⟩:=mN h3;have c0:=h4.cell 0;have cl:=h4.lt)
  exact M (v:= .tuple #[.slice A (bH y.vs).length c,o q 0]) (by simp[results,results123]) rfl ⟨A,c,by rw[HM.out,hc],by rw[HM.out];exact h4.right,x1.trans x3⟩
 ·have hm:kZ y=[]:=by rw[hln.out,if_neg hc]
  have HM:=C hm;have hn:(y.code !=0)=Y:=by simpa using hc
  clear hm;go_enter func123,ntmps123;go_wp2_with(refine hE.mono ?_;rintro e w2 ⟨rfl,h3,x3⟩)
  exact M (v:= .tuple #[.slice D 0 0,o q y.code]) (by simp[results,results123]) rfl ⟨D,0,by rw[HM.out];rfl,by rw[HM.out];exact Has.rowNil h3.right,x1.trans x3⟩
def jP(O:Nat)(root:Int)(vs:List kN):ab:=ex fun A=>ex fun c=>aa O #[.slice A (root::bL vs).length c] 55*aq (.slice A (root::bL vs).length c) (root::bL vs)
theorem mO{O:Nat}{root:Int}{vs:List kN}{P:ab}{w:U}(h:T w (jP O root vs*P)):∃A c,T w (aa O #[.slice A (root::bL vs).length c] 55*(aq (.slice A (root::bL vs).length c) (root::bL vs)*P)):=by
 unfold jP at h;obtain⟨A,h⟩:=aw.1 h;obtain⟨c,h⟩:=aw.1 h;exact⟨A,c,h.a1⟩
theorem kd{O c:Nat}{root:Int}{A:Option ap}{vs:List kN}{P:ab}{w:U}(h:T w (aa O #[.slice A (root::bL vs).length c] 55*(aq (.slice A (root::bL vs).length c) (root::bL vs)*P))):T w (jP O root vs*P):=by
 unfold jP;exact aw.2 ⟨A,aw.2 ⟨c,h.a2⟩⟩
theorem AX(O:Nat)(root:Int)(P:ab)(vs:List kN)(v:kN)(W:U)(_:Az v)(hl:vs.length<5000)(h:T W (jP O root vs*P)):
  Z prog 165 #[o q v.t,o q v.lev,o q v.at_,.agg #[H v.e.there,H v.e.leaf,o q v.e.rights,H v.e.used,H v.e.dirty,o q v.e.frame],.pointer (F (J O 0 D))] W (cF (.tuple #[]) (jP O root (vs++[v])*P) W):=by
 obtain⟨A,c,h⟩:=mO h;have hml:=rn vs;obtain⟨t,lev,at_,⟨th,lf,rg,us,di,fr⟩⟩:=v;dsimp only at*
 have h1:=h.new #[H th,H lf,o q rg,H us,H di,o q fr] 81;have x1:=(Ext.refl W).alloc (.cells #[H th,H lf,o q rg,H us,H di,o q fr] 81);obtain⟨e0,e1,e2,e3,e4,e5⟩:=h1.cells6;have el:=h1.lt;by_cases hn:th=Y∧lf=z
 ·obtain⟨rfl,rfl⟩:=hn
  have hm:=C (show root::bL (vs++[⟨t,lev,at_,⟨Y,z,rg,us,di,fr⟩⟩])=(root::bL vs)++[fr] by rw[io];simp[bL]);have c0:=h1.right.cell 0;have f0:=h1.right.free 0;have cl:=h1.right.lt;have hrow:T ((W.alloc (.cells #[H Y,H z,o q rg,H us,H di,o q fr] 81)).alloc (.cells #[o q fr] 3)) (bt 3 1 (.slice A ((bL vs).length +1) c) ((bL vs).length +1) ((root::bL vs).map (o q))*(aa O #[.slice A (root::bL vs).length c] 55*P)):=h1.right.p2.alloc (.cells #[o q fr] 3);have hnw:=fj (W.alloc (.cells #[H Y,H z,o q rg,H us,H di,o q fr] 81)) (o q fr) 3;simp only[V] at hnw;have HNW:=C hnw;clear hnw;go_enter func165,ntmps165;go_wp2_with(at_builtin;(refine a8 rfl _ _ 55 rfl underlying55 gK _ _ _ rfl hrow ⟨W.heap.size+1,0,D⟩ 1 1 [o q fr] rfl rfl HNW.out ?k1 ?k2 ?k3 ?_))
  case k1=>exact gY fr
  case k2=>unfold maxLen;omega
  case k3=>omega
  intro v' w7 h7 x7;obtain⟨A',c',rfl⟩:=h7.rowForm;have y0:=h7.right.cell 0;have y1:=h7.right.free 0;have yl:=h7.right.lt;have hfin:T (w7.setCell (J O 0 D) (.slice A' ((bL vs).length +1+1) c')) (jP O root (vs++[⟨t,lev,at_,⟨Y,z,rg,us,di,fr⟩⟩])*P):=by
   refine kd (A:=A') (c:=c') ?_;unfold aq;rw[hm.out,N,List.length_singleton,List.map_append];exact h7.p2.set 0 _
  go_wp2_with fail
  exact M (v:= .tuple #[]) (by simp[results,results165]) rfl ⟨rfl,hfin,((x1.alloc _).trans x7).set _ _⟩
 ·have hm:bL (vs++[⟨t,lev,at_,⟨th,lf,rg,us,di,fr⟩⟩])=bL vs:=by
   rw[io];unfold bL;rw[List.filterMap_cons];dsimp only;rw[if_neg hn];simp
  have hfin:T (W.alloc (.cells #[H th,H lf,o q rg,H us,H di,o q fr] 81)) (jP O root (vs++[⟨t,lev,at_,⟨th,lf,rg,us,di,fr⟩⟩])*P):=by
   refine kd (A:=A) (c:=c) ?_;rw[hm];exact h1.right
  cases th with
  |false=>
   go_enter func165,ntmps165;go_wp2_with fail
   exact M (v:= .tuple #[]) (by simp[results,results165]) rfl ⟨rfl,hfin,x1⟩
  |true=>
   cases lf with
   |false=>exact absurd ⟨rfl,rfl⟩ hn
   |true=>
    go_enter func165,ntmps165;go_wp2_with fail
    exact M (v:= .tuple #[]) (by simp[results,results165]) rfl ⟨rfl,hfin,x1⟩
def jt(y:Vs)(root:Int):List Int:=if y.code=0 then root::bL y.vs else []
def rQ(y:Vs)(root:Int)(R:ab)(w:U)(e:Ending)(w':U):Prop:=
 ∃A c,e= .returned (.tuple #[.slice A (jt y root).length c,o q y.code])∧T w' (aq (.slice A (jt y root).length c) (jt y root)*R)∧an w w'
theorem ro(f:Nat)(s:Ms)(root:Int)(R:ab)(w:U)(hs:s.Ok)(h:T w (ae f s*R)):
  Z prog 128 #[.pointer (F (J f 0 D)),o q root] w (rQ (bV s 3 root 0) root (ae f s*R) w):=by
 have hmf:∀(fn:Fn) (first cap:Array al) (w:U),(Instr.makeFunc fn first cap).run prog w= .ok (.func fn first cap) w:=fun _ _ _ _=>rfl;have h0:=h.new #[o q root] 3;have h1:=h0.new #[.slice (F (J w.heap.size 0 D)) 1 1] 55;simp only[V] at h1;have h2:T ((w.alloc (.cells #[o q root] 3)).alloc (.cells #[.slice (F (J w.heap.size 0 D)) 1 1] 55)) (jP (w.heap.size+1) root []*(ae f s*R)):=
  kd (A:=F (J w.heap.size 0 D)) (c:=1) (Has.p2 (Has.rowOf (xs:=[o q root]) (n:=1) (size:=1) (Has.p2 h1) rfl (Nat.le_refl 1) (by unfold maxLen;omega) rfl rfl))
 have x1:=((Ext.refl w).alloc (.cells #[o q root] 3)).alloc (.cells #[.slice (F (J w.heap.size 0 D)) 1 1] 55);have hE:=mM f s hs 165 #[.pointer (F ⟨w.heap.size+1,0,D⟩)] (enters_of func165 (by kernel_rfl) rfl) (jP (w.heap.size+1) root) 5000
  (fun P vs v W hv hl h=>AX (w.heap.size+1) root P vs v W hv hl h) 3 (by omega) R root 0 [] _ (by omega) (by decide) (by decide) h2
 rw[List.nil_append] at hE;have hln:=C (show jt (bV s 3 root 0) root=if(bV s 3 root 0).code =0 then root::bL (bV s 3 root 0).vs else [] from rfl);generalize bV s 3 root 0=y at*
 by_cases hc:y.code=0
 ·have hm:jt y root=root::bL y.vs:=by rw[hln.out,if_pos hc]
  have HM:=C hm;clear hm;go_enter func128,ntmps128;go_wp2_with(refine hE.mono ?_;rintro e w2 ⟨rfl,h3,x3⟩;obtain⟨A,c,h4⟩:=mO h3;have c0:=h4.cell 0;have cl:=h4.lt)
  exact M (v:= .tuple #[.slice A (root::bL y.vs).length c,o q 0]) (by simp[results,results128]) rfl ⟨A,c,by rw[HM.out,hc],by rw[HM.out];exact h4.right,x1.trans x3⟩
 ·have hm:jt y root=[]:=by rw[hln.out,if_neg hc]
  have HM:=C hm;have hn:(y.code !=0)=Y:=by simpa using hc
  clear hm;go_enter func128,ntmps128;go_wp2_with(refine hE.mono ?_;rintro e w2 ⟨rfl,h3,x3⟩)
  exact M (v:= .tuple #[.slice D 0 0,o q y.code]) (by simp[results,results128]) rfl ⟨D,0,by rw[HM.out];rfl,by rw[HM.out];exact Has.rowNil h3.right,x1.trans x3⟩
def cO(f:Nat)(s:Ms):ab:=ex fun s'=>eZ (s'.Ok∧Agree s' s)*ae f s'
section
variable {f:Nat} {s:Ms} {R:ab} {w:U}
theorem eF(h:T w (cO f s*R)):∃s',s'.Ok∧Agree s' s∧T w (ae f s'*R):=by
 unfold cO at h;obtain⟨s',h⟩:=aw.1 h;rw[aN] at h;obtain⟨⟨a,b⟩,h⟩:=bZ.1 h;exact⟨s',a,b,h⟩
theorem fo{s':Ms}(h:T w (ae f s'*R))(ho:s'.Ok)(ha:Agree s' s):T w (cO f s*R):=by
 unfold cO;refine aw.2 ⟨s',?_⟩;rw[aN];exact bZ.2 ⟨⟨ho,ha⟩,h⟩
end
section
variable (f:Nat) (s:Ms) (R:ab) (w:U) (h:T w (cO f s*R))
include h
theorem AY(root:Int)(x:Mp):Z prog 175 #[.pointer (F (J f 0 D)),o q root,.agg #[o q x.page,o q x.size,o q x.frame,o q x.rights]] w (cF (o q (dm s root x)) (cO f (eB s root x)*R) w):=by
 obtain⟨s',ho,ha,h'⟩:=eF h;refine(A1 f s' root x R w ho h').mono ?_;rintro e w' ⟨s2,ho2,ha2,he,h2,x2⟩;rw[ha.insC] at he;exact⟨he,fo h2 ho2 (ha2.trans (ha.insS root x)),x2⟩
omit h in
def qi(f:Nat)(s:Ms)(r p:Int)(R:ab)(w:U)(e:Ending)(w':U):Prop:=
 ∃A n c,cF (.tuple #[(bJ s r p).val,.slice A n c,o q (bm s r p)]) (aq (.slice A n c) (gR s r p)*(cO f (dn s r p)*R)) w e w'
theorem AZ(root p:Int):Z prog 176 #[.pointer (F (J f 0 D)),o q root,o q p] w (qi f s root p R w):=by
 obtain⟨s',ho,ha,h'⟩:=eF h;refine(AV f s' root p R w ho h').mono ?_;rintro e w' ⟨A,n,c,he,h2,x2⟩;obtain⟨ag,eg⟩:=ha.rem root p;rw[ha.findC,ha.findM] at he;rw[eg] at h2;exact⟨A,n,c,he,(fo h2.p2 (wP ho root p) ag).p2,x2⟩
theorem Bn(root p ri:Int):Z prog 178 #[.pointer (F (J f 0 D)),o q root,o q p,o q ri] w (cF (.tuple #[(nu s root p ri).val,o q (iV s root p ri)]) (cO f (iH s root p ri)*R) w):=by
 obtain⟨s',ho,ha,h'⟩:=eF h;refine(Bo f s' root p ri R w ho h').mono ?_;rintro e w' ⟨he,h2,x2⟩;obtain⟨ag,ec,em⟩:=ha.pr root p ri;rw[ec,em] at he;exact⟨he,fo h2 (yS ho root p ri) ag,x2⟩
theorem Af(root p:Int):Z prog 121 #[.pointer (F (J f 0 D)),o q root,o q p] w (Pure (.tuple #[(bJ s root p).val,zX (jT s root p),o q (bm s root p)]) w):=by
 obtain⟨s',ho,ha,h'⟩:=eF h;refine(zc f s' root p R w ho h').mono ?_;rintro e w' hp;rw[ha.findC,ha.findM,ha.findE] at hp;exact hp
theorem Ag(k:Int):Z prog 189 #[.pointer (F (J f 0 D)),.int .i64 k] w (cF (H (s.has k)) (cO f (s.giveS k)*R) w):=by
 obtain⟨s',ho,ha,h'⟩:=eF h;refine(yg f s' k R w h' ho).mono ?_;rintro e w' ⟨he,h2,x2⟩;rw[ha.has] at he;exact⟨he,fo h2 (ho.giveS k) (ha.giveS k),x2⟩
theorem Ah:Z prog 111 #[.pointer (F (J f 0 D))] w (cF (o q s.topV) (cO f s.takeS*R) w):=by
 obtain⟨s',ho,ha,h'⟩:=eF h;refine(ye f s' R w h' ho).mono ?_;rintro e w' ⟨he,h2,x2⟩;have:s'.topV=s.topV:=by unfold Ms.topV;rw[ha.top]
 rw[this] at he;exact⟨he,fo h2 ho.takeS ha.takeS,x2⟩
theorem Ai:Z prog 127 #[.pointer (F (J f 0 D))] w (Same (o q (s.frees.length:Nat)) w):=by
 obtain⟨s',ho,ha,h'⟩:=eF h;have:=Aa f s' R w h';rw[ha.fr] at this;exact this
theorem Aj(root:Int):Z prog 123 #[.pointer (F (J f 0 D)),o q root] w (rP (bV s 3 root 0) (cO f s*R) w):=by
 obtain⟨s',ho,ha,h'⟩:=eF h;have:=vr f s' root R w ho h';rw[ha.eachV] at this;refine this.mono ?_;rintro e w' ⟨A,c,he,h2,x2⟩;exact⟨A,c,he,(fo h2.p2 ho ha).p2,x2⟩
theorem wY(root:Int):Z prog 128 #[.pointer (F (J f 0 D)),o q root] w (rQ (bV s 3 root 0) root (cO f s*R) w):=by
 obtain⟨s',ho,ha,h'⟩:=eF h;have:=ro f s' root R w ho h';rw[ha.eachV] at this;refine this.mono ?_;rintro e w' ⟨A,c,he,h2,x2⟩;exact⟨A,c,he,(fo h2.p2 ho ha).p2,x2⟩
end
section
variable (f:Nat) (s:Ms) (gone:List Int) (X:Int→Prop) (hw:Wf s 0 gone X) (R:ab) (w:U) (h:T w (cO f s*R))
include hw h
theorem Ak:Z prog 123 #[.pointer (F (J f 0 D)),o q 0] w fun e w'=>∃A c,e= .returned (.tuple #[.slice A (cJ s 0).length c,o q 0])∧T w' (cz (.slice A (cJ s 0).length c) (cJ s 0)*(cO f s*R))∧an w w':=by
 refine(Aj f s R w h 0).mono ?_;have hc:=(fE hw).1;have e1:kZ (bV s 3 0 0)=cJ s 0:=by unfold kZ cJ;rw[if_pos hc]
 rintro e w' ⟨A,c,he,h2,x2⟩;rw[e1] at he h2;rw[hc] at he;exact⟨A,c,he,h2,x2⟩
theorem wZ:Z prog 128 #[.pointer (F (J f 0 D)),o q 0] w fun e w'=>∃A c,e= .returned (.tuple #[.slice A (fi s 0).length c,o q 0])∧T w' (aq (.slice A (fi s 0).length c) (fi s 0)*(cO f s*R))∧an w w':=by
 refine(wY f s R w h 0).mono ?_;have hc:=(fE hw).1;have e1:jt (bV s 3 0 0) 0=fi s 0:=by unfold jt fi;rw[if_pos hc]
 rintro e w' ⟨A,c,he,h2,x2⟩;rw[e1] at he h2;rw[hc] at he;exact⟨A,c,he,h2,x2⟩
end
end Go.Proofs.YtmfheghbgihdmaaGreatDoor
