/- Contract of table.Remove. -/
import Derived.Test.YtmfheghbgihdmaaGreatFindIn
import Derived.Test.YtmfheghbgihdmaaGreatEntry2
import Derived.Shelf.Abstract
import Derived.Test.YtmfheghbgihdmaaGreatTblM4
import Derived.Test.YtmfheghbgihdmaaGreatSep
import Derived.Lib.Hide
import Derived.Lib.SliceRun
import Derived.Laws.OwnMore
import Derived.Outline
import Derived.BigQuiet
import Derived.Deep.LoopGhost
import Derived.Test.YtmfheghbgihdmaaGreatWkr3
import Derived.Deep.RegionHeld3
import Derived.Deep.DeepCutAuto
import Derived.Laws.IdiomCopy
import Derived.Lib.AppendZerosOnto
namespace Go.Proofs.YtmfheghbgihdmaaGreat
open Go.IntKind renaming u64→vU
open Option renaming none→z,some→C
open Go.Value renaming int→D,bool→Y
open Go.IntKind renaming i64→F,wrap_i64→bi
open Go.Lib renaming hid→H
open Go.Addr renaming mk→J
open Bool renaming false→M,true→ad
open List renaming length_append→N,getElem?_eq_getElem→ax,getElem?_eq_some_iff→b9
open Go.Proofs.YtmfheghbgihdmaaGreat renaming Has→T,Ext→b8,way→bG,Pure→cd,Agree→ci
open Go renaming World→U,bodyPost_ret→Z,Calls→a5,Value→bb,Addr→bs
open Go.Proofs.YtmfheghbgihdmaaGreat.Ext renaming refl→a6
open Go.World renaming size_alloc→a7
open Go.Proofs.YtmfheghbgihdmaaGreat.Has renaming rowSetCells→bd,rowGet→bk,rowNil→bz,rowCases→bD,rowLens→cg,p2→ck
open Go.Proofs.YtmfheghbgihdmaaGreat.Tl renaming drop→bf,Ok→bP,find→cb,room→cc,put→cn,evict→cq
open Go.RowKit renaming intOf→b6,Hid→bL
open Tryz
open Go.RowKit
set_option maxRecDepth 100000
def rO(f:Nat)(s:Ms)(r p:Int)(R:ab)(w:U)(e:Ending)(w':U):Prop:=
 ∃A n c,cR (.tuple #[(bK s r p).val,.slice A n c,D F (bu s r p)]) (ao (.slice A n c) (fy s r p)*(ai f (dm s r p)*R)) w e w'
set_option maxHeartbeats 8000000 in
theorem AD(f:Nat)(s:Ms)(root p:Int)(R:ab)(w:U)(hs:s.Ok)(h:T w (ai f s*R)):
  a5 prog 98 #[.pointer (C (J f 0 z)),D F root,D F p] w (rO f s root p R w):=by
 have h0:=h.new #[D F 0,D F 0,D F 0,D F 0] 39;have x0:=(a6 w).alloc (.cells #[D F 0,D F 0,D F 0,D F 0] 39);have W1:=H (xu f s root p _ _ hs h0.p2);unfold oM at W1;unfold rO;by_cases hfc:bu s root p=0
 ·have hcode:(bG s root p).code =0:=by
   unfold bu at hfc;split at hfc
   ·rename_i hn;exact absurd hfc hn
   ·rename_i hn;simpa using hn
  obtain⟨hp,n,hn,hn3,hl,hu⟩:=fb hcode;have hRS:dm s root p=(kw p (bG s root p).tabs n (s.setW ((bG s root p).tabs.getD n 0).toNat (ap p (3 - n:Nat)).toNat 0)).1:=by
   unfold dm;rw[if_pos hfc,hn,Nat.add_sub_cancel,qR]
  have hRG:fy s root p=(kw p (bG s root p).tabs n (s.setW ((bG s root p).tabs.getD n 0).toNat (ap p (3 - n:Nat)).toNat 0)).2:=by
   unfold fy;rw[if_pos hfc,hn,Nat.add_sub_cancel,qR]
  rw[hfc] at W1⊢;have hHas:∀k,(hk:k< (bG s root p).tabs.length)→s.has ((bG s root p).tabs.getD k 0)=ad:=fun k hk=>by
   rw[List.getD_eq_getElem?_getD,ax hk];exact hu _ (List.getElem_mem hk)
  have hTk:∀k,k< (bG s root p).tabs.length →(bG s root p).tabs[k]? =C ((bG s root p).tabs.getD k 0):=fun k hk=>by
   rw[List.getD_eq_getElem?_getD,ax hk];rfl
  have hPk:∀k,k<n+1→(aH p (bG s root p).tabs.length)[k]? =C (ap p (3 - k:Nat)):=fun k hk=>by
   rw[jf p (by omega)];congr 2
   omega
  have hSt:∀(σ:Ms),(∀u,σ.has u=s.has u)→∀k,k<n+1→∀R w,T w (ai f σ*R)→a5 prog 154 #[.pointer (C (J f 0 z)),D F ((bG s root p).tabs.getD k 0),D F (ap p (3 - k:Nat)),D vU 0] w (cR (Y ad) (ai f (σ.setW ((bG s root p).tabs.getD k 0).toNat (ap p (3 - k:Nat)).toNat 0)*R) w):=fun σ hσ k hk R w h=>by
   have hw:σ.hasW ((bG s root p).tabs.getD k 0) (ap p (3 - k:Nat))=ad:=by
    rw[eI hp (by omega) (by omega),hσ];exact hHas k (by omega)
   have:=ry f σ ((bG s root p).tabs.getD k 0) (ap p (3 - k:Nat)) 0 R w h;unfold fA at this;rw[if_pos hw,hw] at this;exact this
  have hEm:∀(σ:Ms),(∀u,σ.has u=s.has u)→∀k,k<n+1→∀R w,T w (ai f σ*R)→a5 prog 155 #[.pointer (C (J f 0 z)),D F ((bG s root p).tabs.getD k 0)] w (Same (Y (fx σ ((bG s root p).tabs.getD k 0))) w):=fun σ hσ k hk R w h=>by
   have:=yj f ((bG s root p).tabs.getD k 0) σ R w h;rw[sJ (by rw[hσ];exact hHas k (by omega))] at this;exact this
  have HST:=H hSt;have HEM:=H hEm;have HTK:=H hTk;have HPK:=H hPk;have HRS:=H hRS;have HRG:=H hRG;clear hSt hEm hTk hPk hRS hRG hHas hu hl hcode h hfc;generalize dm s root p=rs at*
  generalize fy s root p=rg at*
  generalize bK s root p=fm at*
  generalize bG s root p=y at*
  generalize aH p y.tabs.length=pls at*
  generalize hix:(fun k:Nat=>ap p (3 - k:Nat))=ixs;have HIX:=H hix;clear hix;have HN:=H hn;clear hn;go_enter func98,ntmps98;go_wp2_with fail
  refine W1.out.mono ?_;rintro e w1 hF;rcases hF with ⟨_,A,B,c,d,rfl,h1,x1⟩|⟨hfc,_⟩
  ·have h2:=(h0.onto' (h1.a2)).a1
   have x2:=x0.trans x1;clear h0 x0 h1 x1 W1;have h4:=(h2.new #[D F y.lev,Y y.e.there,Y y.e.leaf,D F y.e.rights,Y y.e.used,Y y.e.dirty,D F y.e.frame,.slice A y.tabs.length c,.slice B y.tabs.length d] 206).new #[D F fm.page,D F fm.size,D F fm.frame,D F fm.rights] 39;simp only[a7] at h4;have x4:=(x2.alloc (.cells #[D F y.lev,Y y.e.there,Y y.e.leaf,D F y.e.rights,Y y.e.used,Y y.e.dirty,D F y.e.frame,.slice A y.tabs.length c,.slice B y.tabs.length d] 206)).alloc (.cells #[D F fm.page,D F fm.size,D F fm.frame,D F fm.rights] 39);clear h2 x2;unfold uA;go_upto_region 4 with fail;generalize (w1.alloc (.cells #[D F y.lev,Y y.e.there,Y y.e.leaf,D F y.e.rights,Y y.e.used,Y y.e.dirty,D F y.e.frame,.slice A y.tabs.length c,.slice B y.tabs.length d] 206)).alloc (.cells #[D F fm.page,D F fm.size,D F fm.frame,D F fm.rights] 39)=w3 at*
   generalize w1.heap.size=X2 at*
   generalize w.heap.size=X0 at*
   have hNo:=HN.out;obtain⟨bA,hA1,-,-⟩:=da (h4.right.right) (k:=n) (by omega);have hpll:pls.length=y.tabs.length:=(cT h4.r3).symm;obtain⟨bB,hB1,-,-⟩:=da (h4.r3) (k:=n) (by omega);subst hA1;subst hB1;have hlen1:((y.tabs.length:Nat):Int) - 1=(n:Int):=by omega
   have h6:T w3 (ai f s*(aa (X2+1) #[D F fm.page,D F fm.size,D F fm.frame,D F fm.rights] 39*(aa X2 #[D F y.lev,Y y.e.there,Y y.e.leaf,D F y.e.rights,Y y.e.used,Y y.e.dirty,D F y.e.frame,.slice (C (J bA 0 z)) y.tabs.length c,.slice (C (J bB 0 z)) y.tabs.length d] 206*(ao (.slice (C (J bA 0 z)) y.tabs.length c) y.tabs*(ao (.slice (C (J bB 0 z)) y.tabs.length d) pls*(aa X0 #[D F 0,D F 0,D F 0,D F 0] 39*R)))))):=h4.eq (by ac_rfl);have HK:=H (fun(k:Nat) (hk:k<n+1) (w':U) (P Q:ab) (h:T w' (P*(Q*(aa X2 #[D F y.lev,Y y.e.there,Y y.e.leaf,D F y.e.rights,Y y.e.used,Y y.e.dirty,D F y.e.frame,.slice (C (J bA 0 z)) y.tabs.length c,.slice (C (J bB 0 z)) y.tabs.length d] 206*(ao (.slice (C (J bA 0 z)) y.tabs.length c) y.tabs*(ao (.slice (C (J bB 0 z)) y.tabs.length d) pls*(aa X0 #[D F 0,D F 0,D F 0,D F 0] 39*R)))))))=>(by
    have hno:=HN.out;obtain⟨b1,e1,l1,q1⟩:=da (h.r3) (k:=k) (by omega);have hpl2:pls.length=y.tabs.length:=(cT h.right.r3).symm;obtain⟨b2,e2,l2,q2⟩:=da (h.right.r3) (k:=k) (by omega);injection e1 with e1;injection e1 with e1
    injection e2 with e2;injection e2 with e2
    subst e1;subst e2;rw[(b9.1 (HTK.out k (by omega))).2] at q1;rw[(b9.1 (HPK.out k hk)).2] at q2;exact⟨h.right.right.cell 7,h.right.right.cell 8,q1,q2,h.right.right.lt,l1,l2⟩:w'.cell? (J X2 7 z)=C (.slice (C (J bA 0 z)) y.tabs.length c)∧w'.cell? (J X2 8 z)=C (.slice (C (J bB 0 z)) y.tabs.length d)∧w'.cell? (J bA k z)=C (D F (y.tabs.getD k 0))∧w'.cell? (J bB k z)=C (D F (ap p (3 - k:Nat)))∧X2<w'.heap.size∧bA<w'.heap.size∧bB<w'.heap.size))
   obtain⟨k7,k8,_,_,kl,_,_⟩:=HK.out n (by omega) _ _ _ h6;have HLN:=H hlen1;clear hNo hpll hlen1 h4;go_upto_region 5 with fail;go_cut [13] from 26 to 30 (fun s13 wx=>s13=D F n∧wx=w3)
   case first=>
    have hlen1:=HLN.out;go_wp2_with fail
    go_meet
    case rel=>exact⟨by first|rfl|(rw[←hlen1];done)|(rw[←hlen1];go_num),rfl⟩
   case rest=>
   obtain⟨rfl,hwr⟩:=hcut;replace hwr:=hwr.symm;subst hwr;clear k7 k8 kl;obtain⟨k7,k8,kA,kB,kl,lA,lB⟩:=HK.out n (by omega) _ _ _ h6;have hni:(n:Int)<y.tabs.length:=by have:=HN.out;omega
   have hn0:¬((n:Int)<0):=by omega
   have hS1:=H (HST.out s (fun _=>rfl) n (by omega));have HKn:=H (HK.out n (by omega));have HRS':=H HRS.out;have HRG':=H HRG.out;have hhas:∀u,(s.setW (y.tabs.getD n 0).toNat (ap p (3 - n:Nat)).toNat 0).has u=s.has u:=fun u=>rfl;have HHA:=H hhas;clear HRS HRG hhas;generalize s.setW (y.tabs.getD n 0).toNat (ap p (3 - n:Nat)).toNat 0=s1 at*
   generalize y.tabs.getD n 0=t at kA hS1 HKn;generalize ap p (3 - n:Nat)=ix at kB hS1 HKn;have h7:=h6.drew;have x7:=x4.drew;go_upto_region 6 with fail;go_region_held3 (fun w'=>w'.cell? (J X2 7 z)=C (.slice (C (J bA 0 z)) y.tabs.length c)∧w'.cell? (J X2 8 z)=C (.slice (C (J bB 0 z)) y.tabs.length d)∧w'.cell? (J bA n z)=C (D F t)∧w'.cell? (J bB n z)=C (D F ix)) (first|(with_reducible exact⟨(HKn.out _ _ _ h7).1,(HKn.out _ _ _ h7).2.1,(HKn.out _ _ _ h7).2.2.1,(HKn.out _ _ _ h7).2.2.2.1⟩)|(with_reducible exact⟨(HKn.out _ _ _ h8).1,(HKn.out _ _ _ h8).2.1,(HKn.out _ _ _ h8).2.2.1,(HKn.out _ _ _ h8).2.2.2.1⟩)|go_keep) (first|(go_at_call 154;(with_reducible refine(hS1.out _ _ h7).mono ?_);rintro e w8 ⟨rfl,h8,x8⟩))
   have x9:=x7.trans x8;have h9:T w8 (ao (.slice z 0 0) []*(ai f s1*(aa (X2+1) #[D F fm.page,D F fm.size,D F fm.frame,D F fm.rights] 39*(aa X2 #[D F y.lev,Y y.e.there,Y y.e.leaf,D F y.e.rights,Y y.e.used,Y y.e.dirty,D F y.e.frame,.slice (C (J bA 0 z)) y.tabs.length c,.slice (C (J bB 0 z)) y.tabs.length d] 206*(ao (.slice (C (J bA 0 z)) y.tabs.length c) y.tabs*(ao (.slice (C (J bB 0 z)) y.tabs.length d) pls*(aa X0 #[D F 0,D F 0,D F 0,D F 0] 39*R))))))):=bz h8;clear h6 x4 h7 x7 h8 x8 hS1 HKn k7 k8 kA kB kl lA lB hni hn0;go_wp2_with fail
   go_loopw [12,13] (fun t12 t13 wr=>∃(k:Nat) (σ:Ms) (g:List Int) (G:Option bs) (gc:Nat),k<n+1∧t13=D F k∧t12= .slice G g.length gc∧bL (∀u,σ.has u=s.has u)∧bL (rs=(kw p y.tabs k σ).1∧rg=g++(kw p y.tabs k σ).2)∧g.length+k≤n∧T wr (ao (.slice G g.length gc) g*(ai f σ*(aa (X2+1) #[D F fm.page,D F fm.size,D F fm.frame,D F fm.rights] 39*(aa X2 #[D F y.lev,Y y.e.there,Y y.e.leaf,D F y.e.rights,Y y.e.used,Y y.e.dirty,D F y.e.frame,.slice (C (J bA 0 z)) y.tabs.length c,.slice (C (J bB 0 z)) y.tabs.length d] 206*(ao (.slice (C (J bA 0 z)) y.tabs.length c) y.tabs*(ao (.slice (C (J bB 0 z)) y.tabs.length d) pls*(aa X0 #[D F 0,D F 0,D F 0,D F 0] 39*R)))))))∧b8 w wr) (fun _ t13 _=>(b6 t13).toNat)
   case atStart=>exact⟨n,s1,[],z,0,by omega,rfl,rfl,HHA,H ⟨HRS'.out,by rw[List.nil_append];exact HRG'.out⟩,by simp,h9,x9⟩
   case round=>
    clear h9 x9 HRS' HRG' HHA;obtain⟨k,σ,g,G,gc,hk,rfl,rfl,HHS,HCU,hgl,hr,hx⟩:=hrel;have hEk:=H (HEM.out σ HHS.out k hk);obtain⟨k7,k8,kA,kB,kl,lA,lB⟩:=HK.out k hk _ _ _ hr.right;have hki:(k:Int)<y.tabs.length:=by have:=HN.out;omega
    have hkn:¬((k:Int)<0):=by omega
    have hz:T _ (aa X0 #[D F 0,D F 0,D F 0,D F 0] 39*(ao (.slice G g.length gc) g*(ai f σ*(aa (X2+1) #[D F fm.page,D F fm.size,D F fm.frame,D F fm.rights] 39*(aa X2 #[D F y.lev,Y y.e.there,Y y.e.leaf,D F y.e.rights,Y y.e.used,Y y.e.dirty,D F y.e.frame,.slice (C (J bA 0 z)) y.tabs.length c,.slice (C (J bB 0 z)) y.tabs.length d] 206*(ao (.slice (C (J bA 0 z)) y.tabs.length c) y.tabs*(ao (.slice (C (J bB 0 z)) y.tabs.length d) pls*R))))))):=hr.eq (by ac_rfl);obtain⟨r0,r1,r2,r3⟩:=hz.cells4;obtain⟨q0,q1,q2,q3⟩:=hz.frees4;have rl:=hz.lt;obtain⟨m0,m1,m2,m3⟩:=hr.right.right.cells4;have ml:=hr.right.right.lt;by_cases hk0:k=0
    ·have hcut:=rK p y.tabs (k:=k) (s:=σ) (.inl hk0)
     subst hk0;have HF:=H (show rs=σ∧rg=g by have:=HCU.out;rw[hcut] at this;exact⟨this.1,by rw[this.2];simp⟩);clear hcut HCU hEk;go_wp2_with fail
     refine am (fun wz=>T wz (aa X0 #[D F fm.page,D F fm.size,D F fm.frame,D F fm.rights] 39*(ao (.slice G g.length gc) g*(ai f σ*(aa (X2+1) #[D F fm.page,D F fm.size,D F fm.frame,D F fm.rights] 39*(aa X2 #[D F y.lev,Y y.e.there,Y y.e.leaf,D F y.e.rights,Y y.e.used,Y y.e.dirty,D F y.e.frame,.slice (C (J bA 0 z)) y.tabs.length c,.slice (C (J bB 0 z)) y.tabs.length d] 206*(ao (.slice (C (J bA 0 z)) y.tabs.length c) y.tabs*(ao (.slice (C (J bB 0 z)) y.tabs.length d) pls*R)))))))∧b8 w wz) ⟨hz.set4 _ _ _ _,ah⟩ ?_;rintro wz ⟨hw,xw⟩;have hw2:T wz (ao (.slice (C (J bB 0 z)) y.tabs.length d) pls*(ao (.slice (C (J bA 0 z)) y.tabs.length c) y.tabs*(aa X2 #[D F y.lev,Y y.e.there,Y y.e.leaf,D F y.e.rights,Y y.e.used,Y y.e.dirty,D F y.e.frame,.slice (C (J bA 0 z)) y.tabs.length c,.slice (C (J bB 0 z)) y.tabs.length d] 206*(aa (X2+1) #[D F fm.page,D F fm.size,D F fm.frame,D F fm.rights] 39*(aa X0 #[D F fm.page,D F fm.size,D F fm.frame,D F fm.rights] 39*(ao (.slice G g.length gc) g*(ai f σ*R))))))):=hw.eq (by ac_rfl);exact Z (bg results98 rfl rfl rfl (bh hw)) rfl ⟨G,g.length,gc,rfl,by rw[HF.out.1,HF.out.2];exact hw2.right.right.r3,xw⟩
    ·obtain⟨j,hj⟩:∃j,k=j+1:=⟨k - 1,by omega⟩
     have hk0':(0:Int)< (k:Int):=by omega
     have hji:(k:Int) - 1=(j:Int):=by omega
     have HJ:=H hj;have hjn:j<n+1:=by omega
     clear hj;cases hez:fx σ (y.tabs.getD k 0) with
     |false=>
      have hcut:=rK p y.tabs (k:=k) (s:=σ) (.inr hez);have HF:=H (show rs=σ∧rg=g by have:=HCU.out;rw[hcut] at this;exact⟨this.1,by rw[this.2];simp⟩);rw[hez] at hEk;clear hcut HCU hez;generalize y.tabs.getD k 0=t at kA hEk;go_wp2_with fail
      refine(hEk.out _ _ hr.right).mono ?_;rintro e w2 ⟨rfl,rfl⟩;go_wp2_with fail
      refine am (fun wz=>T wz (aa X0 #[D F fm.page,D F fm.size,D F fm.frame,D F fm.rights] 39*(ao (.slice G g.length gc) g*(ai f σ*(aa (X2+1) #[D F fm.page,D F fm.size,D F fm.frame,D F fm.rights] 39*(aa X2 #[D F y.lev,Y y.e.there,Y y.e.leaf,D F y.e.rights,Y y.e.used,Y y.e.dirty,D F y.e.frame,.slice (C (J bA 0 z)) y.tabs.length c,.slice (C (J bB 0 z)) y.tabs.length d] 206*(ao (.slice (C (J bA 0 z)) y.tabs.length c) y.tabs*(ao (.slice (C (J bB 0 z)) y.tabs.length d) pls*R)))))))∧b8 w wz) ⟨hz.set4 _ _ _ _,ah⟩ ?_;rintro wz ⟨hw,xw⟩;have hw2:T wz (ao (.slice (C (J bB 0 z)) y.tabs.length d) pls*(ao (.slice (C (J bA 0 z)) y.tabs.length c) y.tabs*(aa X2 #[D F y.lev,Y y.e.there,Y y.e.leaf,D F y.e.rights,Y y.e.used,Y y.e.dirty,D F y.e.frame,.slice (C (J bA 0 z)) y.tabs.length c,.slice (C (J bB 0 z)) y.tabs.length d] 206*(aa (X2+1) #[D F fm.page,D F fm.size,D F fm.frame,D F fm.rights] 39*(aa X0 #[D F fm.page,D F fm.size,D F fm.frame,D F fm.rights] 39*(ao (.slice G g.length gc) g*(ai f σ*R))))))):=hw.eq (by ac_rfl);exact Z (bg results98 rfl rfl rfl (bh hw)) rfl ⟨G,g.length,gc,rfl,by rw[HF.out.1,HF.out.2];exact hw2.right.right.r3,xw⟩
     |true=>
      have hcut:=uu p y.tabs (k:=k) (j:=j) (s:=σ) HJ.out hez;rw[hez] at hEk;have HCU':=H (show rs=(kw p y.tabs j (σ.setW (y.tabs.getD j 0).toNat (ap p (3 - j:Nat)).toNat 0)).1∧rg=(g++[y.tabs.getD k 0])++(kw p y.tabs j (σ.setW (y.tabs.getD j 0).toNat (ap p (3 - j:Nat)).toNat 0)).2 by
       have:=HCU.out;rw[hcut] at this;exact⟨this.1,by rw[this.2];simp⟩)
      have hSj:=H (HST.out σ HHS.out j hjn);have HKj:=H (HK.out j hjn);have HKk:=H (HK.out k hk);have HHS':=H (show∀u,(σ.setW (y.tabs.getD j 0).toNat (ap p (3 - j:Nat)).toNat 0).has u=s.has u from HHS.out);clear hcut HCU hez HHS;generalize σ.setW (y.tabs.getD j 0).toNat (ap p (3 - j:Nat)).toNat 0=σ' at*
      obtain⟨j7,j8,jA,jB,_,_,_⟩:=HKj.out _ _ _ hr.right;generalize y.tabs.getD k 0=t at kA hEk HCU' HKk;generalize y.tabs.getD j 0=tj at jA hSj HKj;generalize ap p (3 - j:Nat)=ij at jB hSj HKj;generalize ap p (3 - k:Nat)=ik at kB HKk;have hjl:(j:Int)<y.tabs.length:=by have:=HN.out;omega
      have hj0:¬((j:Int)<0):=by omega
      have hj00:(0:Int)≤(j:Int):=by omega
      have hj3:j≤3:=by omega
      have hwj:IntKind.i64.wrap (j:Int)=(j:Int):=by rw[bi];omega
      have hwk:IntKind.i64.wrap ((k:Int) - 1)=(j:Int):=by rw[hji];exact hwj
      go_wp2_with fail
      refine(hEk.out _ _ hr.right).mono ?_;rintro e w2 ⟨rfl,rfl⟩;have h7:T _ (ai f σ*((ao (.slice G g.length gc) g*aa (X2+1) #[D F fm.page,D F fm.size,D F fm.frame,D F fm.rights] 39)*(aa X2 #[D F y.lev,Y y.e.there,Y y.e.leaf,D F y.e.rights,Y y.e.used,Y y.e.dirty,D F y.e.frame,.slice (C (J bA 0 z)) y.tabs.length c,.slice (C (J bB 0 z)) y.tabs.length d] 206*(ao (.slice (C (J bA 0 z)) y.tabs.length c) y.tabs*(ao (.slice (C (J bB 0 z)) y.tabs.length d) pls*(aa X0 #[D F 0,D F 0,D F 0,D F 0] 39*R)))))):=(hr.eq (by ac_rfl)).drew;have x7:=hx.drew;go_upto_region 9 with fail;go_region_held3 (fun w'=>w'.cell? (J X2 7 z)=C (.slice (C (J bA 0 z)) y.tabs.length c)∧w'.cell? (J X2 8 z)=C (.slice (C (J bB 0 z)) y.tabs.length d)∧w'.cell? (J bA j z)=C (D F tj)∧w'.cell? (J bB j z)=C (D F ij)) (first|(with_reducible exact⟨(HKj.out _ _ _ h7).1,(HKj.out _ _ _ h7).2.1,(HKj.out _ _ _ h7).2.2.1,(HKj.out _ _ _ h7).2.2.2.1⟩)|(with_reducible exact⟨(HKj.out _ _ _ h8).1,(HKj.out _ _ _ h8).2.1,(HKj.out _ _ _ h8).2.2.1,(HKj.out _ _ _ h8).2.2.2.1⟩)|go_keep) (first|(go_at_call 154;(with_reducible refine(hSj.out _ _ h7).mono ?_);rintro e w8 ⟨rfl,h8,x8⟩))
      have x9:=x7.trans x8;have h9:T w8 (ct 3 1 (.slice G g.length gc) g.length (g.map (D F))*(ai f σ'*(aa (X2+1) #[D F fm.page,D F fm.size,D F fm.frame,D F fm.rights] 39*(aa X2 #[D F y.lev,Y y.e.there,Y y.e.leaf,D F y.e.rights,Y y.e.used,Y y.e.dirty,D F y.e.frame,.slice (C (J bA 0 z)) y.tabs.length c,.slice (C (J bB 0 z)) y.tabs.length d] 206*(ao (.slice (C (J bA 0 z)) y.tabs.length c) y.tabs*(ao (.slice (C (J bB 0 z)) y.tabs.length d) pls*(aa X0 #[D F 0,D F 0,D F 0,D F 0] 39*R))))))):=h8.eq (by unfold ao;ac_rfl);obtain⟨k7',k8',kA',kB',kl',lA',lB'⟩:=HKk.out _ _ _ h8;clear hr hx hz r0 r1 r2 r3 q0 q1 q2 q3 rl m0 m1 m2 m3 ml k7 k8 kA kB kl lA lB j7 j8 jA jB h7 x7 h8 x8 hEk hSj;have hrow:=h9.alloc (.cells #[D F t] 3);go_wp2_with(first|(at_builtin;refine aV rfl _ _ 45 rfl underlying45 fK _ _ _ rfl hrow (J w8.heap.size 0 z) 1 1 [D F t] rfl rfl (dU w8 (D F t) 3) ?c1 ?c2 ?c3 ?_))
      case c1=>intro u hu;simp at hu;subst hu;rfl
      case c2=>unfold maxLen;omega
      case c3=>omega
      intro v' w10 h10 x10;obtain⟨G',gc',rfl⟩:=h10.rowForm;go_wp2_with fail
      go_roundw
      case rel=>exact⟨j,σ',g++[t],G',gc',hjn,by go_num,by simp,HHS',HCU',by simp;have:=HJ.out;omega,by unfold ao;simp only[N,List.length_singleton,List.map_append,List.map_cons,List.map_nil];exact h10,(x9.alloc _).trans x10⟩
      case measure=>have:=HJ.out;simp[b6];omega
  ·exact absurd rfl hfc
 ·have hrs:dm s root p=s:=by unfold dm;rw[if_neg hfc]
  have hrg:fy s root p=[]:=by unfold fy;rw[if_neg hfc]
  have hm:bK s root p=Mp.zero:=by unfold bK;rw[if_neg hfc]
  have hn:(bu s root p !=0)=ad:=by simpa using hfc
  have HF:=H (And.intro hrs (And.intro hrg hm));generalize bu s root p=fc at*
  generalize dm s root p=rs at*
  generalize fy s root p=rg at*
  generalize bK s root p=fm at*
  clear hrs hrg hm h;go_enter func98,ntmps98;go_wp2_with fail
  refine W1.out.mono ?_;rintro e w1 hF;rcases hF with ⟨h0',_⟩|⟨_,rfl,b1⟩
  ·exact absurd h0' hfc
  ·have h1:=h0.below b1
   have x1:=x0.below b1;clear h0 x0 b1 W1 hfc;have h4:T _ (aa w.heap.size #[D F 0,D F 0,D F 0,D F 0] 39*(ai f s*(aa (w1.heap.size+1) #[D F 0,D F 0,D F 0,D F 0] 39*(aa w1.heap.size #[D F 0,Y M,Y M,D F 0,Y M,Y M,D F 0,.slice z 0 0,.slice z 0 0] 206*R)))):=((h1.new #[D F 0,Y M,Y M,D F 0,Y M,Y M,D F 0,.slice z 0 0,.slice z 0 0] 206).new #[D F 0,D F 0,D F 0,D F 0] 39).eq (by simp only[a7];ac_rfl);have x4:=(x1.alloc (.cells #[D F 0,Y M,Y M,D F 0,Y M,Y M,D F 0,.slice z 0 0,.slice z 0 0] 206)).alloc (.cells #[D F 0,D F 0,D F 0,D F 0] 39);clear h1 x1;unfold uz;go_upto_region 2 with fail;generalize (w1.alloc (.cells #[D F 0,Y M,Y M,D F 0,Y M,Y M,D F 0,.slice z 0 0,.slice z 0 0] 206)).alloc (.cells #[D F 0,D F 0,D F 0,D F 0] 39)=w3 at*
   generalize w1.heap.size=X2 at*
   generalize w.heap.size=X0 at*
   obtain⟨r0,r1,r2,r3⟩:=h4.cells4;obtain⟨q0,q1,q2,q3⟩:=h4.frees4;have rl:=h4.lt;go_wp2_with fail
   refine am (fun wz=>T wz (aa X0 #[D F 0,D F 0,D F 0,D F 0] 39*(ai f s*(aa (X2+1) #[D F 0,D F 0,D F 0,D F 0] 39*(aa X2 #[D F 0,Y M,Y M,D F 0,Y M,Y M,D F 0,.slice z 0 0,.slice z 0 0] 206*R))))∧b8 w wz) ⟨h4.set4 _ _ _ _,ah⟩ ?_;rintro wz ⟨hw,xw⟩;have hw2:T wz (aa (X2+1) #[D F 0,D F 0,D F 0,D F 0] 39*(aa X2 #[D F 0,Y M,Y M,D F 0,Y M,Y M,D F 0,.slice z 0 0,.slice z 0 0] 206*(ai f s*R))):=hw.right.eq (by ac_rfl);exact Z (bg results98 rfl rfl rfl (bh hw)) rfl ⟨z,0,0,by rw[HF.out.2.2];rfl,by rw[HF.out.1,HF.out.2.1];exact bz hw2.right.right,xw⟩
structure Ab (v:lu):Prop where
 l0:0≤v.lev
 l3:v.lev≤3
 a0:0≤v.at_
 a4:v.at_*aw v.lev.toNat<4096
def lS:Nat→Nat|0=>0|L+1=>jI L
theorem wK(L:Nat):jI L=8*(1+lS L):=by
 cases L with
 |zero=>rfl
 |succ L=>show 8+8*jI L=8*(1+jI L);omega
theorem p5{i:Nat}(h:i<8):List.range' i (8 - i)=i::List.range' (i+1) (8 - (i+1)):=by
 rw[show 8 - i=(8 - (i+1))+1 by omega,List.range'_succ]
theorem uN{s:Ms}{L:Nat}{t a:Int}{sub:Int→Int→Vs}{i:Nat}{is:List Nat}(h:br (av s t i) L≠0):dp s L t a sub (i::is)=⟨br (av s t i) L,[]⟩:=by
 rw[dp,if_pos h]
theorem rc{s:Ms}{L:Nat}{t a:Int}{sub:Int→Int→Vs}{i:Nat}{is:List Nat}(h:br (av s t i) L=0)(hn:¬((aD (av s t i) L).there =ad∧(aD (av s t i) L).leaf =M)):
  dp s L t a sub (i::is)=⟨(dp s L t a sub is).code,⟨t,L,a*8+i,aD (av s t i) L⟩::(dp s L t a sub is).vs⟩:=by
 rw[dp,if_neg (by rw[h];simp)];dsimp only;rw[if_neg hn];simp
theorem uO{s:Ms}{L:Nat}{t a:Int}{sub:Int→Int→Vs}{i:Nat}{is:List Nat}(h:br (av s t i) L=0)(hn:(aD (av s t i) L).there =ad∧(aD (av s t i) L).leaf =M)
  (hc:(sub (aD (av s t i) L).frame (a*8+i)).code =0):
  dp s L t a sub (i::is)=⟨(dp s L t a sub is).code,⟨t,L,a*8+i,aD (av s t i) L⟩::((sub (aD (av s t i) L).frame (a*8+i)).vs ++(dp s L t a sub is).vs)⟩:=by
 rw[dp,if_neg (by rw[h];simp)];dsimp only;rw[if_pos hn,if_neg (by rw[hc];simp)]
theorem p6{s:Ms}{L:Nat}{t a:Int}{sub:Int→Int→Vs}{i:Nat}{is:List Nat}(h:br (av s t i) L=0)(hn:(aD (av s t i) L).there =ad∧(aD (av s t i) L).leaf =M)
  (hc:(sub (aD (av s t i) L).frame (a*8+i)).code ≠0):
  dp s L t a sub (i::is)=⟨(sub (aD (av s t i) L).frame (a*8+i)).code,⟨t,L,a*8+i,aD (av s t i) L⟩::(sub (aD (av s t i) L).frame (a*8+i)).vs⟩:=by
 rw[dp,if_neg (by rw[h];simp)];dsimp only;rw[if_pos hn,if_pos hc]
theorem yx{L:Nat}{a:Int}{i:Nat}(hL:L≤3)(h0:0≤a)(h:a*aw (L+1)<4096)(hi:i<8):0≤a*8+i∧(a*8+i)*aw L<4096∧a<4096:=by
 refine⟨by omega,Az hL h0 h hi,?_⟩;have hp:=eF (L+1);have:a*1≤a*aw (L+1):=Int.mul_le_mul_of_nonneg_left (by omega) h0;omega
section
variable (f:Nat) (s:Ms) (hs:s.Ok) (g:Nat) (cap:Array bb) (eg:∀args w,(callFunc g args).run prog w= .ok (.enter g args) w) (I:List lu→ab) (B:Nat)
 (hsee:∀(P:ab) (vs:List lu) (v:lu) (W:U),Ab v→vs.length<B→T W (I vs*P)→
  a5 prog g (#[D F v.t,D F v.lev,D F v.at_,.agg #[Y v.e.there,Y v.e.leaf,D F v.e.rights,Y v.e.used,Y v.e.dirty,D F v.e.frame]]++cap) W (cR (.tuple #[]) (I (vs++[v])*P) W))
include hs eg hsee
def rd(L:Nat):Prop:=∀(R:ab) (t a:Int) (vs0:List lu) (w:U),0≤a→a*aw (L+1)<4096→vs0.length+jI L≤B→T w (I vs0*(ai f s*R))→
  a5 prog 130 #[.pointer (C (J f 0 z)),D F t,D F L,D F a,.func (.func g) #[] cap] w (cR (D F (cu s L t a).code) (I (vs0++(cu s L t a).vs)*(ai f s*R)) w)
set_option maxHeartbeats 4000000 in
theorem nY(L:Nat)(hL:L≤3)(ih:∀K,L=K+1→rd f s g cap I B K):rd f s g cap I B L:=by
  intro R t a vs0 w ha ha4 hB h;have IH:=H ih;clear ih;have HSEE:=H hsee;have hmo:=wK L;go_enter func130,ntmps130;go_wp2_with fail
  go_loopw [18] (fun s18 wr=>∃(i:Nat) (vs:List lu),i≤8∧s18=D F i∧vs.length≤i*(1+lS L)∧(0<i→s.has t=ad)∧
    bL (s.has t=ad→cu s L t a=⟨(dp s L t a (gW s L) (List.range' i (8 - i))).code,vs++(dp s L t a (gW s L) (List.range' i (8 - i))).vs⟩)∧
    T wr (I (vs0++vs)*(ai f s*R))∧b8 w wr) (fun s18 _=>8 - (b6 s18).toNat)
  case atStart=>
   refine⟨0,[],by omega,rfl,by simp,fun h=>by omega,H fun ht=> ?_,by simpa using h,a6 _⟩;rw[iX,if_neg (by rw[ht];simp),List.range_eq_range'];rfl
  case round=>
   clear h;obtain⟨i,vs,hi,rfl,hvl,hti,HE,hr,hx⟩:=hrel;by_cases hlt:i<8
   ·have hLD:=rZ f s t i _ wr hr.p2
    cases ht:s.has t with
    |false=>
     have hi0:i=0:=by
      rcases Nat.eq_zero_or_pos i with h|h
      ·exact h
      ·rw[hti h] at ht;cases ht
     subst hi0;have hv0:vs=[]:=List.eq_nil_of_length_eq_zero (by omega);subst hv0;have hy:=H (show cu s L t a=⟨12,[]⟩ by rw[iX,if_pos ht]);have hw:s.hasW t ((0:Nat):Int)=M:=by unfold Ms.hasW;rw[ht];rfl
     rw[hw] at hLD;clear hw ht hti HE;generalize eh s t ((0:Nat):Int)=v at*
     go_wp2_with fail
     refine hLD.mono ?_;rintro e w2 ⟨rfl,rfl⟩;go_wp2_with fail
     go_ret;rw[hy.out];exact⟨rfl,hr,hx⟩
    |true=>
     have hw:s.hasW t (i:Int)=ad:=jb.2 ⟨ht,by omega,by omega⟩;have hlv:eh s t (i:Int)=av s t i:=by unfold eh av;rw[if_pos hw]
     rw[hw,hlv] at hLD;clear hw hlv;have hb:=hs.inv.wok t.toNat ((i:Int)).toNat;have HD:=H (fun W=>kt (av s t i) L W hb.1 hb.2);clear hb;have hEq:=HE.out ht;rw[p5 hlt] at hEq;have HEQ:=H hEq;clear hEq HE hti;have HT:=H ht;clear ht;obtain⟨hat0,hat4,ha6⟩:=yx hL ha ha4 hlt;have hm1:IntKind.i64.wrap (a*8)=a*8:=by rw[bi];omega
     have hm2:IntKind.i64.wrap (a*8+i)=a*8+i:=by rw[bi];omega
     by_cases hc:br (av s t i) L=0
     case neg=>
      have hy:=H (show cu s L t a=⟨br (av s t i) L,vs⟩ by rw[HEQ.out,uN hc];simp);have hv:=H (dh (w:=av s t i) (l:=L) rfl (.inl hc));rw[hv.out] at HD;have hn:(br (av s t i) L !=0)=ad:=by simpa using hc
      clear hv hc HEQ;generalize br (av s t i) L=code at*
      generalize av s t i=v at*
      go_wp2_with fail
      refine hLD.mono ?_;rintro e w2 ⟨rfl,rfl⟩;go_wp2_with fail
      refine(HD.out _).mono ?_;rintro e w2 ⟨rfl,b2⟩;go_wp2_with fail
      go_ret;rw[hy.out];exact⟨rfl,(hr.below b2).alloc _,(hx.below b2).alloc _⟩
     have hp1:=H (fun hn=>rc (a:=a) (sub:=gW s L) (is:=List.range' (i+1) (8 - (i+1))) hc hn);have hp2:=H (fun hn hk=>uO (a:=a) (sub:=gW s L) (is:=List.range' (i+1) (8 - (i+1))) hc hn hk);have hp3:=H (fun hn hk=>p6 (a:=a) (sub:=gW s L) (is:=List.range' (i+1) (8 - (i+1))) hc hn hk);have hv:=H (show fv (av s t i) L= .tuple #[.agg #[Y (aD (av s t i) L).there,Y (aD (av s t i) L).leaf,D F (aD (av s t i) L).rights,Y (aD (av s t i) L).used,Y (aD (av s t i) L).dirty,D F (aD (av s t i) L).frame],D F 0] by unfold fv;rw[hc]);rw[hv.out] at HD;have hK:=H (show(aD (av s t i) L).there =ad∧(aD (av s t i) L).leaf =M→∃K,L=K+1 by
      intro hn;cases L with
      |zero=>
       rcases eP hc with h|h
       ·have:=hn.1.symm.trans h
        cases this
       ·have:=hn.2.symm.trans h
        cases this
      |succ K=>exact⟨K,rfl⟩)
     clear hv hc;have hvis:Ab ⟨t,L,a*8+i,aD (av s t i) L⟩:=⟨by show(0:Int)≤(L:Int);omega,by show(L:Int)≤3;omega,hat0,hat4⟩;have HS:=fun P=>HSEE.out P (vs0++vs) ⟨t,L,a*8+i,aD (av s t i) L⟩;generalize aD (av s t i) L=e at*
     have hbnd:(vs0++vs).length <B:=by
      have h1:=Nat.mul_le_mul_right (1+lS L) (show i≤7 by omega);have h2:8*(1+lS L)=7*(1+lS L)+(1+lS L):=by omega
      rw[N];omega
     generalize av s t i=v at*
     have HSA:=H (fun P W hW=>HS P W hvis hbnd hW);clear HS hvis hbnd;go_wp2_with fail
     refine hLD.mono ?_;rintro e2 w2 ⟨rfl,rfl⟩;go_wp2_with fail
     refine(HD.out _).mono ?_;rintro e2 w2 ⟨rfl,b2⟩;have h2:=hr.below b2;have x2:=hx.below b2;have h3:=(h2.new #[Y e.there,Y e.leaf,D F e.rights,Y e.used,Y e.dirty,D F e.frame] 70);have x3:=x2.alloc (.cells #[Y e.there,Y e.leaf,D F e.rights,Y e.used,Y e.dirty,D F e.frame] 70);have h3:=h3.p2;clear hLD HD hr hx h2 x2 b2;go_wp2_with fail
     refine(HSA.out _ _ h3).mono ?_;rintro e2 w5 ⟨rfl,h5,x5⟩;have x5:=x3.trans x5;obtain⟨e0,e1,e2',e3,e4,e5⟩:=h5.right.cells6;have el:=h5.right.lt;have hlen1:i*(1+lS L)+(1+lS L)=(i+1)*(1+lS L):=by rw[Nat.add_mul,Nat.one_mul]
     have hv1:vs0++vs++[⟨t,L,a*8+i,e⟩]=vs0++(vs++[⟨t,L,a*8+i,e⟩]):=List.append_assoc _ _ _;have HV1:=H hv1;clear hv1 h3 x3;by_cases hn:e.there=ad∧e.leaf=M
     ·obtain⟨K,hLK⟩:=hK.out hn
      have hLKH:=H hLK;have hwr:IntKind.i64.wrap ((L:Int) - 1)=(K:Int):=by rw[bi];omega
      have hlv:vs.length≤7*(1+lS L):=Nat.le_trans hvl (Nat.mul_le_mul_right _ (by omega));have hIH:=IH.out K hLK _ e.frame (a*8+i) (vs0++(vs++[⟨t,(L:Int),a*8+i,e⟩])) w5 hat0 (by rw[←hLKH.out];exact hat4) (by
       have hsm:lS L=jI K:=by rw[hLKH.out];rfl
       rw[N,N,List.length_singleton];omega) (by
       rw[←HV1.out];exact h5.eq (by rw[ay (aa _ _ _)]))
      have hsub:gW s L=cu s K:=by rw[hLKH.out];rfl
      have HP2:=H (fun hk=>hp2.out hn hk);have HP3:=H (fun hk=>hp3.out hn hk);rw[←hsub] at hIH;have hrl:=H (show(gW s L e.frame (a*8+i)).vs.length ≤jI K by rw[hsub];exact nU s K e.frame (a*8+i));clear hLK hsub;obtain⟨n1,n2⟩:=hn;generalize gW s L e.frame (a*8+i)=r at*
      go_wp2_with fail
      refine hIH.mono ?_;rintro e2 w6 ⟨rfl,h6,x6⟩;have x6:=x5.trans x6;by_cases hk:r.code=0
      ·have hfin:=H (HP2.out hk)
       go_wp2_with fail
       go_roundw
       case rel=>
        refine⟨i+1,vs++(⟨t,(L:Int),a*8+i,e⟩::r.vs),by omega,by go_num,?_,by intros;first|trivial|exact HT.out,H fun _=> ?_,?_,x6⟩
        ·have:=hrl.out
         have hsm:lS L=jI K:=by rw[hLKH.out];rfl
         rw[N,List.length_cons];omega
        ·rw[HEQ.out,hfin.out]
         simp
        ·have h7:=h6.p2.p2
         have e7:vs0++(vs++[⟨t,(L:Int),a*8+i,e⟩])++r.vs=vs0++(vs++(⟨t,(L:Int),a*8+i,e⟩::r.vs)):=by simp
         rw[e7] at h6;exact h6.drop3
       case measure=>simp[b6];omega
      ·have hfin:=H (HP3.out hk)
       have hkn:(r.code !=0)=ad:=by simpa using hk
       go_wp2_with fail
       go_ret;rw[HEQ.out,hfin.out];have e7:vs0++(vs++[⟨t,(L:Int),a*8+i,e⟩])++r.vs=vs0++(vs++(⟨t,(L:Int),a*8+i,e⟩::r.vs)):=by simp
       rw[e7] at h6;exact⟨rfl,h6.drop3,x6⟩
     ·have hfin:=H (hp1.out hn)
      rw[HV1.out] at h5;have hcase:e.there=M∨(e.there=ad∧e.leaf=ad):=by
       cases h1:e.there<;>cases h2:e.leaf<;>simp_all
      have hround:∀wz,T wz (I (vs0++(vs++[⟨t,(L:Int),a*8+i,e⟩]))*(aa w2.heap.size #[Y e.there,Y e.leaf,D F e.rights,Y e.used,Y e.dirty,D F e.frame] 70*(ai f s*R)))→T wz (I (vs0++(vs++[⟨t,(L:Int),a*8+i,e⟩]))*(ai f s*R)):=fun _ h=>h.p2.right;have HR:=H hround;clear hround hn;rcases hcase with h1|⟨h1,h2⟩
      ·go_wp2_with fail
       go_roundw
       case rel=>
        refine⟨i+1,vs++[⟨t,(L:Int),a*8+i,e⟩],by omega,by go_num,by rw[N,List.length_singleton];omega,by intros;first|trivial|exact HT.out,H fun _=> ?_,HR.out _ h5,x5⟩;rw[HEQ.out,hfin.out];simp
       case measure=>simp[b6];omega
      ·go_wp2_with fail
       go_roundw
       case rel=>
        refine⟨i+1,vs++[⟨t,(L:Int),a*8+i,e⟩],by omega,by go_num,by rw[N,List.length_singleton];omega,by intros;first|trivial|exact HT.out,H fun _=> ?_,HR.out _ h5,x5⟩;rw[HEQ.out,hfin.out];simp
       case measure=>simp[b6];omega
   ·obtain rfl:i=8:=by omega
    have hy:=H (HE.out (hti (by omega)));go_wp2_with fail
    go_ret;rw[hy.out];exact⟨rfl,by simpa [dp] using hr,hx⟩
theorem mR:∀(L:Nat),L≤3→rd f s g cap I B L
 |0,h=>nY f s hs g cap eg I B hsee 0 h fun _ e=>by cases e
 |L+1,h=>nY f s hs g cap eg I B hsee (L+1) h fun K e=>by
  obtain rfl:L=K:=by omega
  exact mR L (by omega)
end
def mpZero:bb:= .agg #[D F 0,D F 0,D F 0,D F 0]
theorem re:jD prog 39 mpZero 4 32:=⟨by kernel_rfl,rfl,by omega⟩
theorem iR(x:Mp):x.cells.length=4:=rfl
def a9(l:List Mp):List bb:=fW Mp.cells l
theorem dL(l:List Mp):(a9 l).length =l.length*4:=qq iR l
theorem lN(l:List Mp)(m:Mp):a9 (l++[m])=a9 l++m.cells:=by unfold a9;rw[iH];simp[fW]
def cK(v:bb)(l:List Mp):ab:=ct 39 4 v l.length (a9 l)
theorem p7(x:Mp):∀u∈x.cells,u.oneCell'=ad:=by
 intro u hx;simp[Mp.cells] at hx;rcases hx with rfl|rfl|rfl|rfl<;>rfl
theorem jp(l:List Mp):∀u∈a9 l,u.oneCell'=ad:=by
 intro u hu;unfold a9 fW at hu;obtain⟨x,_,hx⟩:=List.mem_flatMap.1 hu;exact p7 x u hx
theorem fk(a b:List Mp):a9 (a++b)=a9 a++a9 b:=iH a b
theorem dI{w:U}{R:ab}{A:Option bs}{n c:Nat}{l:List Mp}(h:T w (cK (.slice A n c) l*R)):n=l.length:=by
 rcases(bD (e:=39) (size:=4) h) with ⟨hv,h0,_⟩|⟨g,cap,cur,hv,_⟩
 ·injection hv with a b
  omega
 ·injection hv
theorem iv{w:U}{R:ab}{A:Option bs}{n c:Nat}{l:List Mp}(h:T w (cK (.slice A n c) l*R)):n≤9223372036854775807:=by
 obtain rfl:=dI h;exact(cg (e:=39) (size:=4) h).2
theorem eT{w:U}{R:ab}{A:Option bs}{n c:Nat}{l:List Mp}(h:T w (cK (.slice A n c) l*R)){k:Nat}(hk:k<l.length):
  ∃b,A=C (J b 0 z)∧b<w.heap.size∧
   (w.cell? ⟨b,k*4,z⟩=C (D F l[k].page)∧w.cell? ⟨b,k*4+1,z⟩=C (D F l[k].size)∧w.cell? ⟨b,k*4+2,z⟩=C (D F l[k].frame)∧w.cell? ⟨b,k*4+3,z⟩=C (D F l[k].rights)):=by
 obtain rfl:=dI h;have g:=fun t (ht:t<4)=>bk (e:=39) (size:=4) h (i:=k*4+t) (u:=(l[k].cells[t]'(by rw[iR];exact ht))) (by
  have:=lc (cells:=Mp.cells) iR hk ht;rw[ax (l:=l[k].cells) (by rw[iR];exact ht)] at this;exact this)
 obtain⟨b,rfl,hb,c0,_⟩:=g 0 (by omega);obtain⟨b1,e1,_,c1,_⟩:=g 1 (by omega);obtain⟨b2,e2,_,c2,_⟩:=g 2 (by omega);obtain⟨b3,e3,_,c3,_⟩:=g 3 (by omega);injection e1 with e1;injection e1 with e1;subst e1
 injection e2 with e2;injection e2 with e2;subst e2
 injection e3 with e3;injection e3 with e3;subst e3
 exact⟨b,rfl,hb,c0,c1,c2,c3⟩
def ke(O:Nat)(vs:List lu):ab:=ex fun A=>ex fun c=>aa O #[.slice A (bR vs).length c] 44*cK (.slice A (bR vs).length c) (bR vs)
theorem mS{O:Nat}{vs:List lu}{P:ab}{w:U}(h:T w (ke O vs*P)):∃A c,T w (aa O #[.slice A (bR vs).length c] 44*(cK (.slice A (bR vs).length c) (bR vs)*P)):=by
 unfold ke at h;obtain⟨A,h⟩:=aF.1 h;obtain⟨c,h⟩:=aF.1 h;exact⟨A,c,h.a1⟩
theorem kD{O c:Nat}{A:Option bs}{vs:List lu}{P:ab}{w:U}(h:T w (aa O #[.slice A (bR vs).length c] 44*(cK (.slice A (bR vs).length c) (bR vs)*P))):T w (ke O vs*P):=by
 unfold ke;exact aF.2 ⟨A,aF.2 ⟨c,h.a2⟩⟩
theorem rf(vs:List lu):(bR vs).length ≤vs.length:=List.length_filterMap_le _ _
theorem rh(vs:List lu):(bU vs).length ≤vs.length:=List.length_filterMap_le _ _
theorem ti{i j:Nat}(h:i≤j):aw i≤aw j:=by
 induction h with
 |refl=>exact Int.le_refl _
 |step _ ih=>rw[eD];have:=eF i;omega
set_option maxHeartbeats 2000000 in
theorem AE(O:Nat)(P:ab)(vs:List lu)(v:lu)(W:U)(hv:Ab v)(hl:vs.length<5000)(h:T W (ke O vs*P)):
  a5 prog 131 #[D F v.t,D F v.lev,D F v.at_,.agg #[Y v.e.there,Y v.e.leaf,D F v.e.rights,Y v.e.used,Y v.e.dirty,D F v.e.frame],.pointer (C (J O 0 z))] W (cR (.tuple #[]) (ke O (vs++[v])*P) W):=by
 obtain⟨A,c,h⟩:=mS h;have hml:=rf vs;obtain⟨t,lev,at_,⟨th,lf,rg,us,di,fr⟩⟩:=v;obtain⟨l0,l3,ha0,ha4⟩:=hv;dsimp only at*
 have h1:=h.new #[Y th,Y lf,D F rg,Y us,Y di,D F fr] 70;have x1:=(a6 W).alloc (.cells #[Y th,Y lf,D F rg,Y us,Y di,D F fr] 70);obtain⟨e0,e1,e2,e3,e4,e5⟩:=h1.cells6;have el:=h1.lt;cases lf with
 |false=>
  have hm:bR (vs++[⟨t,lev,at_,⟨th,M,rg,us,di,fr⟩⟩])=bR vs:=by rw[iN];simp[bR]
  have hfin:T (W.alloc (.cells #[Y th,Y M,D F rg,Y us,Y di,D F fr] 70)) (ke O (vs++[⟨t,lev,at_,⟨th,M,rg,us,di,fr⟩⟩])*P):=by
   refine kD (A:=A) (c:=c) ?_;rw[hm];exact h1.right
  go_enter func131,ntmps131;go_wp2_with fail
  exact Z (v:= .tuple #[]) (by simp[results,results131]) rfl ⟨rfl,hfin,x1⟩
 |true=>
  obtain⟨k,rfl⟩:=Int.eq_ofNat_of_zero_le l0;have hk3:k≤3:=by omega
  rw[Int.toNat_natCast] at ha4;have hm:=H (show bR (vs++[⟨t,k,at_,⟨th,ad,rg,us,di,fr⟩⟩])=bR vs++[aB ⟨th,ad,rg,us,di,fr⟩ k (at_*aw k)] by rw[iN];simp[bR]);have HE:=H (kv ⟨th,ad,rg,us,di,fr⟩ k (at_*aw k));generalize aB ⟨th,ad,rg,us,di,fr⟩ k (at_*aw k)=m at*
  go_enter func131,ntmps131;go_wp2_with fail
  go_loopw [9,14] (fun s9 s14 wr=>∃j:Nat,j≤k∧s14=D F j∧s9=D F (at_*aw j)∧(W.alloc (.cells #[Y th,Y ad,D F rg,Y us,Y di,D F fr] 70))=wr) (fun _ s14 _=>k - (b6 s14).toNat)
  case atStart=>exact⟨0,Nat.zero_le _,rfl,by simp[aw],rfl⟩
  case round=>
   obtain⟨j,hj,rfl,rfl,rfl⟩:=hrel;by_cases hlt:j<k
   ·have hpw:at_*aw j*8=at_*aw (j+1):=by rw[eD,Int.mul_assoc,Int.mul_comm (aw j) 8]
    have hle:at_*aw (j+1)≤at_*aw k:=Int.mul_le_mul_of_nonneg_left (ti (by omega)) ha0;have hge:0≤at_*aw (j+1):=Int.mul_nonneg ha0 (Int.le_of_lt (eF _));have hwr:IntKind.i64.wrap (at_*aw j*8)=at_*aw (j+1):=by rw[hpw,bi];omega
    clear hpw hle hge;go_wp2_with fail
    go_roundw
    case rel=>exact⟨j+1,by omega,by go_num,rfl,trivial⟩
    case measure=>simp[b6];omega
   ·obtain rfl:j=k:=by omega
    have c0:(W.alloc (.cells #[Y th,Y ad,D F rg,Y us,Y di,D F fr] 70)).cell? (J O 0 z)=C (.slice A (bR vs).length c):=h1.right.cell 0;generalize at_*aw j=pg at*
    generalize W.alloc _=w4 at*
    generalize W.heap.size=E at*
    go_wp2_with fail
    refine iV (S:=fun L w'=>Till 6 0 (fun w'=>w'.cell? (J O 0 z)=C (.slice A (bR vs).length c)) L w'∧Till 4 1 (fun w'=>w'.cell? (J E 0 z)=C (Y th)∧w'.cell? (J E 1 z)=C (Y ad)∧w'.cell? (J E 2 z)=C (D F rg)∧w'.cell? (J E 3 z)=C (Y us)∧w'.cell? (J E 4 z)=C (Y di)∧w'.cell? (J E 5 z)=C (D F fr)) L w') (by kernel_rfl) ⟨Till.start c0,Till.start ⟨e0,e1,e2,e3,e4,e5⟩⟩ (fun hHeld=> ?_);refine aO (i:=0) (v:= ?_) rfl (by kernel_rfl) (by kernel_rfl) (by kernel_rfl) (fun _ _ _ h=>h) (Good.and (Good.till (by decide) ⟨_,⟨0,.data⟩,rfl,by simp,rfl,rfl⟩) (Good.till (by decide) ⟨_,⟨1,.data⟩,rfl,by simp,rfl,rfl⟩)) (Or.inl ⟨by kernel_rfl,?_⟩) hHeld (fun hHeld=> ?_);rotate_left;focus (intro wS hSw;obtain⟨Lx,hLx,hs1,hs2⟩:=hSw;have cS:=hs1.still hLx;go_simp;first|done|with_reducible rfl)
    try go_simp
    refine aO (i:=1) (v:= ?_) rfl (by kernel_rfl) (by kernel_rfl) (by kernel_rfl) (fun _ _ _ h=>h) (Good.and (Good.till (by decide) ⟨_,⟨0,.data⟩,rfl,by simp,rfl,rfl⟩) (Good.till (by decide) ⟨_,⟨1,.data⟩,rfl,by simp,rfl,rfl⟩)) (Or.inl ⟨by kernel_rfl,?_⟩) hHeld (fun hHeld=> ?_);rotate_left;focus (intro wS hSw;obtain⟨Lx,hLx,hs1,hs2⟩:=hSw;obtain⟨s0,s1,s2,s3,s4,s5⟩:=hs2.still hLx;go_simp;first|done|with_reducible rfl)
    try go_simp
    refine aO (i:=2) (v:= ?_) rfl (by kernel_rfl) (by kernel_rfl) (by kernel_rfl) (fun _ _ _ h=>h) (Good.and (Good.till (by decide) ⟨_,⟨0,.data⟩,rfl,by simp,rfl,rfl⟩) (Good.till (by decide) ⟨_,⟨1,.data⟩,rfl,by simp,rfl,rfl⟩)) (Or.inl ⟨by kernel_rfl,?_⟩) hHeld (fun hHeld=> ?_);rotate_left;focus (intro wS hSw;obtain⟨Lx,hLx,hs1,hs2⟩:=hSw;skip;go_simp;first|done|with_reducible rfl)
    try go_simp
    refine aO (i:=3) (v:= ?_) rfl (by kernel_rfl) (by kernel_rfl) (by kernel_rfl) (fun _ _ _ h=>h) (Good.and (Good.till (by decide) ⟨_,⟨0,.data⟩,rfl,by simp,rfl,rfl⟩) (Good.till (by decide) ⟨_,⟨1,.data⟩,rfl,by simp,rfl,rfl⟩)) (Or.inl ⟨by kernel_rfl,?_⟩) hHeld (fun hHeld=> ?_);rotate_left;focus (intro wS hSw;obtain⟨Lx,hLx,hs1,hs2⟩:=hSw;skip;go_simp;first|done|with_reducible rfl)
    try go_simp
    refine aW (rs:=[4]) (by kernel_rfl) (by simp) ?_;refine OneOf.cons rfl (fun K hK=> ?_) OneOf.nil;go_simp;go_wp2_with(refine(HE.out _).mono ?_;rintro e2 w5 ⟨rfl,b5⟩)
    have h5:=(h1.drew.right.below b5);have x5:=x1.drew.below b5;refine hK.out _ _ ⟨⟨fun _=>by kernel_rfl,fun _=>h5.cell 0⟩,⟨fun _=>by kernel_rfl,fun h=>aS (by kernel_rfl) h⟩⟩ (fun hHeld=> ?_);clear hK K;refine aW (rs:=[5]) (by kernel_rfl) (by simp) ?_;refine OneOf.cons rfl (fun K hK=> ?_) OneOf.nil;go_simp;have h6:=(h5.p2).alloc (.cells #[D F m.page,D F m.size,D F m.frame,D F m.rights] 39);refine hK.out _ _ ⟨⟨fun _=>by kernel_rfl,fun _=>h6.right.cell 0⟩,⟨fun _=>by kernel_rfl,fun h=>aS (by kernel_rfl) h⟩⟩ (fun hHeld=> ?_);clear hK K;refine aW (rs:=[6]) (by kernel_rfl) (by simp) ?_;refine OneOf.cons rfl (fun K hK=> ?_) OneOf.nil;refine co rfl (.tmp 19) (.tmp 24) 44 rfl underlying44 re _ _ _ (by simp[Act.eval]) h6 (J w5.heap.size 0 z) 1 1 m.cells (by simp[Act.eval]) rfl (eC w5 m.cells 39) (p7 m) (by unfold maxLen;omega) (by omega) ?_;intro A' c' w7 h7 x7;try go_simp
    refine hK.out _ _ ⟨⟨fun _=>by kernel_rfl,fun h=>aS (by kernel_rfl) h⟩,⟨fun _=>by kernel_rfl,fun h=>aS (by kernel_rfl) h⟩⟩ (fun hHeld=> ?_);clear hK K;have y0:=h7.right.cell 0;have y1:=h7.right.free 0;have yl:=h7.right.lt;refine aW (rs:=[7]) (by kernel_rfl) (by simp) ?_;refine OneOf.cons rfl (fun K hK=> ?_) OneOf.nil;go_simp;refine hK.out _ _ ⟨⟨fun _=>by kernel_rfl,fun h=>aS (by kernel_rfl) h⟩,⟨fun _=>by kernel_rfl,fun h=>aS (by kernel_rfl) h⟩⟩ (fun hHeld=> ?_);clear hK K;refine fD (by kernel_rfl) ?_;have hfin:T (w7.setCell (J O 0 z) (.slice A' ((bR vs).length +1) c')) (ke O (vs++[⟨t,j,at_,⟨th,ad,rg,us,di,fr⟩⟩])*P):=by
     refine kD (A:=A') (c:=c') ?_;unfold cK;rw[hm.out,lN,N,List.length_singleton];exact h7.p2.set 0 _
    go_wp2_with fail
    exact Z (v:= .tuple #[]) (by simp[results,results131]) rfl ⟨rfl,hfin,((x5.alloc _).trans x7).set _ _⟩
def lO(y:Vs):List Mp:=if y.code=0 then bR y.vs else []
def rP(y:Vs)(R:ab)(w:U)(e:Ending)(w':U):Prop:=
 ∃A c,e= .returned (.tuple #[.slice A (lO y).length c,D F y.code])∧T w' (cK (.slice A (lO y).length c) (lO y)*R)∧b8 w w'
theorem uP(f:Nat)(s:Ms)(root:Int)(R:ab)(w:U)(hs:s.Ok)(h:T w (ai f s*R)):
  a5 prog 73 #[.pointer (C (J f 0 z)),D F root] w (rP (cu s 3 root 0) (ai f s*R) w):=by
 have hmf:∀(fn:Fn) (first cap:Array bb) (w:U),(Instr.makeFunc fn first cap).run prog w= .ok (.func fn first cap) w:=fun _ _ _ _=>rfl;have h1:=h.new #[.slice z 0 0] 44;have h2:T (w.alloc (.cells #[.slice z 0 0] 44)) (ke w.heap.size []*(ai f s*R)):=kD (A:=z) (c:=0) (ck (bz h1));have x1:=(a6 w).alloc (.cells #[.slice z 0 0] 44);have hE:=mR f s hs 131 #[.pointer (C (J w.heap.size 0 z))] (enters_of func131 (by kernel_rfl) rfl) (ke w.heap.size) 5000
  (fun P vs v W hv hl h=>AE w.heap.size P vs v W hv hl h) 3 (by omega) R root 0 [] _ (by omega) (by decide) (by decide) h2
 rw[List.nil_append] at hE;have hln:=H (show(lO (cu s 3 root 0))=if(cu s 3 root 0).code =0 then bR (cu s 3 root 0).vs else [] from rfl);generalize cu s 3 root 0=y at*
 by_cases hc:y.code=0
 ·have hm:lO y=bR y.vs:=by rw[hln.out,if_pos hc]
  have HM:=H hm;clear hm;go_enter func73,ntmps73;go_wp2_with(refine hE.mono ?_;rintro e w2 ⟨rfl,h3,x3⟩;obtain⟨A,c,h4⟩:=mS h3;have c0:=h4.cell 0;have cl:=h4.lt)
  exact Z (v:= .tuple #[.slice A (bR y.vs).length c,D F 0]) (by simp[results,results73]) rfl ⟨A,c,by rw[HM.out,hc],by rw[HM.out];exact h4.right,x1.trans x3⟩
 ·have hm:lO y=[]:=by rw[hln.out,if_neg hc]
  have HM:=H hm;have hn:(y.code !=0)=ad:=by simpa using hc
  clear hm;go_enter func73,ntmps73;go_wp2_with(refine hE.mono ?_;rintro e w2 ⟨rfl,h3,x3⟩)
  exact Z (v:= .tuple #[.slice z 0 0,D F y.code]) (by simp[results,results73]) rfl ⟨z,0,by rw[HM.out];rfl,by rw[HM.out];exact bz h3.right,x1.trans x3⟩
def kg(O:Nat)(root:Int)(vs:List lu):ab:=ex fun A=>ex fun c=>aa O #[.slice A (root::bU vs).length c] 45*ao (.slice A (root::bU vs).length c) (root::bU vs)
theorem mT{O:Nat}{root:Int}{vs:List lu}{P:ab}{w:U}(h:T w (kg O root vs*P)):∃A c,T w (aa O #[.slice A (root::bU vs).length c] 45*(ao (.slice A (root::bU vs).length c) (root::bU vs)*P)):=by
 unfold kg at h;obtain⟨A,h⟩:=aF.1 h;obtain⟨c,h⟩:=aF.1 h;exact⟨A,c,h.a1⟩
theorem kE{O c:Nat}{root:Int}{A:Option bs}{vs:List lu}{P:ab}{w:U}(h:T w (aa O #[.slice A (root::bU vs).length c] 45*(ao (.slice A (root::bU vs).length c) (root::bU vs)*P))):T w (kg O root vs*P):=by
 unfold kg;exact aF.2 ⟨A,aF.2 ⟨c,h.a2⟩⟩
theorem AF(O:Nat)(root:Int)(P:ab)(vs:List lu)(v:lu)(W:U)(_:Ab v)(hl:vs.length<5000)(h:T W (kg O root vs*P)):
  a5 prog 133 #[D F v.t,D F v.lev,D F v.at_,.agg #[Y v.e.there,Y v.e.leaf,D F v.e.rights,Y v.e.used,Y v.e.dirty,D F v.e.frame],.pointer (C (J O 0 z))] W (cR (.tuple #[]) (kg O root (vs++[v])*P) W):=by
 obtain⟨A,c,h⟩:=mT h;have hml:=rh vs;obtain⟨t,lev,at_,⟨th,lf,rg,us,di,fr⟩⟩:=v;dsimp only at*
 have h1:=h.new #[Y th,Y lf,D F rg,Y us,Y di,D F fr] 70;have x1:=(a6 W).alloc (.cells #[Y th,Y lf,D F rg,Y us,Y di,D F fr] 70);obtain⟨e0,e1,e2,e3,e4,e5⟩:=h1.cells6;have el:=h1.lt;by_cases hn:th=ad∧lf=M
 ·obtain⟨rfl,rfl⟩:=hn
  have hm:=H (show root::bU (vs++[⟨t,lev,at_,⟨ad,M,rg,us,di,fr⟩⟩])=(root::bU vs)++[fr] by rw[iO];simp[bU]);have c0:=h1.right.cell 0;have f0:=h1.right.free 0;have cl:=h1.right.lt;have hrow:T ((W.alloc (.cells #[Y ad,Y M,D F rg,Y us,Y di,D F fr] 70)).alloc (.cells #[D F fr] 3)) (ct 3 1 (.slice A ((bU vs).length +1) c) ((bU vs).length +1) ((root::bU vs).map (D F))*(aa O #[.slice A (root::bU vs).length c] 45*P)):=h1.right.p2.alloc (.cells #[D F fr] 3);have hnw:=dU (W.alloc (.cells #[Y ad,Y M,D F rg,Y us,Y di,D F fr] 70)) (D F fr) 3;simp only[a7] at hnw;have HNW:=H hnw;clear hnw;go_enter func133,ntmps133;go_wp2_with(at_builtin;(refine aV rfl _ _ 45 rfl underlying45 fK _ _ _ rfl hrow ⟨W.heap.size+1,0,z⟩ 1 1 [D F fr] rfl rfl HNW.out ?k1 ?k2 ?k3 ?_))
  case k1=>exact iC fr
  case k2=>unfold maxLen;omega
  case k3=>omega
  intro v' w7 h7 x7;obtain⟨A',c',rfl⟩:=h7.rowForm;have y0:=h7.right.cell 0;have y1:=h7.right.free 0;have yl:=h7.right.lt;have hfin:T (w7.setCell (J O 0 z) (.slice A' ((bU vs).length +1+1) c')) (kg O root (vs++[⟨t,lev,at_,⟨ad,M,rg,us,di,fr⟩⟩])*P):=by
   refine kE (A:=A') (c:=c') ?_;unfold ao;rw[hm.out,N,List.length_singleton,List.map_append];exact h7.p2.set 0 _
  go_wp2_with fail
  exact Z (v:= .tuple #[]) (by simp[results,results133]) rfl ⟨rfl,hfin,((x1.alloc _).trans x7).set _ _⟩
 ·have hm:bU (vs++[⟨t,lev,at_,⟨th,lf,rg,us,di,fr⟩⟩])=bU vs:=by
   rw[iO];unfold bU;rw[List.filterMap_cons];dsimp only;rw[if_neg hn];simp
  have hfin:T (W.alloc (.cells #[Y th,Y lf,D F rg,Y us,Y di,D F fr] 70)) (kg O root (vs++[⟨t,lev,at_,⟨th,lf,rg,us,di,fr⟩⟩])*P):=by
   refine kE (A:=A) (c:=c) ?_;rw[hm];exact h1.right
  cases th with
  |false=>
   go_enter func133,ntmps133;go_wp2_with fail
   exact Z (v:= .tuple #[]) (by simp[results,results133]) rfl ⟨rfl,hfin,x1⟩
  |true=>
   cases lf with
   |false=>exact absurd ⟨rfl,rfl⟩ hn
   |true=>
    go_enter func133,ntmps133;go_wp2_with fail
    exact Z (v:= .tuple #[]) (by simp[results,results133]) rfl ⟨rfl,hfin,x1⟩
def jM(y:Vs)(root:Int):List Int:=if y.code=0 then root::bU y.vs else []
def rQ(y:Vs)(root:Int)(R:ab)(w:U)(e:Ending)(w':U):Prop:=
 ∃A c,e= .returned (.tuple #[.slice A (jM y root).length c,D F y.code])∧T w' (ao (.slice A (jM y root).length c) (jM y root)*R)∧b8 w w'
theorem rj(f:Nat)(s:Ms)(root:Int)(R:ab)(w:U)(hs:s.Ok)(h:T w (ai f s*R)):
  a5 prog 74 #[.pointer (C (J f 0 z)),D F root] w (rQ (cu s 3 root 0) root (ai f s*R) w):=by
 have hmf:∀(fn:Fn) (first cap:Array bb) (w:U),(Instr.makeFunc fn first cap).run prog w= .ok (.func fn first cap) w:=fun _ _ _ _=>rfl;have h0:=h.new #[D F root] 3;have h1:=h0.new #[.slice (C (J w.heap.size 0 z)) 1 1] 45;simp only[a7] at h1;have h2:T ((w.alloc (.cells #[D F root] 3)).alloc (.cells #[.slice (C (J w.heap.size 0 z)) 1 1] 45)) (kg (w.heap.size+1) root []*(ai f s*R)):=
  kE (A:=C (J w.heap.size 0 z)) (c:=1) (ck (Has.rowOf (xs:=[D F root]) (n:=1) (size:=1) (ck h1) rfl (Nat.le_refl 1) (by unfold maxLen;omega) rfl rfl))
 have x1:=((a6 w).alloc (.cells #[D F root] 3)).alloc (.cells #[.slice (C (J w.heap.size 0 z)) 1 1] 45);have hE:=mR f s hs 133 #[.pointer (C ⟨w.heap.size+1,0,z⟩)] (enters_of func133 (by kernel_rfl) rfl) (kg (w.heap.size+1) root) 5000
  (fun P vs v W hv hl h=>AF (w.heap.size+1) root P vs v W hv hl h) 3 (by omega) R root 0 [] _ (by omega) (by decide) (by decide) h2
 rw[List.nil_append] at hE;have hln:=H (show jM (cu s 3 root 0) root=if(cu s 3 root 0).code =0 then root::bU (cu s 3 root 0).vs else [] from rfl);generalize cu s 3 root 0=y at*
 by_cases hc:y.code=0
 ·have hm:jM y root=root::bU y.vs:=by rw[hln.out,if_pos hc]
  have HM:=H hm;clear hm;go_enter func74,ntmps74;go_wp2_with(refine hE.mono ?_;rintro e w2 ⟨rfl,h3,x3⟩;obtain⟨A,c,h4⟩:=mT h3;have c0:=h4.cell 0;have cl:=h4.lt)
  exact Z (v:= .tuple #[.slice A (root::bU y.vs).length c,D F 0]) (by simp[results,results74]) rfl ⟨A,c,by rw[HM.out,hc],by rw[HM.out];exact h4.right,x1.trans x3⟩
 ·have hm:jM y root=[]:=by rw[hln.out,if_neg hc]
  have HM:=H hm;have hn:(y.code !=0)=ad:=by simpa using hc
  clear hm;go_enter func74,ntmps74;go_wp2_with(refine hE.mono ?_;rintro e w2 ⟨rfl,h3,x3⟩)
  exact Z (v:= .tuple #[.slice z 0 0,D F y.code]) (by simp[results,results74]) rfl ⟨z,0,by rw[HM.out];rfl,by rw[HM.out];exact bz h3.right,x1.trans x3⟩
def du(f:Nat)(s:Ms):ab:=ex fun s'=>eY (s'.Ok∧ci s' s)*ai f s'
section
variable {f:Nat} {s:Ms} {R:ab} {w:U}
theorem fQ(h:T w (du f s*R)):∃s',s'.Ok∧ci s' s∧T w (ai f s'*R):=by
 unfold du at h;obtain⟨s',h⟩:=aF.1 h;rw[aX] at h;obtain⟨⟨a,b⟩,h⟩:=dd.1 h;exact⟨s',a,b,h⟩
theorem fR{s':Ms}(h:T w (ai f s'*R))(ho:s'.Ok)(ha:ci s' s):T w (du f s*R):=by
 unfold du;refine aF.2 ⟨s',?_⟩;rw[aX];exact dd.2 ⟨⟨ho,ha⟩,h⟩
end
section
variable (f:Nat) (s:Ms) (R:ab) (w:U) (h:T w (du f s*R))
include h
theorem AG(root:Int)(x:Mp):a5 prog 97 #[.pointer (C (J f 0 z)),D F root,.agg #[D F x.page,D F x.size,D F x.frame,D F x.rights]] w (cR (D F (cU s root x)) (du f (dR s root x)*R) w):=by
 obtain⟨s',ho,ha,h'⟩:=fQ h;refine(Av f s' root x R w ho h').mono ?_;rintro e w' ⟨s2,ho2,ha2,he,h2,x2⟩;rw[ha.insC] at he;exact⟨he,fR h2 ho2 (ha2.trans (ha.insS root x)),x2⟩
omit h in
def p8(f:Nat)(s:Ms)(r p:Int)(R:ab)(w:U)(e:Ending)(w':U):Prop:=
 ∃A n c,cR (.tuple #[(bK s r p).val,.slice A n c,D F (bu s r p)]) (ao (.slice A n c) (fy s r p)*(du f (dm s r p)*R)) w e w'
theorem AH(root p:Int):a5 prog 98 #[.pointer (C (J f 0 z)),D F root,D F p] w (p8 f s root p R w):=by
 obtain⟨s',ho,ha,h'⟩:=fQ h;refine(AD f s' root p R w ho h').mono ?_;rintro e w' ⟨A,n,c,he,h2,x2⟩;obtain⟨ag,eg⟩:=ha.rem root p;rw[ha.findC,ha.findM] at he;rw[eg] at h2;exact⟨A,n,c,he,(fR h2.p2 (wu ho root p) ag).p2,x2⟩
theorem AV(root p ri:Int):a5 prog 100 #[.pointer (C (J f 0 z)),D F root,D F p,D F ri] w (cR (.tuple #[(kU s root p ri).val,D F (iQ s root p ri)]) (du f (gX s root p ri)*R) w):=by
 obtain⟨s',ho,ha,h'⟩:=fQ h;refine(AT f s' root p ri R w ho h').mono ?_;rintro e w' ⟨he,h2,x2⟩;obtain⟨ag,ec,em⟩:=ha.pr root p ri;rw[ec,em] at he;exact⟨he,fR h2 (yn ho root p ri) ag,x2⟩
theorem zy(k:Int):a5 prog 111 #[.pointer (C (J f 0 z)),.int .i64 k] w (cR (Y (s.has k)) (du f (s.giveS k)*R) w):=by
 obtain⟨s',ho,ha,h'⟩:=fQ h;refine(xJ f s' k R w h' ho).mono ?_;rintro e w' ⟨he,h2,x2⟩;rw[ha.has] at he;exact⟨he,fR h2 (ho.giveS k) (ha.giveS k),x2⟩
theorem zA:a5 prog 52 #[.pointer (C (J f 0 z))] w (cR (D F s.topV) (du f s.takeS*R) w):=by
 obtain⟨s',ho,ha,h'⟩:=fQ h;refine(xI f s' R w h' ho).mono ?_;rintro e w' ⟨he,h2,x2⟩;have:s'.topV=s.topV:=by unfold Ms.topV;rw[ha.top]
 rw[this] at he;exact⟨he,fR h2 ho.takeS ha.takeS,x2⟩
theorem zB:a5 prog 75 #[.pointer (C (J f 0 z))] w (Same (D F (s.frees.length:Nat)) w):=by
 obtain⟨s',ho,ha,h'⟩:=fQ h;have:=zQ f s' R w h';rw[ha.fr] at this;exact this
theorem zC(root:Int):a5 prog 73 #[.pointer (C (J f 0 z)),D F root] w (rP (cu s 3 root 0) (du f s*R) w):=by
 obtain⟨s',ho,ha,h'⟩:=fQ h;have:=uP f s' root R w ho h';rw[ha.eachV] at this;refine this.mono ?_;rintro e w' ⟨A,c,he,h2,x2⟩;exact⟨A,c,he,(fR h2.p2 ho ha).p2,x2⟩
theorem wM(root:Int):a5 prog 74 #[.pointer (C (J f 0 z)),D F root] w (rQ (cu s 3 root 0) root (du f s*R) w):=by
 obtain⟨s',ho,ha,h'⟩:=fQ h;have:=rj f s' root R w ho h';rw[ha.eachV] at this;refine this.mono ?_;rintro e w' ⟨A,c,he,h2,x2⟩;exact⟨A,c,he,(fR h2.p2 ho ha).p2,x2⟩
end
section
variable {s:Ms} {r:Int} {gone:List Int} {X:Int→Prop}
theorem nZ(s:Ms)(L:Nat)(t a:Int):∀is:List Nat,(∀i∈is,br (av s t i) L=0∧((aD (av s t i) L).there =ad∧(aD (av s t i) L).leaf =M→(gW s L (aD (av s t i) L).frame (a*8+i)).code =0))→(dp s L t a (gW s L) is).code =0
 | [],_=>rfl
 |i::is,h=>by
  obtain⟨h1,h2⟩:=h i (List.mem_cons_self ..);have ih:=nZ s L t a is fun j hj=>h j (List.mem_cons_of_mem _ hj);unfold dp;rw[if_neg (by rw[h1];simp)];dsimp only;by_cases he:(aD (av s t i) L).there =ad∧(aD (av s t i) L).leaf =M
  ·rw[if_pos he,if_neg (by rw[h2 he];simp)]
   exact ih
  ·rw[if_neg he,if_neg (by simp)]
   exact ih
structure p9 (s:Ms) (r:Int) (L:Nat) (t a:Int):Prop where
 code:(cu s L t a).code =0
 maps:∀m∈bR (cu s L t a).vs,MapOk m∧a*aw (L+1)≤m.page∧m.page+bn m.size≤(a+1)*aw (L+1)
 up:(bR (cu s L t a).vs).Pairwise fun x y=>x.page+bn x.size≤y.page
 tabs:∀u,u∈bU (cu s L t a).vs ↔∃q e,de q∧q / aw (L+1)=a∧3 - L<e∧e≤3∧bm s r q e=C u
 nd:(bU (cu s L t a).vs).Nodup
theorem uQ{q a:Int}{L i:Nat}(hq:de q)(hL:L≤3)(h:q / aw (L+1)=a)(hi:ap q L=i):q / aw L=a*8+i:=by
 have h0:=fi L;rw[eD,Int.mul_comm,←Int.ediv_ediv_of_nonneg (by omega)] at h;unfold ap at hi;rw[if_pos ⟨hq.1,hq.2,by omega,by omega⟩,Int.toNat_natCast] at hi;omega
structure zD (s:Ms) (r:Int) (L:Nat) (t a:Int) (i:Nat):Prop where
 code:br (av s t i) L=0∧((aD (av s t i) L).there =ad∧(aD (av s t i) L).leaf =M→(gW s L (aD (av s t i) L).frame (a*8+i)).code =0)
 maps:∀m∈gF s L t a i,MapOk m∧(a*8+i)*aw L≤m.page∧m.page+bn m.size≤(a*8+i+1)*aw L
 up:(gF s L t a i).Pairwise fun x y=>x.page+bn x.size≤y.page
 tabs:∀u,u∈eJ s L t a i↔∃q e,de q∧q / aw L=a*8+i∧3 - L<e∧e≤3∧bm s r q e=C u
 nd:(eJ s L t a i).Nodup
theorem rk{w:Int}{L:Nat}{p:Int}(hp:de p)(hc:br w L=0)(hl:(aD w L).leaf =ad):MapOk (aB (aD w L) L p)∧aB (aD w L) L p=⟨p / aw L*aw L,L,(aD w L).frame,(aD w L).rights⟩∧L<3:=by
 obtain⟨ht,_,h3,_,hf⟩:=ir hc hl;have h3':L<3:=by omega
 have hs:=eK h3';have e1:=ga hp hf hl hs;have hk:=dF hf ht;have hL:=(hk.leaf hl).2;rw[hs] at hL;have k1:=hk.r0;have k2:=hk.r7;have k3:=hk.f0;have k4:=hk.f1;have hp':0≤p∧p<4096:=hp;refine⟨?_,e1,h3'⟩;rw[e1];refine fh ?_;unfold bc;dsimp only;rw[hs];have h8:=fi L;have hd:L=0∨L=1∨L=2:=by omega
 rw[if_neg (by omega),if_neg,if_neg]
 ·rw[Int.mul_emod_left];omega
 ·generalize (aD w L).rights =ri at*
  generalize (aD w L).frame =fr at*
  clear e1 ht hl hf hk hL hs h8 hc;rcases hd with h|h|h<;>rw[h]<;>simp only[aw]<;>omega
theorem yy(hw:Wf s r gone X){L:Nat}(hL:L≤3){p t a:Int}(hp:de p)(ht:bm s r p (3 - L)=C t)(ha:p / aw (L+1)=a)(i:Nat)(hi:i<8)
  (ih:∀K,L=K+1→∀{q u:Int},de q→bm s r q (3 - K)=C u→p9 s r K u (q / aw (K+1))):zD s r L t a i:=by
 obtain⟨q,hq,hpre,hix,hmod⟩:=lY hp hL i hi;rw[ha] at hpre;have hq8:=uQ hq hL hpre hix;have e33:3 - (3 - L)=L:=by omega
 have hqt:bm s r q (3 - L)=C t:=by
  rw[←ht];refine bS s r hq hp (3 - L) (by omega) ?_;rw[show 4 - (3 - L)=L+1 by omega,hpre,ha]
 have hdec:br (av s t i) L=0:=by
  have:=hw.dec hq (show 3 - L≤3 by omega) hqt i hi;rw[e33] at this;exact this
 have h0:=fi L;have hqe:q=(a*8+i)*aw L:=by
  have:=Int.mul_ediv_add_emod q (aw L);rw[hq8,hmod] at this;rw[Int.mul_comm];omega
 by_cases hl:(aD (av s t i) L).leaf =ad
 ·obtain⟨m1,m2,h3⟩:=rk hq hdec hl
  have hc:gF s L t a i=[aB (aD (av s t i) L) L q]:=by
   unfold gF;dsimp only;rw[if_pos hl,hqe]
  have hT:eJ s L t a i=[]:=by
   unfold eJ;dsimp only;rw[if_neg (by rw[hl];simp)]
  refine⟨⟨hdec,fun h=>by rw[hl] at h;cases h.2⟩,fun m hm=> ?_,?_,fun u=> ?_,by rw[hT];exact List.nodup_nil⟩
  ·rw[hc,List.mem_singleton] at hm
   subst hm;refine⟨m1,?_,?_⟩
   ·rw[m2,hq8];exact Int.le_refl _
   ·rw[m2,hq8]
    dsimp only;rw[eK h3];have:(a*8+(i:Int)+1)*aw L=(a*8+i)*aw L+aw L:=by rw[Int.add_mul (a*8+i) 1,Int.one_mul]
    omega
  ·rw[hc];exact List.pairwise_singleton _ _
  ·rw[hT]
   constructor
   ·intro h;cases h
   ·rintro⟨x,e,hx,hx8,h1,h2,h3⟩
    exfalso;have hxt:bm s r x (3 - L)=C t:=by
     rw[←hqt];refine bS s r hx hq (3 - L) (by omega) ?_;rw[show 4 - (3 - L)=L+1 by omega];exact iu (by omega) (hx8.trans hq8.symm)
    have hxi:ap x L=i:=by rw[ic hx hq (hx8.trans hq8.symm)];exact hix
    have hg:it s x t (3 - (3 - L))=M:=by
     rw[e33];unfold it cN;rw[hxi,hl];simp
    rw[bC (dv hxt hg) e (by omega)] at h3;cases h3
 ·have hl':(aD (av s t i) L).leaf =M:=by simpa using hl
  by_cases hth:(aD (av s t i) L).there =ad
  ·
   have hg:it s q t L=ad:=by
    refine jk.2 ⟨(hw.at_ hq (show 3 - L≤3 by omega) hqt).1,by rw[hix];exact hdec,?_,?_⟩
    ·unfold cN;rw[hix];exact hth
    ·unfold cN;rw[hix];exact hl'
   cases L with
   |zero=>
    exfalso;rcases eP hdec with h|h
    ·have h':(aD (av s t i) (0:Nat)).there =M:=h
     rw[h'] at hth;cases hth
    ·exact hl h
   |succ K=>
    have hv:bm s r q (3 - K)=C (aD (av s t i) (K+1:Nat)).frame :=by
     rw[show 3 - K=3 - (K+1)+1 by omega];refine fJ.2 ⟨t,hqt,by rw[e33];exact hg,?_⟩;rw[e33];unfold cN;rw[hix]
    have hA:=ih K rfl hq hv;rw[hq8] at hA;have hc:gF s (K+1) t a i=bR (cu s K (aD (av s t i) (K+1:Nat)).frame (a*8+i)).vs :=by
     unfold gF;dsimp only;rw[if_neg hl,if_pos hth];rfl
    have hT:eJ s (K+1) t a i=(aD (av s t i) (K+1:Nat)).frame ::bU (cu s K (aD (av s t i) (K+1:Nat)).frame (a*8+i)).vs :=by
     unfold eJ;dsimp only;rw[if_pos ⟨hth,hl'⟩];rfl
    refine⟨⟨hdec,fun _=>hA.code⟩,fun m hm=> ?_,by rw[hc];exact hA.up,fun u=> ?_,?_⟩
    ·rw[hc] at hm
     exact hA.maps m hm
    ·rw[hT,List.mem_cons,hA.tabs u]
     constructor
     ·rintro(rfl|⟨x,e,hx,hx8,h1,h2,h3⟩)
      ·exact⟨q,3 - K,hq,hq8,by omega,by omega,hv⟩
      ·exact⟨x,e,hx,hx8,by omega,h2,h3⟩
     ·rintro⟨x,e,hx,hx8,h1,h2,h3⟩
      by_cases he:e=3 - K
      ·subst he
       have:bm s r x (3 - K)=bm s r q (3 - K):=by
        refine bS s r hx hq (3 - K) (by omega) ?_;rw[show 4 - (3 - K)=K+1 by omega];exact hx8.trans hq8.symm
       rw[h3,hv] at this;injection this with this
       exact .inl this
      ·exact .inr ⟨x,e,hx,hx8,by omega,h2,h3⟩
    ·rw[hT,List.nodup_cons]
     refine⟨fun hm=> ?_,hA.nd⟩;obtain⟨x,e,hx,hx8,h1,h2,h3⟩:=(hA.tabs _).1 hm;have:=(hw.inj x q e (3 - K) _ hx hq h2 (by omega) h3 hv).1;omega
  ·
   have hc:gF s L t a i=[]:=by
    unfold gF;dsimp only;rw[if_neg hl,if_neg hth]
   have hT:eJ s L t a i=[]:=by
    unfold eJ;dsimp only;rw[if_neg (fun h=>hth h.1)]
   refine⟨⟨hdec,fun h=>absurd h.1 hth⟩,fun m hm=>(by rw[hc] at hm;cases hm),(by rw[hc];exact List.Pairwise.nil),fun u=> ?_,(by rw[hT];exact List.nodup_nil)⟩;rw[hT];constructor
   ·intro h;cases h
   ·rintro⟨x,e,hx,hx8,h1,h2,h3⟩
    exfalso;have hxt:bm s r x (3 - L)=C t:=by
     rw[←hqt];refine bS s r hx hq (3 - L) (by omega) ?_;rw[show 4 - (3 - L)=L+1 by omega];exact iu (by omega) (hx8.trans hq8.symm)
    have hxi:ap x L=i:=by rw[ic hx hq (hx8.trans hq8.symm)];exact hix
    have hth':(aD (av s t i) L).there =M:=by simpa using hth
    have hg:it s x t (3 - (3 - L))=M:=by
     rw[e33];unfold it cN;rw[hxi,hth'];simp
    rw[bC (dv hxt hg) e (by omega)] at h3;cases h3
theorem qc(hw:Wf s r gone X){L:Nat}(hL:L≤3){p t:Int}(hp:de p)(ht:bm s r p (3 - L)=C t)
  (ih:∀K,L=K+1→∀{q u:Int},de q→bm s r q (3 - K)=C u→p9 s r K u (q / aw (K+1))):p9 s r L t (p / aw (L+1)):=by
 have hone:=fun i hi=>yy hw hL hp ht rfl i hi ih;generalize hpa:p / aw (L+1)=a at*
 have hhas:=(hw.at_ hp (show 3 - L≤3 by omega) ht).1;have hcode:(dp s L t a (gW s L) (List.range 8)).code =0:=nZ s L t a _ fun i hi=>(hone i (List.mem_range.1 hi)).code;obtain⟨_,hm,hT⟩:=lW s L t a (List.range 8) hcode;have ee:cu s L t a=dp s L t a (gW s L) (List.range 8):=by rw[iX,hhas];rfl
 have h8:=fi L;have hexp:a*aw (L+1)=a*8*aw L:=by rw[eD,Int.mul_assoc]
 have hexp1:(a+1)*aw (L+1)=a*8*aw L+8*aw L:=by rw[Int.add_mul,Int.one_mul,hexp,eD]
 have hrg:∀i:Nat,(a*8+(i:Int))*aw L=a*8*aw L+i*aw L:=fun i=>Int.add_mul _ _ _;have hrg1:∀i:Nat,(a*8+(i:Int)+1)*aw L=a*8*aw L+i*aw L+aw L:=fun i=>by rw[Int.add_mul,Int.add_mul,Int.one_mul]
 have hmul:∀i j:Nat,i≤j→(i:Int)*aw L≤j*aw L:=fun i j h=>Int.mul_le_mul_of_nonneg_right (by omega) (by omega);refine⟨by rw[ee];exact hcode,fun m hmm=> ?_,?_,fun u=> ?_,?_⟩
 ·rw[ee,hm] at hmm
  obtain⟨i,hi,hmi⟩:=List.mem_flatMap.1 hmm;have hi8:=List.mem_range.1 hi;obtain⟨c1,c2,c3⟩:=(hone i hi8).maps m hmi;rw[hrg] at c2;rw[hrg1] at c3;have a1:=hmul 0 i (by omega);have a2:=hmul (i+1) 8 (by omega);refine⟨c1,by rw[hexp];simp at a1;omega,?_⟩;rw[hexp1];have e2:((i+1:Nat):Int)*aw L=i*aw L+aw L:=by rw[Int.natCast_add,Int.add_mul];simp
  have e3:((8:Nat):Int)*aw L=8*aw L:=rfl;omega
 ·rw[ee,hm,List.pairwise_flatMap]
  refine⟨fun i hi=>(hone i (List.mem_range.1 hi)).up,?_⟩;rw[List.pairwise_iff_getElem];intro i j hi hj hij x hx y hy;simp only[List.length_range] at hi hj;simp only[List.getElem_range] at hx hy;obtain⟨_,_,c3⟩:=(hone i hi).maps x hx;obtain⟨_,d2,_⟩:=(hone j hj).maps y hy;rw[hrg1] at c3;rw[hrg] at d2;have a2:=hmul (i+1) j (by omega);have e2:((i+1:Nat):Int)*aw L=i*aw L+aw L:=by rw[Int.natCast_add,Int.add_mul];simp
  omega
 ·rw[ee,hT,List.mem_flatMap]
  constructor
  ·rintro⟨i,hi,hu⟩
   obtain⟨q,e,hq,hq8,h1,h2,h3⟩:=((hone i (List.mem_range.1 hi)).tabs u).1 hu;refine⟨q,e,hq,?_,h1,h2,h3⟩;rw[eD,Int.mul_comm,←Int.ediv_ediv_of_nonneg (by omega),hq8];have:=List.mem_range.1 hi;omega
  ·rintro⟨q,e,hq,hq8,h1,h2,h3⟩
   have hi:=bX hq hL;refine⟨(ap q L).toNat,List.mem_range.2 (by omega),((hone _ (by omega)).tabs u).2 ⟨q,e,hq,?_,h1,h2,h3⟩⟩;exact uQ hq hL hq8 (by omega)
 ·rw[ee,hT]
  unfold List.Nodup;rw[List.pairwise_flatMap];refine⟨fun i hi=>(hone i (List.mem_range.1 hi)).nd,?_⟩;rw[List.pairwise_iff_getElem];intro i j hi hj hij x hx y hy hxy;simp only[List.length_range] at hi hj;simp only[List.getElem_range] at hx hy;subst hxy;obtain⟨q,e,hq,hq8,h1,h2,h3⟩:=((hone i hi).tabs x).1 hx;obtain⟨q',e',hq',hq8',h1',h2',h3'⟩:=((hone j hj).tabs x).1 hy;obtain⟨rfl,hpre⟩:=hw.inj q q' e e' x hq hq' h2 h2' h3 h3';have:=iu (show 4 - e≤L by omega) hpre;omega
theorem yB(hw:Wf s r gone X):∀L,L≤3→∀{p t:Int},de p→bm s r p (3 - L)=C t→p9 s r L t (p / aw (L+1)):=by
 intro L;induction L with
 |zero=>intro hL p t hp ht;exact qc hw hL hp ht fun K hK=>by omega
 |succ L ih=>
  intro hL p t hp ht;refine qc hw hL hp ht fun K hK=> ?_;obtain rfl:L=K:=by omega
  exact ih (by omega)
def dn(s:Ms)(r:Int):List Mp:=bR (cu s 3 r 0).vs
def gY(s:Ms)(r:Int):List Int:=r::bU (cu s 3 r 0).vs
theorem ge(hw:Wf s r gone X):(cu s 3 r 0).code =0∧Lk s r (dn s r)∧(gY s r).Nodup ∧∀t,t∈gY s r↔rL s r t:=by
 have hA:p9 s r 3 r ((0:Int) / aw (3+1)):=yB hw 3 (by omega) (show de 0 from⟨by omega,by omega⟩) rfl;have e0:(0:Int) / aw (3+1)=0:=by decide
 rw[e0] at hA;have htop:∀q,de q→q / aw (3+1)=0:=fun q hq=>by
  have h4:aw (3+1)=4096:=rfl;rw[h4];have:=hq.1;have:=hq.2;omega
 refine⟨hA.code,⟨⟨fun m hm=>(hA.maps m hm).1,hA.up⟩,fun q hq=> ?_⟩,?_,fun t=> ?_⟩
 ·have hl:=(uG s q hq.1 hq.2 3 (by omega) r 0 [] hA.code (by omega) (by decide)).2 (htop q hq)
  have hwy:bG s r q=cZ s q 3 r []:=by
   unfold bG;rw[if_pos (by unfold cY;rw[decide_eq_true hq.1,decide_eq_true hq.2];rfl)]
  show(bR (cu s 3 r 0).vs).find? (fun m=>over m q)=bt s r q;rw[←List.head?_filter,hl.2.1,←hwy];unfold bt;split<;>rfl
 ·unfold gY
  rw[List.nodup_cons];refine⟨fun hm=> ?_,hA.nd⟩;obtain⟨q,e,hq,_,h1,h2,h3⟩:=(hA.tabs r).1 hm;have:=(hw.inj q q e 0 r hq hq h2 (by omega) h3 rfl).1;omega
 ·unfold gY
  rw[List.mem_cons,hA.tabs t];constructor
  ·rintro(rfl|⟨q,e,hq,_,h1,h2,h3⟩)
   ·exact⟨0,0,⟨by omega,by omega⟩,by omega,rfl⟩
   ·exact⟨q,e,hq,h2,h3⟩
  ·rintro⟨q,e,hq,h2,h3⟩
   cases e with
   |zero=>injection h3 with h3;exact .inl h3.symm
   |succ e=>exact .inr ⟨q,e+1,hq,htop q hq,by omega,h2,h3⟩
end
section
variable (f:Nat) (s:Ms) (gone:List Int) (X:Int→Prop) (hw:Wf s 0 gone X) (R:ab) (w:U) (h:T w (du f s*R))
include hw h
theorem zE:a5 prog 73 #[.pointer (C (J f 0 z)),D F 0] w fun e w'=>∃A c,e= .returned (.tuple #[.slice A (dn s 0).length c,D F 0])∧T w' (cK (.slice A (dn s 0).length c) (dn s 0)*(du f s*R))∧b8 w w':=by
 refine(zC f s R w h 0).mono ?_;have hc:=(ge hw).1;have e1:lO (cu s 3 0 0)=dn s 0:=by unfold lO dn;rw[if_pos hc]
 rintro e w' ⟨A,c,he,h2,x2⟩;rw[e1] at he h2;rw[hc] at he;exact⟨A,c,he,h2,x2⟩
theorem wN:a5 prog 74 #[.pointer (C (J f 0 z)),D F 0] w fun e w'=>∃A c,e= .returned (.tuple #[.slice A (gY s 0).length c,D F 0])∧T w' (ao (.slice A (gY s 0).length c) (gY s 0)*(du f s*R))∧b8 w w':=by
 refine(wM f s R w h 0).mono ?_;have hc:=(ge hw).1;have e1:jM (cu s 3 0 0) 0=gY s 0:=by unfold jM gY;rw[if_pos hc]
 rintro e w' ⟨A,c,he,h2,x2⟩;rw[e1] at he h2;rw[hc] at he;exact⟨A,c,he,h2,x2⟩
end
@[go_sem] def Ln.val (x:Ln):bb:= .agg #[D F x.m.page,D F x.m.size,D F x.m.frame,D F x.m.rights,Y x.dirty]
def lnZero:bb:= .agg #[D F 0,D F 0,D F 0,D F 0,Y M]
theorem uR:jD prog 143 lnZero 5 40:=⟨by kernel_rfl,rfl,by omega⟩
theorem gK(x:Ln):x.cells.length=5:=rfl
def gO(v:bb)(l:List Ln):ab:=ct 143 5 v l.length (bW l)
section
variable {w:U} {R:ab} {A:Option bs} {n c:Nat} {l:List Ln}
theorem fS(h:T w (gO (.slice A n c) l*R)):n=l.length:=by
 rcases bD (e:=143) (size:=5) h with ⟨hv,h0,_⟩|⟨g,cap,cur,hv,_⟩
 ·injection hv with a b
  omega
 ·injection hv
theorem eL(h:T w (gO (.slice A n c) l*R)):n≤9223372036854775807∧n≤c:=by
 obtain rfl:=fS h;refine⟨(cg (e:=143) (size:=5) h).2,?_⟩;rcases bD (e:=143) (size:=5) h with ⟨hv,h0,_⟩|⟨g,cap,cur,hv,h1,_⟩
 ·injection hv with a b
  omega
 ·injection hv with a b d
  omega
theorem jY(h:T w (gO (.slice A n c) l*R)){k:Nat}(hk:k<l.length):
  ∃b,A=C (J b 0 z)∧b<w.heap.size∧
   (w.cell? ⟨b,k*5,z⟩=C (D F l[k].m.page)∧w.cell? ⟨b,k*5+1,z⟩=C (D F l[k].m.size)∧w.cell? ⟨b,k*5+2,z⟩=C (D F l[k].m.frame)∧w.cell? ⟨b,k*5+3,z⟩=C (D F l[k].m.rights)∧w.cell? ⟨b,k*5+4,z⟩=C (Y l[k].dirty))∧
   (w.frozen? ⟨b,k*5,z⟩=M∧w.frozen? ⟨b,k*5+1,z⟩=M∧w.frozen? ⟨b,k*5+2,z⟩=M∧w.frozen? ⟨b,k*5+3,z⟩=M∧w.frozen? ⟨b,k*5+4,z⟩=M):=by
 obtain rfl:=fS h;have g:=fun t (ht:t<5)=>bk (e:=143) (size:=5) h (i:=k*5+t) (u:=(l[k].cells[t]'(by rw[gK];exact ht))) (by
  have:=lc (cells:=Ln.cells) gK hk ht;rw[ax (l:=l[k].cells) (by rw[gK];exact ht)] at this;exact this)
 obtain⟨b,rfl,hb,c0,f0⟩:=g 0 (by omega);obtain⟨b1,e1,_,c1,f1⟩:=g 1 (by omega);obtain⟨b2,e2,_,c2,f2⟩:=g 2 (by omega);obtain⟨b3,e3,_,c3,f3⟩:=g 3 (by omega);obtain⟨b4,e4,_,c4,f4⟩:=g 4 (by omega);injection e1 with e1;injection e1 with e1;subst e1
 injection e2 with e2;injection e2 with e2;subst e2
 injection e3 with e3;injection e3 with e3;subst e3
 injection e4 with e4;injection e4 with e4;subst e4
 exact⟨b,rfl,hb,⟨c0,c1,c2,c3,c4⟩,f0,f1,f2,f3,f4⟩
theorem uS{g:Nat}(h:T w (gO (.slice (C (J g 0 z)) n c) l*R)){k:Nat}(hk:k<l.length)(x:Ln):
  T (((((w.setCell ⟨g,k*5,z⟩ (D F x.m.page)).setCell ⟨g,k*5+1,z⟩ (D F x.m.size)).setCell ⟨g,k*5+2,z⟩ (D F x.m.frame)).setCell ⟨g,k*5+3,z⟩ (D F x.m.rights)).setCell ⟨g,k*5+4,z⟩ (Y x.dirty))
   (gO (.slice (C (J g 0 z)) n c) (l.set k x)*R):=by
 obtain rfl:=fS h;have h1:=bd (e:=143) (size:=5) x.cells (k*5) h (by rw[gK];omega);rw[gK] at h1;have e1:=vz (cells:=Ln.cells) gK hk x;have e2:(bW l).take (k*5)++(x.cells++(bW l).drop (k*5+5))=bW (l.set k x):=e1;rw[e2] at h1;unfold gO;rw[List.length_set];exact h1
end
def oQ(p:Ln→Bool)(l:List Ln):Int:=match l.findIdx? p with|some k=>(k:Int)|none=> -1
theorem mU{p:Ln→Bool}{l:List Ln}{k:Nat}(hk:k<l.length)(h:p l[k]=ad)(ha:∀j (hj:j<l.length),j<k→p l[j]=M):oQ p l=k:=by
 unfold oQ;rw[List.findIdx?_eq_some_iff_getElem.2 ⟨hk,h,fun j hj=>by rw[ha j (by omega) hj];decide⟩]
theorem lC{p:Ln→Bool}{l:List Ln}(ha:∀j (hj:j<l.length),p l[j]=M):oQ p l= -1:=by
 unfold oQ;rw[List.findIdx?_eq_none_iff.2 fun x hx=>by
  obtain⟨j,hj,rfl⟩:=List.getElem_of_mem hx;exact ha j hj]
theorem rm(p:Ln→Bool)(l:List Ln):(oQ p l= -1∧∀j (hj:j<l.length),p l[j]=M)∨∃(k:Nat) (h:k<l.length),oQ p l=k∧p l[k]=ad∧∀j (hj:j<l.length),j<k→p l[j]=M:=by
 cases hf:l.findIdx? p with
 |none=>
  have ha:∀j (hj:j<l.length),p l[j]=M:=fun j hj=>by simpa using List.findIdx?_eq_none_iff.1 hf _ (List.getElem_mem hj)
  exact .inl ⟨lC ha,ha⟩
 |some k=>
  obtain⟨hk,h1,h2⟩:=List.findIdx?_eq_some_iff_getElem.1 hf;have ha:∀j (hj:j<l.length),j<k→p l[j]=M:=fun j hj hjk=>by simpa using h2 j hjk
  exact .inr ⟨k,hk,mU hk h1 ha,h1,ha⟩
theorem kV(l:List Ln)(p:Ln→Bool)(g:Nat)(cap:Array bb)(A:Option bs)(n c:Nat)(R:ab)(w:U)(h:T w (gO (.slice A n c) l*R))
  (eg:∀args w,(callFunc g args).run prog w= .ok (.enter g args) w)
  (hp:∀x∈l,∀W,T W R→a5 prog g (#[x.val]++cap) W (cd (Y (p x)) W)):
  a5 prog 159 #[.slice A n c,.func (.func g) #[] cap] w (cd (D F (oQ p l)) w):=by
 obtain rfl:=fS h;obtain⟨hbig,_⟩:=eL h;have HP:=H hp;clear hp;go_enter func159,ntmps159;go_wp2_with fail
 go_loopw [5,8] (fun _ s8 wr=>∃k:Nat,k≤l.length∧s8=D F k∧Below w.heap.size w wr∧bL (∀j (hj:j<l.length),j<k→p l[j]=M)) (fun _ s8 _=>l.length - (b6 s8).toNat)
 case atStart=>exact⟨0,Nat.zero_le _,rfl,Below.refl _ _,H fun j _ h=>absurd h (Nat.not_lt_zero _)⟩
 case round=>
  obtain⟨k,hk,rfl,BW,HA⟩:=hrel;by_cases hlt:k<l.length
  ·have h':=h.below BW
   obtain⟨b,rfl,hb,⟨c0,c1,c2,c3,c4⟩,_⟩:=jY h' hlt;have hc:=HP.out l[k] (List.getElem_mem hlt) wr h'.right;have hz:=H (show(l[k]=l[k]) from rfl);generalize hx:l[k]=x at c0 c1 c2 c3 c4 hc;have HX:=H hx;clear hx hz h';have BW':=H BW;clear BW h;cases hq:p x with
   |true=>
    rw[hq] at hc;go_wp2_with(go_at_fn g;refine hc.mono ?_;rintro e w' ⟨rfl,hb'⟩)
    go_ret;exact⟨by rw[mU hlt (by rw[HX.out];exact hq) HA.out];rfl,BW'.out.trans (hb'.mono BW'.out.size)⟩
   |false=>
    rw[hq] at hc;go_wp2_with(go_at_fn g;refine hc.mono ?_;rintro e w' ⟨rfl,hb'⟩)
    go_roundw
    case rel=>
     refine⟨k+1,by omega,by go_num,BW'.out.trans (hb'.mono BW'.out.size),H fun j hj hjk=> ?_⟩;by_cases e:j=k
     ·subst e;rw[HX.out];exact hq
     ·exact HA.out j hj (by omega)
    case measure=>simp[b6];omega
  ·have:k=l.length:=by omega
   subst this;go_wp2_with fail
   go_ret;exact⟨by rw[lC fun j hj=>HA.out j hj hj];rfl,BW⟩
theorem rR:∀w,(zeroValue 143).run prog w= .ok lnZero w:=Tryz.zeroValue143
section
variable {w:U} {R:ab} {n c:Nat} {l:List Ln}
theorem rn{g i:Nat}(h:T w (gO (.slice (C (J g 0 z)) n c) l*R))(hi:i<n):∀ty,(Builtin.clear_ #[61] ty #[.slice (C ⟨g,i*5,z⟩) (n - i) (c - i)]).run prog w= .ok (.tuple #[]) (w.setCells g (i*5) (Builtin.zeroCells lnZero.cells (n - i)).toList):=by
 intro ty;have hl:=fS h;subst hl;have hg:∀j,j< (l.length - i)*5→(w.cell? ⟨g,i*5+j,z⟩).isSome =ad∧w.frozen? ⟨g,i*5+j,z⟩=M:=fun j hj=>by
  obtain⟨b,hb,_,hc,hf⟩:=bk (e:=143) (size:=5) h (i:=i*5+j) (u:=(bW l)[i*5+j]'(by rw[jo];omega)) (ax _);injection hb with hb
  injection hb with hb
  subst hb;exact⟨by rw[hc];rfl,hf⟩
 exact gP w _ _ ty lnZero 5 underlying61 rR rfl (by intro v hv;simp[lnZero,Value.cells] at hv;rcases hv with rfl|rfl<;>rfl) g (i*5) _ _ (by omega) (by omega) (fun j hj=>(hg j hj).1) (fun j hj=>(hg j hj).2)
theorem uT{g i:Nat}(h:T w (gO (.slice (C (J g 0 z)) n c) l*R))(hi:i≤n)(zs:List bb):T (w.setCells g (i*5) zs) (gO (.slice (C (J g 0 z)) i c) (l.take i)*R):=by
 have hl:=fS h;subst hl;have h1:=Has.rowCut (e:=143) (size:=5) h hi;have h2:=Has.rowSpareCells zs (i*5) h1 (Nat.le_refl _);unfold gO;rw[List.length_take,Nat.min_eq_left hi];rw[show(bW l).take (i*5)=bW (l.take i) from gu gK l i] at h2;exact h2
end
theorem Ext.setCells{w0:U}(b:Nat):∀(vs:List bb) (o:Nat) {w:U},b8 w0 w→b8 w0 (w.setCells b o vs)
 | [],_,_,h=>h
 |_::r,o,_,h=>Ext.setCells b r (o+1) (h.set _ _)
theorem jN{p:Ln→Bool}{l:List Ln}{j:Nat}(hj:j<l.length):(l.take (j+1)).filter p=(l.take j).filter p++(if p l[j] then [l[j]] else []):=by
 rw[List.take_succ_eq_append_getElem hj,List.filter_append];cases hq:p l[j]<;>simp[hq]
theorem nE(l:List Ln)(p:Ln→Bool)(g:Nat)(cap:Array bb)(A:Option bs)(n c:Nat)(R:ab)(w:U)(h:T w (gO (.slice A n c) l*R))
  (eg:∀args w,(callFunc g args).run prog w= .ok (.enter g args) w)
  (hp:∀x∈l,∀W,T W R→a5 prog g (#[x.val]++cap) W (cd (Y (p x)) W)):
  a5 prog 185 #[.slice A n c,.func (.func g) #[] cap] w
   (cR (.slice A (l.filter fun x=> !p x).length c) (gO (.slice A (l.filter fun x=> !p x).length c) (l.filter fun x=> !p x)*R) w):=by
 have hI:=kV l p g cap A n c R w h eg hp;obtain rfl:=fS h;obtain⟨hbig,hnc⟩:=eL h;have HP:=H hp;clear hp;rcases rm p l with ⟨e1,hall⟩|⟨k0,hk0,e1,ht,hall⟩
 ·rw[e1] at hI
  have hf:(l.filter fun x=> !p x)=l:=List.filter_eq_self.2 fun x hx=>by
   obtain⟨j,hj,rfl⟩:=List.getElem_of_mem hx;rw[hall j hj];rfl
  rw[hf];clear hall e1 hf;go_enter func185,ntmps185;go_wp2_with(refine hI.mono ?_;rintro e w2 ⟨rfl,b2⟩)
  go_ret;exact⟨rfl,h.below b2,(a6 w).below b2⟩
 ·rw[e1] at hI
  have hne:((k0:Int)== -1)=M:=beq_eq_false_iff_ne.2 (by omega);have hA:=h;obtain⟨b,rfl,_⟩:=jY hA hk0;clear hA;have HK:=H (show l.take k0=(l.take (k0+1)).filter fun x=> !p x by
   rw[jN hk0,ht];simp only[Bool.not_true,Bool.false_eq_true,if_false,List.append_nil];exact(List.filter_eq_self.2 fun x hx=>by
    obtain⟨j,hj,rfl⟩:=List.getElem_of_mem hx;rw[List.length_take] at hj;rw[List.getElem_take,hall j (by omega) (by omega)];rfl).symm)
  clear hall ht e1;go_enter func185,ntmps185;go_wp2_with(refine hI.mono ?_;rintro e w2 ⟨rfl,b2⟩)
  have h2:=h.below b2;have x2:=(a6 w).below b2;clear h hI;go_loopw [5,6,7] (fun s5 s6 _ wr=>∃(i j:Nat) (dk:List Ln),s5=D F i∧s6=D F j∧i<j∧j≤l.length∧dk.length=l.length∧bL (dk.take i=(l.take j).filter fun x=> !p x)∧bL (dk.drop j=l.drop j)∧T wr (gO (.slice (C (J b 0 z)) l.length c) dk*R)∧b8 w wr) (fun _ s6 _ _=>l.length - (b6 s6).toNat)
  case atStart=>exact⟨k0,k0+1,l,rfl,by go_num,by omega,by omega,rfl,HK,H rfl,h2,x2⟩
  case round=>
   clear h2 x2 b2 HK;obtain⟨i,j,dk,rfl,rfl,hij,hjl,hdl,HT,HD,hr,hx⟩:=hrel;by_cases hlt:j<l.length
   ·have hj:j<dk.length:=by omega
    have hxj:dk[j]=l[j]:=by
     have e1:(dk.drop j)[0]? =(l.drop j)[0]? :=by rw[HD.out]
     simp only[List.getElem?_drop,Nat.add_zero] at e1;rw[ax hj,ax hlt] at e1;injection e1
    obtain⟨b',hb',hb,⟨c0,c1,c2,c3,c4⟩,_⟩:=jY hr hj;injection hb' with hb'
    injection hb' with hb'
    subst hb';rw[hxj] at c0 c1 c2 c3 c4;have HX:=H (show l[j]∈l from List.getElem_mem hlt);have HN:=H (jN (p:=fun x=> !p x) hlt);have HDN:=H (show dk.drop (j+1)=l.drop (j+1) by
     have:=HD.out;rw[←List.drop_drop (j:=j) (i:=1),←List.drop_drop (j:=j) (i:=1),this])
    clear hxj;generalize l[j]=x at c0 c1 c2 c3 c4 HX HN;have h3:=hr.new #[D F x.m.page,D F x.m.size,D F x.m.frame,D F x.m.rights,Y x.dirty] 143;have x3:=hx.alloc (.cells #[D F x.m.page,D F x.m.size,D F x.m.frame,D F x.m.rights,Y x.dirty] 143);have hc:=HP.out x HX.out _ h3.right.right;clear hr hx;cases hq:p x with
    |true=>
     rw[hq] at hc;go_wp2_with(refine hc.mono ?_;rintro e w' ⟨rfl,b4⟩)
     have h4:=(h3.below b4).right;have x4:=x3.below b4;go_roundw
     case rel=>exact⟨i,j+1,dk,rfl,by go_num,by omega,by omega,hdl,H (by rw[HT.out,HN.out,hq];simp),HDN,h4,x4⟩
     case measure=>simp[b6];omega
    |false=>
     rw[hq] at hc;have hi:i<dk.length:=by omega
     go_wp2_with(refine hc.mono ?_;rintro e w' ⟨rfl,b4⟩;have h4:=h3.below b4;obtain⟨a0,a1,a2,a3,a4⟩:=h4.cells5;obtain⟨b',hb',gb,⟨g0,g1,g2,g3,g4⟩,f0,f1,f2,f3,f4⟩:=jY h4.right hi;injection hb' with hb';injection hb' with hb';subst hb')
     have h5:=uS h4.right hi x;go_roundw
     case rel=>
      refine⟨i+1,j+1,dk.set i x,by go_num,by go_num,by omega,by omega,by rw[List.length_set];exact hdl,H ?_,H ?_,h5,((((((x3.below b4).set _ _).set _ _).set _ _).set _ _).set _ _)⟩
      ·rw[HN.out,hq,←HT.out,List.take_succ_eq_append_getElem (by rw[List.length_set];exact hi),List.getElem_set_self,List.take_set_of_le (Nat.le_refl i)]
       simp
      ·rw[List.drop_set_of_lt (by omega),HDN.out]
     case measure=>simp[b6];omega
   ·have hje:j=l.length:=by omega
    subst hje;obtain⟨zs,hcl⟩:∃zs,∀ty,(Builtin.clear_ #[61] ty #[.slice (C ⟨b,i*5,z⟩) (l.length - i) (c - i)]).run prog wr= .ok (.tuple #[]) (wr.setCells b (i*5) zs):=⟨_,rn hr hij⟩;have hci:¬l.length≤i:=by omega
    have hfin:=uT hr (Nat.le_of_lt hij) zs;have hf:dk.take i=l.filter fun x=> !p x:=by rw[HT.out,List.take_length]
    have hfl:(l.filter fun x=> !p x).length =i:=by rw[←hf,List.length_take];omega
    have hF:=H hf;have hFL:=H hfl;clear hf hfl hr;go_wp2_with fail
    go_ret;rw[hFL.out,←hF.out];exact⟨rfl,hfin,Ext.setCells _ _ _ hx⟩
theorem wO:(prog.info? 143).map (fun i=>(i.zero,i.size,i.bytes))=C (C lnZero,5,40):=by kernel_rfl
theorem uU{l:List Ln}:∀u∈bW l,u.oneCell'=ad:=by
 intro u hu;obtain⟨x,_,hx⟩:=List.mem_flatMap.1 hu;simp[Ln.cells] at hx;rcases hx with rfl|rfl|rfl|rfl|rfl<;>rfl
theorem tm{w:U}{R:ab}{g n c:Nat}{l:List Ln}(h:T w (gO (.slice (C (J g 0 z)) n c) l*R))(k:Nat):
  ∀j u,((bW l).drop (k*5))[j]? =C u→w.cell? ⟨g,k*5+j,z⟩=C u:=by
 intro j u hu;rw[List.getElem?_drop] at hu;obtain rfl:=fS h;obtain⟨b,hb,_,hc,_⟩:=bk (e:=143) (size:=5) h hu;injection hb with hb
 injection hb with hb
 subst hb;exact hc
theorem tq(l:List Ln)(i j g n c:Nat)(R:ab)(w:U)(hij:i<j)(hj:j≤n)(h:T w (gO (.slice (C (J g 0 z)) n c) l*R)):
  a5 prog 112 #[.slice (C (J g 0 z)) n c,.int .i64 i,.int .i64 j] w
   (cR (.slice (C (J g 0 z)) (i+(n - j)) c) (gO (.slice (C (J g 0 z)) (i+(n - j)) c) (l.take i++l.drop j)*R) w):=by
 obtain rfl:=fS h;obtain⟨hbig,hnc⟩:=eL h;obtain⟨i0,hi0,hz0,hz1,hz2⟩:=info_parts wO;obtain⟨A,hA,hnews⟩:∃A:bs,(if c=j then C ((J g 0 z):bs) else C ⟨g,j*5,z⟩)=C A∧bL (∀t u,((bW l).drop (j*5))[t]? =C u→w.drew.cell? (A.add t)=C u):=by
  by_cases hc:c=j
  ·refine⟨(J g 0 z),by simp[hc],fun t u hu=> ?_⟩
   rw[List.drop_eq_nil_of_le (by rw[jo];omega)] at hu;simp at hu
  ·refine⟨⟨g,j*5,z⟩,by simp[hc],fun t u hu=> ?_⟩
   rw[Addr.add_lit];exact tm h j t u hu
 have s1:bL (((bW l).drop (j*5)).length =(l.length - j)*5):=by rw[List.length_drop,jo];show _=_;omega
 have s2:bL (∀u∈(bW l).drop (j*5),u.oneCell'=ad):=fun u hu=>uU u (List.mem_of_mem_drop hu);have s3:bL (∀t,t< ((bW l).drop (j*5)).length →(w.drew.cell? ⟨g,0+i*5+t,z⟩).isSome =ad∧w.drew.frozen? ⟨g,0+i*5+t,z⟩=M):=by
  intro t ht;rw[s1.out] at ht;obtain⟨b,hb,_,hc,hf⟩:=bk (e:=143) (size:=5) h (i:=i*5+t) (u:=(bW l)[i*5+t]'(by rw[jo];omega)) (ax _);injection hb with hb
  injection hb with hb
  subst hb;rw[Nat.zero_add];exact⟨by show(w.cell? _).isSome =ad;rw[hc];rfl,hf⟩
 have hic:i≤c:=by omega
 have hne:((i:Int)==(j:Int))=M:=beq_eq_false_iff_ne.2 (by omega);go_enter func112,ntmps112;go_wp2_with fail
 go_region_law (refine step_append_room rfl (.tmp 22) (.tmp 25) 61 rfl 143 i0 5 underlying61 hi0 hz1 g 0 i c (by simp[Act.eval,Act.put]) A (l.length - j) (c - j) ((bW l).drop (j*5)) (by simp[Act.eval,Act.put]) s1.out hnews.out s2.out (by omega) s3.out ?_)
 have hn':i+(l.length - j)<l.length:=by omega
 have h1:=bd (e:=143) (size:=5) ((bW l).drop (j*5)) (i*5) h.drew (by rw[s1.out];omega);have hz:(l.take i++l.drop j).length =i+(l.length - j):=by simp;omega
 obtain⟨zs,hcl⟩:∃zs,∀ty,(Builtin.clear_ #[61] ty #[.slice (C ⟨g,(i+(l.length - j))*5,z⟩) (l.length - (i+(l.length - j))) (c - (i+(l.length - j)))]).run prog (w.drew.setCells g (i*5) ((bW l).drop (j*5)))= .ok (.tuple #[]) ((w.drew.setCells g (i*5) ((bW l).drop (j*5))).setCells g ((i+(l.length - j))*5) zs):=by
  refine⟨_,fun ty=>gP _ _ _ ty lnZero 5 underlying61 rR rfl (by intro v hv;simp[lnZero,Value.cells] at hv;rcases hv with rfl|rfl<;>rfl) g _ _ _ (by omega) (by omega) (fun t ht=> ?_) (fun t ht=> ?_)⟩
  all_goals
   obtain⟨b,hb,_,hc,hf⟩:=bk (e:=143) (size:=5) h1 (i:=(i+(l.length - j))*5+t) (ax (by rw[h1.rowLens.1];omega));injection hb with hb
   injection hb with hb
   subst hb
  ·rw[hc];rfl
  ·exact hf
 have hfin:T ((w.drew.setCells g (i*5) ((bW l).drop (j*5))).setCells g ((i+(l.length - j))*5) zs) (gO (.slice (C (J g 0 z)) (i+(l.length - j)) c) (l.take i++l.drop j)*R):=by
  have:=Has.rowDelete (e:=143) (size:=5) (i:=i) (j:=j) h.drew (by omega) hj zs;unfold gO;rw[hz,gx];have e1:(bW l).take (i*5)=bW (l.take i):=gu gK l i;have e2:(bW l).drop (j*5)=bW (l.drop j):=gr gK l j;rw[←e1,←e2];exact this
 have hx:b8 w ((w.drew.setCells g (i*5) ((bW l).drop (j*5))).setCells g ((i+(l.length - j))*5) zs):=Ext.setCells _ _ _ (Ext.setCells _ _ _ (a6 w).drew);clear h1 s1 s2 s3 hnews hA h hz;generalize (w.drew.setCells g (i*5) ((bW l).drop (j*5)))=w1 at*
 generalize i+(l.length - j)=n' at*
 have hcn:¬c≤n':=by omega
 have hnn:(n':Int)≤(l.length:Int):=by omega
 go_wp2_with fail
 go_ret;exact⟨rfl,hfin,hx⟩
theorem n5{w:U}{R:ab}{b:Nat}{v0 v1 v2 v3 v4:bb}(h:T w (aa b #[v0,v1,v2,v3,v4] 143*R)):(loadVar 143 (J b 0 z)).run prog w= .ok (.agg #[v0,v1,v2,v3,v4]) w:=
 run_loadVar_row w b 143 143 _ _ _ h.heap underlying143 rfl (by kernel_rfl)
theorem Has.set5{w:U}{R:ab}{b:Nat}{v0 v1 v2 v3 v4:bb}{t:TypeId}(h:T w (aa b #[v0,v1,v2,v3,v4] t*R))(u0 u1 u2 u3 u4:bb):
  T (((((w.setCell (J b 0 z) u0).setCell (J b 1 z) u1).setCell (J b 2 z) u2).setCell (J b 3 z) u3).setCell (J b 4 z) u4) (aa b #[u0,u1,u2,u3,u4] t*R):=
 ((((h.set 0 u0).set 1 u1).set 2 u2).set 3 u3).set 4 u4
theorem Has.frees5{w:U}{R:ab}{b:Nat}{v0 v1 v2 v3 v4:bb}{t:TypeId}(h:T w (aa b #[v0,v1,v2,v3,v4] t*R)):
  w.frozen? (J b 0 z)=M∧w.frozen? (J b 1 z)=M∧w.frozen? (J b 2 z)=M∧w.frozen? (J b 3 z)=M∧w.frozen? (J b 4 z)=M:=
 ⟨h.free 0,h.free 1,h.free 2,h.free 3,h.free 4⟩
def kW(p:Nat)(A:Option bs)(c:Nat)(l:List Ln)(R:ab):ab:=aa p #[.slice A l.length c] 189*(gO (.slice A l.length c) l*R)
def bZ(p:Nat)(l:List Ln):ab:=ex fun A=>ex fun c=>kW p A c l (eY True)
theorem jZ(R:ab):eY True*R=R:=by
 funext h
 apply propext;constructor
 ·rintro⟨h1,h2,d,rfl,⟨_,rfl⟩,q⟩
  have:Hpm.union Hpm.emp h2=h2:=by funext b;simp[Hpm.union,Hpm.emp]
  rw[this];exact q
 ·intro q
  exact⟨Hpm.emp,h,fun b=> .inl rfl,by funext b;simp[Hpm.union,Hpm.emp],⟨trivial,rfl⟩,q⟩
theorem fz{p:Nat}{l:List Ln}{R:ab}{w:U}(h:T w (bZ p l*R)):∃A c,T w (kW p A c l R):=by
 unfold bZ at h;obtain⟨g,h⟩:=aF.1 h;obtain⟨vf,h⟩:=aF.1 h;refine⟨g,vf,?_⟩;unfold kW at h⊢;simpa only[aX,jZ] using h
theorem iw{p c:Nat}{A:Option bs}{l:List Ln}{R:ab}{w:U}(h:T w (kW p A c l R)):T w (bZ p l*R):=by
 unfold bZ;refine aF.2 ⟨A,aF.2 ⟨c,?_⟩⟩;unfold kW at h⊢;simpa only[aX,jZ] using h
def zF(l:List Ln):Prop:=∀x∈l,cW x.m.page
theorem AI(R:ab)(w:U)(h:T w R):a5 prog 95 #[] w fun e w'=>∃p,cR (.pointer (C (J p 0 z))) (bZ p []*R) w e w':=by
 have h1:=h.new #[.slice z 0 0] 189;have h2:T (w.alloc (.cells #[.slice z 0 0] 189)) (kW w.heap.size z 0 [] R):=(bz h1).p2;go_enter func95,ntmps95;go_wp2;go_ret;exact⟨_,rfl,iw h2,(a6 w).alloc _⟩
theorem oR(x:Ln)(k:Int)(X:Nat)(R:ab)(w:U)(hx:cW x.m.page)(hk:cW k)(h:T w (aa X #[D F k] 3*R)):
  a5 prog 160 #[x.val,.pointer (C (J X 0 z))] w (cd (Y (over x.m k)) w):=by
 have h1:=h.new #[D F x.m.page,D F x.m.size,D F x.m.frame,D F x.m.rights,Y x.dirty] 143;have bl:=(Below.refl w.heap.size w).alloc (Nat.le_refl _) (.cells #[D F x.m.page,D F x.m.size,D F x.m.frame,D F x.m.rights,Y x.dirty] 143);have c0:=h1.right.cell 0;have hX:=h1.right.lt;obtain⟨d0,d1,d2,d3,d4⟩:=h1.cells5;go_enter func160,ntmps160;go_wp2_with(refine(j0 x.m k _ hx hk).mono ?_;rintro e w2 ⟨rfl,b2⟩)
 go_ret;exact⟨rfl,bl.trans (b2.mono bl.size)⟩
theorem oS(x:Ln)(m:Mp)(X:Nat)(R:ab)(w:U)(hx:cW x.m.page)(hm:cW m.page)(h:T w (aa X #[D F m.page,D F m.size,D F m.frame,D F m.rights] 39*R)):
  a5 prog 186 #[x.val,.pointer (C (J X 0 z))] w (cd (Y (dV x.m m)) w):=by
 have h1:=h.new #[D F x.m.page,D F x.m.size,D F x.m.frame,D F x.m.rights,Y x.dirty] 143;have bl:=(Below.refl w.heap.size w).alloc (Nat.le_refl _) (.cells #[D F x.m.page,D F x.m.size,D F x.m.frame,D F x.m.rights,Y x.dirty] 143);obtain⟨c0,c1,c2,c3⟩:=h1.right.cells4;have hX:=h1.right.lt;obtain⟨d0,d1,d2,d3,d4⟩:=h1.cells5;go_enter func186,ntmps186;go_wp2_with(refine(qn x.m m _ hx hm).mono ?_;rintro e w2 ⟨rfl,b2⟩)
 go_ret;exact⟨rfl,bl.trans (b2.mono bl.size)⟩
theorem uV(p:Nat)(R:ab)(w:U)(h:T w (bZ p []*R)):
  a5 prog 64 #[.pointer (C (J p 0 z))] w (cR (Y M) (bZ p []*R) w):=by
 obtain⟨A,c,h⟩:=fz h;have c0:w.cell? (J p 0 z)=C (.slice A 0 c):=h.cell 0;have hp:=h.lt;go_enter func64,ntmps64;go_wp2_with fail
 go_ret;exact⟨rfl,iw h,a6 _⟩
theorem n6(p:Nat)(l:List Ln)(R:ab)(w:U)(hl:0<l.length)(h:T w (bZ p l*R)):
  a5 prog 64 #[.pointer (C (J p 0 z))] w (cR (Y ad) (bZ p l.tail*R) w):=by
 obtain⟨A,c,h⟩:=fz h;obtain⟨g,rfl,_⟩:=jY (k:=0) h.right hl;have hC:=tq l 0 1 g l.length c _ w (by omega) (by omega) h.p2;have hne:((l.length:Int)==0)=M:=beq_eq_false_iff_ne.2 (by omega);have e1:l.take 0++l.drop 1=l.tail:=by simp
 have e2:0+(l.length - 1)=l.tail.length:=by simp
 rw[e1,e2] at hC;clear e1 e2;have c0:w.cell? (J p 0 z)=C (.slice (C (J g 0 z)) l.length c):=h.cell 0;have hp:=h.lt;have hbig:=(eL h.right).1;clear h;generalize l.tail=l' at*
 go_enter func64,ntmps64;go_wp2_with(refine hC.mono ?_;rintro e w2 ⟨rfl,h2,x2⟩;have d0:=h2.right.lt;have d1:=h2.right.free 0;have d2:=h2.right.cell 0)
 go_ret;exact⟨rfl,iw (h2.p2.set 0 _),x2.set _ _⟩
theorem xE(p:Nat)(l:List Ln)(m:Mp)(R:ab)(w:U)(hok:zF l)(hm:cW m.page)(h:T w (bZ p l*R)):
  a5 prog 168 #[.pointer (C (J p 0 z)),.agg #[D F m.page,D F m.size,D F m.frame,D F m.rights]] w (cR (D F ((l.length:Int) - (bf l m).length)) (bZ p (bf l m)*R) w):=by
 have hmf:∀(fn:Fn) (first cap:Array bb) (w:U),(Instr.makeFunc fn first cap).run prog w= .ok (.func fn first cap) w:=fun _ _ _ _=>rfl;obtain⟨A,c,h⟩:=fz h;have h1:=h.new #[D F m.page,D F m.size,D F m.frame,D F m.rights] 39;have x1:=(a6 w).alloc (.cells #[D F m.page,D F m.size,D F m.frame,D F m.rights] 39);have hbig:=(eL h.right).1;have c0:=h1.right.cell 0;have hp:=h1.right.lt;have h2:T (w.alloc (.cells #[D F m.page,D F m.size,D F m.frame,D F m.rights] 39)) (gO (.slice A l.length c) l*(aa w.heap.size #[D F m.page,D F m.size,D F m.frame,D F m.rights] 39*(aa p #[.slice A l.length c] 189*R))):=h1.eq (by unfold kW;(simp only[aX,ay,cF]));have hC:=nE l (fun x=>dV x.m m) 186 #[.pointer (C (J w.heap.size 0 z))] A l.length c _ _ h2 (enters_of func186 (by kernel_rfl) rfl) (fun x hx W hW=>oS x m _ _ W (hok x hx) hm hW);have hle:(bf l m).length ≤l.length:=List.length_filter_le _ _;have hC2:a5 prog 185 #[.slice A l.length c,.func (.func 186) #[] #[.pointer (C (J w.heap.size 0 z))]] (w.alloc (.cells #[D F m.page,D F m.size,D F m.frame,D F m.rights] 39))
   (cR (.slice A (bf l m).length c) (gO (.slice A (bf l m).length c) (bf l m)*(aa w.heap.size #[D F m.page,D F m.size,D F m.frame,D F m.rights] 39*(aa p #[.slice A l.length c] 189*R))) (w.alloc (.cells #[D F m.page,D F m.size,D F m.frame,D F m.rights] 39))):=hC
 clear hC h2 h1 h;generalize bf l m=l' at*
 go_enter func168,ntmps168;go_wp2_with(refine hC2.mono ?_;rintro e w2 ⟨rfl,h2,x2⟩;have d0:=h2.right.right.lt;have d1:=h2.right.right.free 0;have d2:=h2.right.right.cell 0)
 have h3:T w2 (aa p #[.slice A l.length c] 189*(gO (.slice A l'.length c) l'*R)):=h2.p2.right.p2;go_ret;exact⟨by go_num,iw (h3.set 0 _),(x1.trans x2).set _ _⟩
def zG:Option Ln→bb
 |none=>lnZero
 |some x=>x.val
theorem zH(p:Nat)(l:List Ln)(k:Int)(R:ab)(w:U)(hok:zF l)(hk:cW k)(h:T w (bZ p l*R)):
  a5 prog 102 #[.pointer (C (J p 0 z)),.int .i64 k] w (cd (.tuple #[zG (cb l k),Y (cb l k).isSome]) w):=by
 have hmf:∀(fn:Fn) (first cap:Array bb) (w:U),(Instr.makeFunc fn first cap).run prog w= .ok (.func fn first cap) w:=fun _ _ _ _=>rfl;obtain⟨A,c,h⟩:=fz h;have h1:=h.new #[D F k] 3;have h2:=h1.new #[D F 0,D F 0,D F 0,D F 0,Y M] 143;have H2:=((aT w).new #[D F k] 3).new #[D F 0,D F 0,D F 0,D F 0,Y M] 143;have x2:=((a6 w).alloc (.cells #[D F k] 3)).alloc (.cells #[D F 0,D F 0,D F 0,D F 0,Y M] 143);simp only[a7] at h2 H2;have hbig:=(eL h.right).1;have hL:T ((w.alloc (.cells #[D F k] 3)).alloc (.cells #[D F 0,D F 0,D F 0,D F 0,Y M] 143)) (gO (.slice A l.length c) l*(aa w.heap.size #[D F k] 3*(aa (w.heap.size+1) #[D F 0,D F 0,D F 0,D F 0,Y M] 143*(aa p #[.slice A l.length c] 189*R)))):=h2.eq (by unfold kW;(simp only[aX,ay,cF]));have hC:=kV l (fun x=>over x.m k) 160 #[.pointer (C (J w.heap.size 0 z))] A l.length c _ _ hL (enters_of func160 (by kernel_rfl) rfl) (fun x hx W hW=>oR x k _ _ W (hok x hx) hk hW);have c0:=h2.right.right.cell 0;have hp:=h2.right.right.lt;have he:oQ (fun x=>over x.m k) l=Tl.idx l k:=rfl;rw[he] at hC;clear he h h1 h2;rcases Tl.idx_find l k with ⟨e1,e2⟩|⟨j,hj,e1,e2,_⟩
 ·rw[e1]
  rw[e2] at hC;clear e1 e2;go_enter func102,ntmps102;go_wp2_with(refine hC.mono ?_;rintro e w2 ⟨rfl,b2⟩;have H3:=H2.below b2;have x3:=x2.below b2;obtain⟨d0,d1,d2,d3,d4⟩:=H3.cells5;obtain⟨f0,f1,f2,f3,f4⟩:=H3.frees5;have fl:=H3.lt)
  refine am (fun wz=>T wz (aa (w.heap.size+1) #[D F 0,D F 0,D F 0,D F 0,Y M] 143*(aa w.heap.size #[D F k] 3*bE w w.heap.size))∧b8 w wz) ⟨H3.set5 _ _ _ _ _,ah⟩ ?_;rintro wz ⟨hz,xz⟩;exact Z (aA results102 rfl rfl (n5 hz)) rfl ⟨rfl,ar hz.right.right xz⟩
 ·rw[e2]
  rw[e1] at hC;clear e1 e2;go_enter func102,ntmps102;go_wp2_with(refine hC.mono ?_;rintro e w2 ⟨rfl,b2⟩;have H3:=H2.below b2;have x3:=x2.below b2;obtain⟨d0,d1,d2,d3,d4⟩:=H3.cells5;obtain⟨f0,f1,f2,f3,f4⟩:=H3.frees5;have fl:=H3.lt;have k0:=(hL.below b2).right.right.right.cell 0;have kp:=(hL.below b2).right.right.right.lt;obtain⟨g,rfl,gb,⟨g0,g1,g2,g3,g4⟩,_⟩:=jY (hL.below b2) hj)
  generalize l[j]=x at*
  refine am (fun wz=>T wz (aa (w.heap.size+1) #[D F x.m.page,D F x.m.size,D F x.m.frame,D F x.m.rights,Y x.dirty] 143*(aa w.heap.size #[D F k] 3*bE w w.heap.size))∧b8 w wz) ⟨H3.set5 _ _ _ _ _,ah⟩ ?_;rintro wz ⟨hz,xz⟩;exact Z (aA results102 rfl rfl (n5 hz)) rfl ⟨rfl,ar hz.right.right xz⟩
theorem jO(x:Ln):∀u∈x.cells,u.oneCell'=ad:=by
 intro u hx;simp[Ln.cells] at hx;rcases hx with rfl|rfl|rfl|rfl|rfl<;>rfl
theorem qd{p c X:Nat}{A:Option bs}{l:List Ln}{x:Ln}{cs:Array bb}{t:TypeId}{R:ab}{w:U}(h:T w (aa p #[.slice A (l.length+1) c] 189*(ct 143 5 (.slice A (l.length+1) c) (l.length+1) (bW l++x.cells)*(aa X cs t*R)))):
  T w (bZ p (l++[x])*R):=by
 have h1:=h.drop3;refine iw (A:=A) (c:=c) ?_;unfold kW gO;rw[show(l++[x]).length =l.length+1 by simp,gx,show bW [x]=x.cells by simp[bW]];exact h1
theorem yC(p:Nat)(l:List Ln)(x:Ln)(R:ab)(w:U)(hc:bc x.m≠0)(h:T w (bZ p l*R)):
  a5 prog 107 #[.pointer (C (J p 0 z)),.agg #[D F x.m.page,D F x.m.size,D F x.m.frame,D F x.m.rights,Y x.dirty]] w (cR (Y M) (bZ p l*R) w):=by
 have h1:=h.new #[D F x.m.page,D F x.m.size,D F x.m.frame,D F x.m.rights,Y x.dirty] 143;have x1:=(a6 w).alloc (.cells #[D F x.m.page,D F x.m.size,D F x.m.frame,D F x.m.rights,Y x.dirty] 143);obtain⟨d0,d1,d2,d3,d4⟩:=h1.cells5;have hn:(bc x.m !=0)=ad:=by simpa using hc
 have HC:=H (j3 x.m);generalize bc x.m=k at*
 go_enter func107,ntmps107;go_wp2_with(refine(HC.out _).mono ?_;rintro e w2 ⟨rfl,b2⟩)
 go_ret;exact⟨rfl,h1.right.below b2,x1.below b2⟩
theorem wP(p:Nat)(l:List Ln)(x:Ln)(R:ab)(w:U)(hok:zF l)(hx:cW x.m.page)(hl:l.length≤1000)(hc:bc x.m=0)(h:T w (bZ p l*R)):
  a5 prog 107 #[.pointer (C (J p 0 z)),.agg #[D F x.m.page,D F x.m.size,D F x.m.frame,D F x.m.rights,Y x.dirty]] w (cR (Y ad) (bZ p (cc (bf l x.m)++[x])*R) w):=by
 have h1:=h.new #[D F x.m.page,D F x.m.size,D F x.m.frame,D F x.m.rights,Y x.dirty] 143;have x1:=(a6 w).alloc (.cells #[D F x.m.page,D F x.m.size,D F x.m.frame,D F x.m.rights,Y x.dirty] 143);obtain⟨d0,d1,d2,d3,d4⟩:=h1.cells5;have HC:=H (j3 x.m);rw[hc] at HC;have HD:=H (fun R w h=>xE p l x.m R w hok hx h);have hle:(bf l x.m).length ≤l.length:=List.length_filter_le _ _;clear hc;generalize bf l x.m=l1 at*
 by_cases h6:l1.length=6
 ·have hr:cc l1=l1.tail:=by unfold cc;rw[if_pos h6]
  rw[hr];go_enter func107,ntmps107;go_wp2_with fail
  refine(HC.out _).mono ?_;rintro e w2 ⟨rfl,b2⟩;have h2:=h1.below b2;have x2:=x1.below b2;clear d0 d1 d2 d3 d4;obtain⟨d0,d1,d2,d3,d4⟩:=h2.cells5;go_wp2_with fail
  refine(HD.out _ _ h2.p2).mono ?_;rintro e w3 ⟨rfl,h3,x3⟩;have x3:=x2.trans x3;obtain⟨A,c,h3o⟩:=fz h3;have c0:w3.cell? (J p 0 z)=C (.slice A l1.length c):=h3o.cell 0;rw[h6] at c0;have cp:=h3o.lt;clear d0 d1 d2 d3 d4 h1 h2 x1 x2 h HC HD;go_wp2_with fail
  refine(n6 p l1 _ _ (by omega) h3).mono ?_;rintro e wz ⟨rfl,h4,x4⟩;have hl':l1.tail.length≤1000:=by simp[h6]
  generalize l1.tail=l2 at*
  have x4:=x3.trans x4;obtain⟨A,c,h4⟩:=fz h4;clear c0 cp h3o h3 hle h6 hr x3;go_wp2_with fail
  have hsm:=(eL h4.right).1;have c0:=h4.cell 0;have cp:=h4.lt;have cf:=h4.free 0;obtain⟨d0,d1,d2,d3,d4⟩:=h4.right.right.cells5;have dl:=h4.right.right.lt;have hrow:=(h4.drew.p2).alloc (.cells #[D F x.m.page,D F x.m.size,D F x.m.frame,D F x.m.rights,Y x.dirty] 143);go_region_law (refine co rfl (.tmp 25) (.tmp 27) 61 rfl underlying61 uR _ _ _ (by simp[Act.eval]) hrow (J wz.heap.size 0 z) 1 1 x.cells (by simp[Act.eval]) rfl (eC wz.drew x.cells 143) (jO x) (by unfold maxLen;omega) (by omega) ?_;intro A' c' w5 h5 x5;have g0:=h5.right.lt;have g1:=h5.right.free 0;have g2:=h5.right.cell 0)
  all_goals
   go_wp2_with fail
   go_ret;exact⟨rfl,qd (h5.p2.set 0 _),((x4.drew.alloc _).trans x5).set _ _⟩
 ·have hr:cc l1=l1:=by unfold cc;rw[if_neg h6]
  rw[hr];have h6':((l1.length:Int)==6)=M:=beq_eq_false_iff_ne.2 (by omega);clear hr h6;go_enter func107,ntmps107;go_wp2_with fail
  refine(HC.out _).mono ?_;rintro e w2 ⟨rfl,b2⟩;have h2:=h1.below b2;have x2:=x1.below b2;clear d0 d1 d2 d3 d4;obtain⟨d0,d1,d2,d3,d4⟩:=h2.cells5;go_wp2_with fail
  refine(HD.out _ _ h2.p2).mono ?_;rintro e wz ⟨rfl,h3,x3⟩;have x4:=x2.trans x3;obtain⟨A,c,h4⟩:=fz h3;clear d0 d1 d2 d3 d4 h1 h2 x1 x2 h HC HD h3;have hl':l1.length≤1000:=by omega
  clear hle;have c0:wz.cell? (J p 0 z)=C (.slice A l1.length c):=h4.cell 0;have cp:=h4.lt;go_wp2_with fail
  have hsm:=(eL h4.right).1;have c0:=h4.cell 0;have cp:=h4.lt;have cf:=h4.free 0;obtain⟨d0,d1,d2,d3,d4⟩:=h4.right.right.cells5;have dl:=h4.right.right.lt;have hrow:=(h4.drew.p2).alloc (.cells #[D F x.m.page,D F x.m.size,D F x.m.frame,D F x.m.rights,Y x.dirty] 143);go_region_law (refine co rfl (.tmp 25) (.tmp 27) 61 rfl underlying61 uR _ _ _ (by simp[Act.eval]) hrow (J wz.heap.size 0 z) 1 1 x.cells (by simp[Act.eval]) rfl (eC wz.drew x.cells 143) (jO x) (by unfold maxLen;omega) (by omega) ?_;intro A' c' w5 h5 x5;have g0:=h5.right.lt;have g1:=h5.right.free 0;have g2:=h5.right.cell 0)
  all_goals
   go_wp2_with fail
   go_ret;exact⟨rfl,qd (h5.p2.set 0 _),((x4.drew.alloc _).trans x5).set _ _⟩
theorem Tl.Ok.lok{l:List Ln}(h:bP l):zF l:=fun x hx=>by
 have hm:=fh (h.chk x hx);have:=hm.p0;have:=hm.p1;have:=hm.sp;exact⟨by omega,by omega⟩
theorem AJ(p:Nat)(l:List Ln)(x:Ln)(R:ab)(w:U)(hl:bP l)(hx:cW x.m.page)(h:T w (bZ p l*R)):
  a5 prog 107 #[.pointer (C (J p 0 z)),.agg #[D F x.m.page,D F x.m.size,D F x.m.frame,D F x.m.rights,Y x.dirty]] w (cR (Y (decide (bc x.m=0))) (bZ p (cn l x)*R) w):=by
 unfold cn;by_cases hc:bc x.m=0
 ·rw[if_pos hc,decide_eq_true hc]
  exact wP p l x R w hl.lok hx (Nat.le_trans hl.len (by omega)) hc h
 ·rw[if_neg hc,decide_eq_false hc]
  exact yC p l x R w hc h
theorem yD(p:Nat)(l:List Ln)(R:ab)(w:U)(h:T w (bZ p l*R)):
  a5 prog 64 #[.pointer (C (J p 0 z))] w (cR (Y (decide (0<l.length))) (bZ p (cq l)*R) w):=by
 unfold cq;cases l with
 |nil=>exact uV p R w h
 |cons x l=>exact n6 p (x::l) R w (by simp) h
def cJ(b:Nat)(l:List Ln)(root:Int)(k:Ck):ab:=ex fun t=>ex fun v=>aa b #[.pointer (C (J t 0 z)),.pointer (C (J v 0 z))] 126*(bZ t l*aZ v root k)
theorem gg{b:Nat}{l:List Ln}{root:Int}{k:Ck}{R:ab}{w:U}(h:T w (cJ b l root k*R)):
  ∃t v,T w (aa b #[.pointer (C (J t 0 z)),.pointer (C (J v 0 z))] 126*(bZ t l*(aZ v root k*R))):=by
 unfold cJ at h;obtain⟨t,h⟩:=aF.1 h;obtain⟨v,h⟩:=aF.1 h;exact⟨t,v,h.eq (by ac_rfl)⟩
theorem eU{b t v:Nat}{l:List Ln}{root:Int}{k:Ck}{R:ab}{w:U}(h:T w (aa b #[.pointer (C (J t 0 z)),.pointer (C (J v 0 z))] 126*(bZ t l*(aZ v root k*R)))):T w (cJ b l root k*R):=by
 unfold cJ;exact aF.2 ⟨t,aF.2 ⟨v,h.eq (by ac_rfl)⟩⟩
theorem AK(root:Int)(R:ab)(w:U)(h:T w R):a5 prog 54 #[D F root] w fun e w'=>∃b,cR (.pointer (C (J b 0 z))) (cJ b [] root Ck.zero*R) w e w':=by
 go_enter func54,ntmps54;go_wp2_with fail
 refine(AI _ _ h).mono ?_;rintro e w2 ⟨t,rfl,h2,x2⟩;go_wp2_with fail
 refine(At root _ _ h2).mono ?_;rintro e w3 ⟨v,rfl,h3,x3⟩;have h4:=eU ((h3.new #[.pointer (C (J t 0 z)),.pointer (C (J v 0 z))] 126).eq (show _=aa w3.heap.size #[.pointer (C (J t 0 z)),.pointer (C (J v 0 z))] 126*(bZ t []*(aZ v root Ck.zero*R)) by ac_rfl));have x4:=(x2.trans x3).alloc (.cells #[.pointer (C (J t 0 z)),.pointer (C (J v 0 z))] 126);go_wp2_with fail
 go_ret;exact⟨_,rfl,h4,x4⟩
theorem uW(b:Nat)(l:List Ln)(root:Int)(k:Ck)(R:ab)(w:U)(h:T w (cJ b l root k*R)):a5 prog 71 #[.pointer (C (J b 0 z))] w (Same (Y k.on) w):=by
 obtain⟨t,v,h⟩:=gg h;obtain⟨c0,c1⟩:=h.cells2;have cl:=h.lt;have HO:=H (Au v root k _ _ h.right.p2);clear h;go_enter func71,ntmps71;go_wp2_with(refine HO.out.mono ?_;rintro e w2 ⟨rfl,rfl⟩)
 go_ret;exact⟨rfl,rfl⟩
theorem wQ(b:Nat)(l:List Ln)(root:Int)(k:Ck)(R:ab)(w:U)(h:T w (cJ b l root k*R)):a5 prog 72 #[.pointer (C (J b 0 z))] w (cd (.agg #[D F k.a.page,D F k.a.kind,Y k.a.user]) w):=by
 obtain⟨t,v,h⟩:=gg h;have h1:=(aT w).new #[D F 0,D F 0,Y M] 41;have hw:=h.alloc (.cells #[D F 0,D F 0,Y M] 41);have x1:=(a6 w).alloc (.cells #[D F 0,D F 0,Y M] 41);have HA:=H (fun R X h=>wq v root k R X h);obtain⟨c0,c1⟩:=hw.cells2;have cl:=hw.lt;clear h;go_enter func72,ntmps72;go_wp2_with fail
 refine(HA.out _ _ (hw.right.right)).mono ?_;rintro e w2 ⟨rfl,b2⟩;have h2:=h1.below b2;have x2:=x1.below b2;obtain⟨r0,r1,r2⟩:=h2.cells3;obtain⟨g0,g1,g2⟩:=h2.frees3;have rl:=h2.lt;go_wp2_with fail
 refine am (fun wz=>T wz (aa w.heap.size #[D F k.a.page,D F k.a.kind,Y k.a.user] 41*(bE w w.heap.size))∧b8 w wz) ⟨h2.set3 _ _ _,ah⟩ ?_;rintro wz ⟨hz,xz⟩;exact Z (aG results72 rfl (fG hz)) rfl ⟨rfl,ar hz.right xz⟩
set_option maxHeartbeats 2000000 in
theorem zI(b:Nat)(l:List Ln)(root:Int)(k:Ck)(m:Mp)(hl:bP l)(hm:cW m.page)(R:ab)(w:U)(h:T w (cJ b l root k*R)):
  a5 prog 109 #[.pointer (C (J b 0 z)),.agg #[D F m.page,D F m.size,D F m.frame,D F m.rights]] w (cR (.tuple #[]) (cJ b (bf l m) root (k.again root)*R) w):=by
 obtain⟨t,v,h⟩:=gg h;have h1:T _ (bZ t l*(aa b #[.pointer (C (J t 0 z)),.pointer (C (J v 0 z))] 126*(aa w.heap.size #[D F m.page,D F m.size,D F m.frame,D F m.rights] 39*(aZ v root k*R)))):=(h.new #[D F m.page,D F m.size,D F m.frame,D F m.rights] 39).eq (by ac_rfl);have x1:=(a6 w).alloc (.cells #[D F m.page,D F m.size,D F m.frame,D F m.rights] 39);have HD:=H (fun R X h=>xE t l m R X hl.lok hm h);have HA:=H (fun R X h=>ut v root k R X h);clear h hl hm;go_enter func109,ntmps109;go_upto_region 1 with fail;generalize w.alloc _=w1 at*
 generalize w.heap.size=X at*
 obtain⟨c0,c1⟩:=h1.right.cells2;have cl:=h1.right.lt;obtain⟨m0,m1,m2,m3⟩:=h1.right.right.cells4;have ml:=h1.right.right.lt;have HK:=H (fun(w':U) (P Q:ab) (h:T w' (P*(aa b #[.pointer (C (J t 0 z)),.pointer (C (J v 0 z))] 126*(aa X #[D F m.page,D F m.size,D F m.frame,D F m.rights] 39*Q))))=>(by
  obtain⟨b0,_⟩:=h.right.cells2;obtain⟨m0,m1,m2,m3⟩:=h.right.right.cells4;exact⟨b0,m0,m1,m2,m3⟩:w'.cell? (J b 0 z)=C (.pointer (C (J t 0 z)))∧w'.cell? (J X 0 z)=C (D F m.page)∧w'.cell? (J X 1 z)=C (D F m.size)∧w'.cell? (J X 2 z)=C (D F m.frame)∧w'.cell? (J X 3 z)=C (D F m.rights)))
 have h2:=h1.drew;have x2:=x1.drew;go_region_held3 (fun w'=>w'.cell? (J b 0 z)=C (.pointer (C (J t 0 z)))∧w'.cell? (J X 0 z)=C (D F m.page)∧w'.cell? (J X 1 z)=C (D F m.size)∧w'.cell? (J X 2 z)=C (D F m.frame)∧w'.cell? (J X 3 z)=C (D F m.rights)) (first|(with_reducible exact HK.out _ _ _ h2)|(with_reducible exact HK.out _ _ _ h3)|go_keep) (first|(go_at_call 168;(with_reducible refine(HD.out _ _ h2).mono ?_);rintro e w3 ⟨rfl,h3,x3⟩))
 have x4:=x2.trans x3;clear h1 h2 x1 x2 x3 c0 c1 cl m0 m1 m2 m3 ml HK HD;obtain⟨c0,c1⟩:=h3.right.cells2;have cl:=h3.right.lt;have h4:T w3 (aZ v root k*(bZ t (bf l m)*(aa b #[.pointer (C (J t 0 z)),.pointer (C (J v 0 z))] 126*(aa X #[D F m.page,D F m.size,D F m.frame,D F m.rights] 39*R)))):=h3.eq (by ac_rfl);go_wp2_with fail
 refine(HA.out _ _ h4).mono ?_;rintro e w5 ⟨rfl,h5,x5⟩;have h6:=eU (h5.eq (show _=aa b #[.pointer (C (J t 0 z)),.pointer (C (J v 0 z))] 126*(bZ t (bf l m)*(aZ v root (k.again root)*(aa X #[D F m.page,D F m.size,D F m.frame,D F m.rights] 39*R))) by ac_rfl));go_wp2_with fail
 exact Z (v:= .tuple #[]) (by simp[results,results109]) rfl ⟨rfl,h6.p2.right,x4.trans x5⟩
set_option maxHeartbeats 4000000 in
theorem wR(b f:Nat)(l:List Ln)(root:Int)(k:Ck)(s:Ms)(fin d:Bool)(af afr ari p0 p1 p2 p3 code:Int)(k':Ck)(s':Ms)(L:List Ln)(hp:bL (aL s root k=⟨k',s',⟨fin,⟨af,afr,ari⟩,⟨⟨p0,p1,p2,p3⟩,d⟩⟩,code⟩))(HL:bL (L=if fin=ad∧af=0 then cn l ⟨⟨p0,p1,p2,p3⟩,d⟩ else l))(hl:bP l)(hs:s.Ok)(hk:k.Ok)(R:ab)(W:U)(h:T W (cJ b l root k*(ai f s*R))):
  a5 prog 62 #[.pointer (C (J b 0 z)),.pointer (C (J f 0 z))] W
   (cR (.tuple #[.agg #[D F af,D F afr,D F ari],Y fin,D F code]) (cJ b L root k'*(ai f s'*R)) W):=by
 have hp0:cW p0:=by have:=mZ s root k;rw[hp.out] at this;exact this
 have hbad:code≠0→fin=M∧af=0∧afr=0∧ari=0:=fun hc=>by
  have:=tw (s:=s) (root:=root) (c:=k) (by rw[hp.out];exact hc);rw[hp.out] at this;injection this with h1 h2 h3
  injection h2 with h4 h5 h6
  exact⟨h1,h4,h5,h6⟩
 obtain⟨t,v,h⟩:=gg h;have HS:=H (fun R X h=>zZ v f root k s hs hk R X h);rw[hp.out] at HS;dsimp only[yX] at HS;have h1:T _ (aZ v root k*(ai f s*(aa b #[.pointer (C (J t 0 z)),.pointer (C (J v 0 z))] 126*(bZ t l*(aa W.heap.size #[D F 0,D F 0,D F 0] 34*R))))):=(h.new #[D F 0,D F 0,D F 0] 34).eq (by ac_rfl);have x1:=(a6 W).alloc (.cells #[D F 0,D F 0,D F 0] 34);clear h hs hk hp;go_enter func62,ntmps62;go_upto_region 1 with fail;generalize W.alloc _=W1 at*
 generalize W.heap.size=X0 at*
 obtain⟨c0,c1⟩:=h1.right.right.cells2;have cl:=h1.right.right.lt;go_wp2_with fail
 refine(HS.out _ _ h1).mono ?_;rintro e w3 ⟨rfl,h3,x3⟩;have h4:T _ (aa w3.heap.size #[Y fin,D F af,D F afr,D F ari,D F p0,D F p1,D F p2,D F p3,Y d] 181*(aa X0 #[D F 0,D F 0,D F 0] 34*(aa b #[.pointer (C (J t 0 z)),.pointer (C (J v 0 z))] 126*(bZ t l*(aZ v root k'*(ai f s'*R)))))):=(h3.new #[Y fin,D F af,D F afr,D F ari,D F p0,D F p1,D F p2,D F p3,Y d] 181).eq (by ac_rfl);have x4:=(x1.trans x3).alloc (.cells #[Y fin,D F af,D F afr,D F ari,D F p0,D F p1,D F p2,D F p3,Y d] 181);clear h1 x1 h3 x3 HS c0 c1 cl;go_upto_region 2 with fail;generalize w3.alloc _=w4 at*
 generalize w3.heap.size=V at*
 obtain⟨v0,v1,v2,v3,v4,v5,v6,v7,v8⟩:=h4.cells9;have vl:=h4.lt;obtain⟨r0,r1,r2⟩:=h4.right.cells3;obtain⟨g0,g1,g2⟩:=h4.right.frees3;have rl:=h4.right.lt;obtain⟨c0,c1⟩:=h4.right.right.cells2;have cl:=h4.right.right.lt;by_cases hc:code=0
 ·subst hc
  clear hbad;by_cases hcond:fin=ad∧af=0
  ·have HL':=HL.out
   rw[if_pos hcond] at HL';clear HL;obtain⟨rfl,rfl⟩:=hcond;have HP:=H (fun R X h=>AJ t l ⟨⟨p0,p1,p2,p3⟩,d⟩ R X hl hp0 h);dsimp only at HP;rw[←HL'] at HP;clear hp0 hl HL';generalize decide (bc ⟨p0,p1,p2,p3⟩=0)=okp at*
   have h5:T w4.drew (bZ t l*(aa V #[Y ad,D F 0,D F afr,D F ari,D F p0,D F p1,D F p2,D F p3,Y d] 181*(aa b #[.pointer (C (J t 0 z)),.pointer (C (J v 0 z))] 126*(aa X0 #[D F 0,D F 0,D F 0] 34*(aZ v root k'*(ai f s'*R)))))):=h4.drew.eq (by ac_rfl);have x5:=x4.drew;have HK:=H (fun(w':U) (P Q:ab) (h:T w' (P*(aa V #[Y ad,D F 0,D F afr,D F ari,D F p0,D F p1,D F p2,D F p3,Y d] 181*(aa b #[.pointer (C (J t 0 z)),.pointer (C (J v 0 z))] 126*Q))))=>(by
    obtain⟨_,_,_,_,m4,m5,m6,m7,m8⟩:=h.right.cells9;obtain⟨b0,_⟩:=h.right.right.cells2;exact⟨b0,m4,m5,m6,m7,m8⟩:w'.cell? (J b 0 z)=C (.pointer (C (J t 0 z)))∧w'.cell? (J V 4 z)=C (D F p0)∧w'.cell? (J V 5 z)=C (D F p1)∧w'.cell? (J V 6 z)=C (D F p2)∧w'.cell? (J V 7 z)=C (D F p3)∧w'.cell? (J V 8 z)=C (Y d)))
   go_upto_region 5 with fail;go_region_held3 (fun w'=>w'.cell? (J b 0 z)=C (.pointer (C (J t 0 z)))∧w'.cell? (J V 4 z)=C (D F p0)∧w'.cell? (J V 5 z)=C (D F p1)∧w'.cell? (J V 6 z)=C (D F p2)∧w'.cell? (J V 7 z)=C (D F p3)∧w'.cell? (J V 8 z)=C (Y d)) (first|(with_reducible exact HK.out _ _ _ h5)|(with_reducible exact HK.out _ _ _ h6)|go_keep) (first|(go_at_call 107;(with_reducible refine(HP.out _ _ h5).mono ?_);rintro e w6 ⟨rfl,h6,x6⟩))
   have x7:=x5.trans x6;clear h4 h5 x4 x5 x6 HP HK v0 v1 v2 v3 v4 v5 v6 v7 v8 vl r0 r1 r2 g0 g1 g2 rl c0 c1 cl;have h7:T w6 (aa X0 #[D F 0,D F 0,D F 0] 34*(aa V #[Y ad,D F 0,D F afr,D F ari,D F p0,D F p1,D F p2,D F p3,Y d] 181*(aa b #[.pointer (C (J t 0 z)),.pointer (C (J v 0 z))] 126*(bZ t L*(aZ v root k'*(ai f s'*R)))))):=h6.eq (by ac_rfl);clear h6;obtain⟨v0,v1,v2,v3,v4,v5,v6,v7,v8⟩:=h7.right.cells9;have vl:=h7.right.lt;have vn:=h7.ne;have vn':=vn.symm;obtain⟨r0,r1,r2⟩:=h7.cells3;obtain⟨g0,g1,g2⟩:=h7.frees3;have rl:=h7.lt;go_upto_region 6 with fail;go_region
   all_goals
    go_wp2_with fail
    refine am (fun wz=>T wz (aa X0 #[D F 0,D F afr,D F ari] 34*(aa V #[Y ad,D F 0,D F afr,D F ari,D F p0,D F p1,D F p2,D F p3,Y d] 181*(aa b #[.pointer (C (J t 0 z)),.pointer (C (J v 0 z))] 126*(bZ t L*(aZ v root k'*(ai f s'*R))))))∧b8 W wz) ⟨by first|exact(h7.set3 _ _ _).drew |exact h7.drew.set3 _ _ _,ah⟩ ?_;rintro wz ⟨hz,xz⟩;exact Z (bg results62 rfl rfl rfl (bj hz)) rfl ⟨rfl,eU hz.right.right,xz⟩
  ·have HL':=HL.out
   rw[if_neg hcond] at HL';clear HL;subst HL';have h7:=h4.p2;have vn:=h7.ne;have vn':=vn.symm;go_upto_region 4 with fail;go_cut [29] from 22 to 29 (fun s29 wx=>s29=Y M∧wx=w4)
   case first=>
    cases fin with
    |false=>
     go_wp2_with fail
     go_meet
     case rel=>exact⟨rfl,rfl⟩
    |true=>
     have ha:(af==0)=M:=by simpa using hcond
     clear hcond;go_wp2_with fail
     go_meet
     case rel=>exact⟨rfl,rfl⟩
   case rest=>
    obtain⟨rfl,rfl⟩:=hcut;go_upto_region 6 with fail;go_region
    all_goals
     go_wp2_with fail
     refine am (fun wz=>T wz (aa X0 #[D F af,D F afr,D F ari] 34*(aa V #[Y fin,D F af,D F afr,D F ari,D F p0,D F p1,D F p2,D F p3,Y d] 181*(aa b #[.pointer (C (J t 0 z)),.pointer (C (J v 0 z))] 126*(bZ t L*(aZ v root k'*(ai f s'*R))))))∧b8 W wz) ⟨by first|exact(h7.set3 _ _ _).drew |exact h7.drew.set3 _ _ _,ah⟩ ?_;rintro wz ⟨hz,xz⟩;exact Z (bg results62 rfl rfl rfl (bj hz)) rfl ⟨rfl,eU hz.right.right,xz⟩
 ·obtain⟨rfl,rfl,rfl,rfl⟩:=hbad hc
  have hn:(code !=0)=ad:=by simpa using hc
  have HL':=HL.out;rw[if_neg (by simp)] at HL';clear HL hc;subst HL';go_wp2_with fail
  refine am (fun wz=>T wz (aa X0 #[D F 0,D F 0,D F 0] 34*(aa V #[Y M,D F 0,D F 0,D F 0,D F p0,D F p1,D F p2,D F p3,Y d] 181*(aa b #[.pointer (C (J t 0 z)),.pointer (C (J v 0 z))] 126*(bZ t L*(aZ v root k'*(ai f s'*R))))))∧b8 W wz) ⟨h4.p2.set3 _ _ _,ah⟩ ?_;rintro wz ⟨hz,xz⟩;exact Z (bg results62 rfl rfl rfl (bj hz)) rfl ⟨rfl,eU hz.right.right,xz⟩
theorem yE(b f:Nat)(l:List Ln)(root:Int)(k:Ck)(s:Ms)(hl:bP l)(hs:s.Ok)(hk:k.Ok)(R:ab)(W:U)(h:T W (cJ b l root k*(ai f s*R))):
  a5 prog 62 #[.pointer (C (J b 0 z)),.pointer (C (J f 0 z))] W
   (cR (.tuple #[.agg #[D F (aL s root k).r.an.fin,D F (aL s root k).r.an.frame,D F (aL s root k).r.an.rights],Y (aL s root k).r.fin,D F (aL s root k).code]) (cJ b (gQ l (aL s root k).r) root (aL s root k).c *(ai f (aL s root k).s *R)) W):=
 wR b f l root k s _ _ _ _ _ _ _ _ _ _ _ _ (gQ l (aL s root k).r) (H rfl) (H rfl) hl hs hk R W h
theorem ro(b:Nat)(l:List Ln)(root:Int)(k:Ck)(a:Ac)(ha:aq a≠0)(R:ab)(W:U)(h:T W (cJ b l root k*R)):
  a5 prog 61 #[.pointer (C (J b 0 z)),.agg #[D F a.page,D F a.kind,Y a.user]] W (cR (.tuple #[.agg #[D F 0,D F 0,D F 0],Y M,D F (aq a)]) (cJ b l root k*R) W):=by
 have hn:(aq ⟨a.page,a.kind,a.user⟩ !=0)=ad:=by simpa using ha
 have h1:T _ (aa (W.heap.size+1) #[D F 0,D F 0,D F 0] 34*(aa W.heap.size #[D F a.page,D F a.kind,Y a.user] 41*(cJ b l root k*R))):=((h.new #[D F a.page,D F a.kind,Y a.user] 41).new #[D F 0,D F 0,D F 0] 34).eq (by simp only[a7]);have x1:=((a6 W).alloc (.cells #[D F a.page,D F a.kind,Y a.user] 41)).alloc (.cells #[D F 0,D F 0,D F 0] 34);have HC:=H (fun X=>fq a.page a.kind a.user X);clear h;go_enter func61,ntmps61;go_upto_region 1 with fail;generalize (W.alloc (.cells #[D F a.page,D F a.kind,Y a.user] 41)).alloc (.cells #[D F 0,D F 0,D F 0] 34)=W1 at*
 generalize W.heap.size+1=X1 at*
 generalize W.heap.size=X0 at*
 obtain⟨a0,a1,a2⟩:=h1.right.cells3;have al:=h1.right.lt;go_wp2_with fail
 refine(HC.out _).mono ?_;rintro e w2 ⟨rfl,b2⟩;have h2:=h1.below b2;have x2:=x1.below b2;clear h1 x1 a0 a1 a2 al b2 HC;rw[show aq a=aq ⟨a.page,a.kind,a.user⟩ from rfl];generalize aq ⟨a.page,a.kind,a.user⟩=ca at*
 obtain⟨r0,r1,r2⟩:=h2.cells3;obtain⟨g0,g1,g2⟩:=h2.frees3;have rl:=h2.lt;go_wp2_with fail
 refine am (fun wz=>T wz (aa X1 #[D F 0,D F 0,D F 0] 34*(aa X0 #[D F a.page,D F a.kind,Y a.user] 41*(cJ b l root k*R)))∧b8 W wz) ⟨h2.set3 _ _ _,ah⟩ ?_;rintro wz ⟨hz,xz⟩;exact Z (bg results61 rfl rfl rfl (bj hz)) rfl ⟨rfl,hz.right.right,xz⟩
theorem qe(b:Nat)(l:List Ln)(root:Int)(k:Ck)(a:Ac)(ha:aq a=0)(hon:k.on=ad)(R:ab)(W:U)(h:T W (cJ b l root k*R)):
  a5 prog 61 #[.pointer (C (J b 0 z)),.agg #[D F a.page,D F a.kind,Y a.user]] W (cR (.tuple #[.agg #[D F 0,D F 0,D F 0],Y M,D F 8]) (cJ b l root k*R) W):=by
 have HO:=H (fun R X h=>uW b l root k R X h);rw[hon] at HO;have ha':aq ⟨a.page,a.kind,a.user⟩=0:=ha;clear ha;have h1:T _ (aa (W.heap.size+1) #[D F 0,D F 0,D F 0] 34*(aa W.heap.size #[D F a.page,D F a.kind,Y a.user] 41*(cJ b l root k*R))):=((h.new #[D F a.page,D F a.kind,Y a.user] 41).new #[D F 0,D F 0,D F 0] 34).eq (by simp only[a7]);have x1:=((a6 W).alloc (.cells #[D F a.page,D F a.kind,Y a.user] 41)).alloc (.cells #[D F 0,D F 0,D F 0] 34);have HC:=H (fun X=>fq a.page a.kind a.user X);clear h;go_enter func61,ntmps61;go_upto_region 1 with fail;generalize (W.alloc (.cells #[D F a.page,D F a.kind,Y a.user] 41)).alloc (.cells #[D F 0,D F 0,D F 0] 34)=W1 at*
 generalize W.heap.size+1=X1 at*
 generalize W.heap.size=X0 at*
 obtain⟨a0,a1,a2⟩:=h1.right.cells3;have al:=h1.right.lt;go_wp2_with fail
 refine(HC.out _).mono ?_;rintro e w2 ⟨rfl,b2⟩;have h2:=h1.below b2;have x2:=x1.below b2;clear h1 x1 a0 a1 a2 al b2 HC;rw[ha'];go_wp2_with fail
 refine(HO.out _ _ h2.right.right).mono ?_;rintro e w3 ⟨rfl,rfl⟩;obtain⟨r0,r1,r2⟩:=h2.cells3;obtain⟨g0,g1,g2⟩:=h2.frees3;have rl:=h2.lt;go_wp2_with fail
 refine am (fun wz=>T wz (aa X1 #[D F 0,D F 0,D F 0] 34*(aa X0 #[D F a.page,D F a.kind,Y a.user] 41*(cJ b l root k*R)))∧b8 W wz) ⟨h2.set3 _ _ _,ah⟩ ?_;rintro wz ⟨hz,xz⟩;exact Z (bg results61 rfl rfl rfl (bj hz)) rfl ⟨rfl,hz.right.right,xz⟩
def Ln.zero:Ln:=⟨Mp.zero,M⟩
def mV(x:Ln)(a:Ac):Bool:=x.dirty||(a.kind !=1|| !may x.m.rights a)
set_option maxHeartbeats 4000000 in
theorem jP(b:Nat)(l:List Ln)(root:Int)(k:Ck)(a:Ac)(ha:aq a=0)(hon:k.on=M)(hl:bP l)(hp:cW a.page)(x:Ln)(ok hit:Bool)(an:An)(q:Bq)
  (hx:bL (zG (cb l a.page)=x.val∧(cb l a.page).isSome =ok)) (hh:bL (hit=(ok&&mV x a))) (hAn:bL (bF x.m a=an)) (hq:bL (q=if hit=ad then⟨an,ad,0,k⟩ else⟨An.zero,M,0,k.begin root a⟩)) (R:ab) (W:U) (h:T W (cJ b l root k*R)):
  a5 prog 61 #[.pointer (C (J b 0 z)),.agg #[D F a.page,D F a.kind,Y a.user]] W (cR (.tuple #[.agg #[D F q.an.fin,D F q.an.frame,D F q.an.rights],Y q.fin,D F q.code]) (cJ b l root q.c*R) W):=by
 have HO:=H (fun R X h=>uW b l root k R X h);rw[hon] at HO;have ha':aq ⟨a.page,a.kind,a.user⟩=0:=ha;have HF:=H (fun t R X h=>zH t l a.page R X hl.lok hp h);rw[hx.out.1,hx.out.2] at HF;have HB:=H (fun v R X h=>yg v root k a R X h);have hbc:nC k a=0:=by unfold nC;rw[if_neg (by rw[ha];simp),if_neg (by rw[hon];simp)]
 have hbs:oJ k root a=k.begin root a:=by unfold oJ;rw[if_pos hbc]
 rw[hbc,hbs] at HB;have HM:=H (fun X=>lZ x.m.rights a.page a.kind a.user X);have HA:=H (fun X=>kG x.m a.page a.kind a.user X);rw[show bF x.m ⟨a.page,a.kind,a.user⟩=an from hAn.out] at HA;clear ha hon hl hp hx hbc hbs hAn;have h1:T _ (aa (W.heap.size+1) #[D F 0,D F 0,D F 0] 34*(aa W.heap.size #[D F a.page,D F a.kind,Y a.user] 41*(cJ b l root k*R))):=((h.new #[D F a.page,D F a.kind,Y a.user] 41).new #[D F 0,D F 0,D F 0] 34).eq (by simp only[a7]);have x1:=((a6 W).alloc (.cells #[D F a.page,D F a.kind,Y a.user] 41)).alloc (.cells #[D F 0,D F 0,D F 0] 34);have HC:=H (fun X=>fq a.page a.kind a.user X);clear h;go_enter func61,ntmps61;go_upto_region 1 with fail;generalize (W.alloc (.cells #[D F a.page,D F a.kind,Y a.user] 41)).alloc (.cells #[D F 0,D F 0,D F 0] 34)=W1 at*
 generalize W.heap.size+1=X1 at*
 generalize W.heap.size=X0 at*
 obtain⟨a0,a1,a2⟩:=h1.right.cells3;have al:=h1.right.lt;go_wp2_with fail
 refine(HC.out _).mono ?_;rintro e w2 ⟨rfl,b2⟩;have h2:=h1.below b2;have x2:=x1.below b2;clear h1 x1 a0 a1 a2 al b2 HC;rw[ha'];go_wp2_with fail
 refine(HO.out _ _ h2.right.right).mono ?_;rintro e w3 ⟨rfl,rfl⟩;obtain⟨t,v,h3⟩:=gg (h2.eq (show _=cJ b l root k*(aa X1 #[D F 0,D F 0,D F 0] 34*(aa X0 #[D F a.page,D F a.kind,Y a.user] 41*R)) by ac_rfl));have h4:T _ (bZ t l*(aa b #[.pointer (C (J t 0 z)),.pointer (C (J v 0 z))] 126*(aa X0 #[D F a.page,D F a.kind,Y a.user] 41*(aa X1 #[D F 0,D F 0,D F 0] 34*(aZ v root k*R))))):=h3.eq (by ac_rfl);have x4:=x2;clear HO ha' h2 h3 x2;obtain⟨c0,c1⟩:=h4.right.cells2;have cl:=h4.right.lt;obtain⟨a0,a1,a2⟩:=h4.right.right.cells3;have al:=h4.right.right.lt;have HK:=H (fun(w':U) (P Q:ab) (h:T w' (P*(aa b #[.pointer (C (J t 0 z)),.pointer (C (J v 0 z))] 126*(aa X0 #[D F a.page,D F a.kind,Y a.user] 41*Q))))=>(by
  obtain⟨b0,_⟩:=h.right.cells2;obtain⟨m0,_⟩:=h.right.right.cells3;exact⟨b0,m0⟩:w'.cell? (J b 0 z)=C (.pointer (C (J t 0 z)))∧w'.cell? (J X0 0 z)=C (D F a.page)))
 go_upto_region 6 with fail;go_cut [8,9] from 19 to 29 (fun s8 s9 wx=>∃V:Nat,s8= .pointer (C (J V 0 z))∧s9=Y ok∧T wx (aa V #[D F x.m.page,D F x.m.size,D F x.m.frame,D F x.m.rights,Y x.dirty] 143*(bZ t l*(aa b #[.pointer (C (J t 0 z)),.pointer (C (J v 0 z))] 126*(aa X0 #[D F a.page,D F a.kind,Y a.user] 41*(aa X1 #[D F 0,D F 0,D F 0] 34*(aZ v root k*R))))))∧b8 W wx)
 case first=>
  have h5:=h4.drew;have x5:=x4.drew;have z5:T (w2.alloc (.cells #[D F 0,D F 0,D F 0,D F 0,Y M] 143)).drew (bZ t l*(aa b #[.pointer (C (J t 0 z)),.pointer (C (J v 0 z))] 126*(aa X0 #[D F a.page,D F a.kind,Y a.user] 41*(aa w2.heap.size #[D F 0,D F 0,D F 0,D F 0,Y M] 143*(aa X1 #[D F 0,D F 0,D F 0] 34*(aZ v root k*R)))))):=(h4.new #[D F 0,D F 0,D F 0,D F 0,Y M] 143).drew.eq (by ac_rfl);have y5:=(x4.alloc (.cells #[D F 0,D F 0,D F 0,D F 0,Y M] 143)).drew;go_region_held3 (fun w'=>w'.cell? (J b 0 z)=C (.pointer (C (J t 0 z)))∧w'.cell? (J X0 0 z)=C (D F a.page)) (first|(with_reducible exact HK.out _ _ _ h5)|(with_reducible exact HK.out _ _ _ z5)|(with_reducible exact HK.out _ _ _ hL)|(with_reducible exact HK.out _ _ _ (hL.alloc _))|(with_reducible exact HK.out _ _ _ gL)|(with_reducible exact HK.out _ _ _ gL.right)|(with_reducible exact HK.out _ _ _ (gL.set5 _ _ _ _ _).right)|go_keep) (first|(go_at_call 102;first|((with_reducible refine(HF.out _ _ _ h5).mono ?_);rintro e w5 ⟨rfl,b5⟩;have hL:=h5.below b5;have xL:=x5.below b5)|((with_reducible refine(HF.out _ _ _ z5).mono ?_);rintro e w5 ⟨rfl,b5⟩;have gL:T w5 (aa w2.heap.size #[D F 0,D F 0,D F 0,D F 0,Y M] 143*(bZ t l*(aa b #[.pointer (C (J t 0 z)),.pointer (C (J v 0 z))] 126*(aa X0 #[D F a.page,D F a.kind,Y a.user] 41*(aa X1 #[D F 0,D F 0,D F 0] 34*(aZ v root k*R)))))):=(z5.below b5).eq (by ac_rfl);have yL:=y5.below b5;obtain⟨z0,z1,z2,z3,z4⟩:=gL.cells5;obtain⟨y0,y1,y2,y3,y4⟩:=gL.frees5;have zl:=gL.lt)))
  all_goals
   go_wp2_with fail
   go_meet
   case rel=>first|exact⟨_,rfl,rfl,hL.new #[D F x.m.page,D F x.m.size,D F x.m.frame,D F x.m.rights,Y x.dirty] 143,xL.alloc _⟩|exact⟨_,rfl,rfl,gL.set5 _ _ _ _ _,((((yL.set _ _).set _ _).set _ _).set _ _).set _ _⟩
 case rest=>
  clear h4 x4 c0 c1 cl a0 a1 a2 al HK HF;obtain⟨V,rfl,rfl,h5,x5⟩:=hcut;obtain⟨v0,v1,v2,v3,v4⟩:=h5.cells5;have vl:=h5.lt;obtain⟨c0,c1⟩:=h5.right.right.cells2;have cl:=h5.right.right.lt;obtain⟨a0,a1,a2⟩:=h5.r3.cells3;have al:=h5.r3.lt;go_upto_region 7 with fail;go_cut [46] from 29 to 46 (fun s46 wx=>s46=Y hit∧T wx (aa V #[D F x.m.page,D F x.m.size,D F x.m.frame,D F x.m.rights,Y x.dirty] 143*(bZ t l*(aa b #[.pointer (C (J t 0 z)),.pointer (C (J v 0 z))] 126*(aa X0 #[D F a.page,D F a.kind,Y a.user] 41*(aa X1 #[D F 0,D F 0,D F 0] 34*(aZ v root k*R))))))∧b8 W wx)
  case first=>
   replace hh:=hh.out;unfold mV at hh;cases ok with
   |false=>
    replace hh:hit=M:=hh;subst hh;go_wp2_with fail
    go_meet
    case rel=>exact⟨rfl,h5,x5⟩
   |true=>
    cases hd:x.dirty with
    |true=>
     rw[hd] at hh v4;clear hd;replace hh:hit=ad:=hh;subst hh;go_wp2_with fail
     go_meet
     case rel=>exact⟨rfl,h5,x5⟩
    |false=>
     rw[hd] at hh v4;clear hd;by_cases hk:a.kind=1
     ·have hk1:(a.kind !=1)=M:=by simpa using hk
      rw[hk1] at hh;replace hh:hit= !may x.m.rights ⟨a.page,a.kind,a.user⟩:=hh;generalize may x.m.rights ⟨a.page,a.kind,a.user⟩=my at*
      subst hh;clear hk;go_wp2_with fail
      refine(HM.out _).mono ?_;rintro e w7 ⟨rfl,b7⟩;have h7:=h5.below b7;have x7:=x5.below b7;cases my
      all_goals
       go_wp2_with fail
       go_meet
       case rel=>exact⟨rfl,h7,x7⟩
     ·have hk1:(a.kind !=1)=ad:=by simpa using hk
      rw[hk1] at hh;replace hh:hit=ad:=hh;subst hh;clear hk;go_wp2_with fail
      go_meet
      case rel=>exact⟨rfl,h5,x5⟩
  case rest=>
   clear h5 x5 v0 v1 v2 v3 v4 vl c0 c1 cl a0 a1 a2 al hh HM;obtain⟨rfl,h5,x5⟩:=hcut;obtain⟨v0,v1,v2,v3,v4⟩:=h5.cells5;have vl:=h5.lt;obtain⟨c0,c1⟩:=h5.right.right.cells2;have cl:=h5.right.right.lt;obtain⟨a0,a1,a2⟩:=h5.r3.cells3;have al:=h5.r3.lt;have hq:=hq.out;cases hit with
   |true=>
    rw[if_pos rfl] at hq;subst hq;try dsimp only
    go_wp2_with fail
    refine(HA.out _).mono ?_;rintro e w7 ⟨rfl,b7⟩;have h7:T w7 (aa X1 #[D F 0,D F 0,D F 0] 34*(aa V #[D F x.m.page,D F x.m.size,D F x.m.frame,D F x.m.rights,Y x.dirty] 143*(bZ t l*(aa b #[.pointer (C (J t 0 z)),.pointer (C (J v 0 z))] 126*(aa X0 #[D F a.page,D F a.kind,Y a.user] 41*(aZ v root k*R)))))):=(h5.below b7).eq (by ac_rfl);have x7:=x5.below b7;obtain⟨r0,r1,r2⟩:=h7.cells3;obtain⟨g0,g1,g2⟩:=h7.frees3;have rl:=h7.lt;go_wp2_with fail
    refine am (fun wz=>T wz (aa X1 #[D F an.fin,D F an.frame,D F an.rights] 34*(aa V #[D F x.m.page,D F x.m.size,D F x.m.frame,D F x.m.rights,Y x.dirty] 143*(bZ t l*(aa b #[.pointer (C (J t 0 z)),.pointer (C (J v 0 z))] 126*(aa X0 #[D F a.page,D F a.kind,Y a.user] 41*(aZ v root k*R))))))∧b8 W wz) ⟨h7.set3 _ _ _,ah⟩ ?_;rintro wz ⟨hz,xz⟩;exact Z (bg results61 rfl rfl rfl (bj hz)) rfl ⟨rfl,(eU (hz.right.right.eq (show _=aa b #[.pointer (C (J t 0 z)),.pointer (C (J v 0 z))] 126*(bZ t l*(aZ v root k*(aa X0 #[D F a.page,D F a.kind,Y a.user] 41*R))) by ac_rfl))).p2.right,xz⟩
   |false=>
    rw[if_neg (by simp)] at hq;subst hq;try dsimp only[An.zero]
    have h6:T wc.drew (aZ v root k*(aa b #[.pointer (C (J t 0 z)),.pointer (C (J v 0 z))] 126*(aa X0 #[D F a.page,D F a.kind,Y a.user] 41*(aa X1 #[D F 0,D F 0,D F 0] 34*(aa V #[D F x.m.page,D F x.m.size,D F x.m.frame,D F x.m.rights,Y x.dirty] 143*(bZ t l*R)))))):=h5.drew.eq (by ac_rfl);have x6:=x5.drew;have h6x:T wc (aa X1 #[D F 0,D F 0,D F 0] 34*(aZ v root k*(aa b #[.pointer (C (J t 0 z)),.pointer (C (J v 0 z))] 126*(aa X0 #[D F a.page,D F a.kind,Y a.user] 41*(aa V #[D F x.m.page,D F x.m.size,D F x.m.frame,D F x.m.rights,Y x.dirty] 143*(bZ t l*R)))))):=h5.eq (by ac_rfl);obtain⟨r0,r1,r2⟩:=h6x.cells3;obtain⟨g0,g1,g2⟩:=h6x.frees3;have rl:=h6x.lt;have h6s:=h6x.set3 (D F 0) (D F 0) (D F 0);have h6d:T _ (aZ v root k*(aa b #[.pointer (C (J t 0 z)),.pointer (C (J v 0 z))] 126*(aa X0 #[D F a.page,D F a.kind,Y a.user] 41*(aa X1 #[D F 0,D F 0,D F 0] 34*(aa V #[D F x.m.page,D F x.m.size,D F x.m.frame,D F x.m.rights,Y x.dirty] 143*(bZ t l*R)))))):=h6s.drew.eq (by ac_rfl);have x6d:=(((x5.set (J X1 0 z) (D F 0)).set (J X1 1 z) (D F 0)).set (J X1 2 z) (D F 0)).drew;have HK:=H (fun(w':U) (P Q:ab) (h:T w' (P*(aa b #[.pointer (C (J t 0 z)),.pointer (C (J v 0 z))] 126*(aa X0 #[D F a.page,D F a.kind,Y a.user] 41*Q))))=>(by
     obtain⟨_,b0⟩:=h.right.cells2;obtain⟨m0,m1,m2⟩:=h.right.right.cells3;exact⟨b0,m0,m1,m2⟩:w'.cell? (J b 1 z)=C (.pointer (C (J v 0 z)))∧w'.cell? (J X0 0 z)=C (D F a.page)∧w'.cell? (J X0 1 z)=C (D F a.kind)∧w'.cell? (J X0 2 z)=C (Y a.user)))
    have HKS:=H (fun(w':U) (P Q S:ab) (h:T w' (P*(Q*(S*(aa X1 #[D F 0,D F 0,D F 0] 34*(aa V #[D F x.m.page,D F x.m.size,D F x.m.frame,D F x.m.rights,Y x.dirty] 143*(bZ t l*R)))))))=>(by
     have h7:T w' (aa X1 #[D F 0,D F 0,D F 0] 34*(P*(Q*(S*(aa V #[D F x.m.page,D F x.m.size,D F x.m.frame,D F x.m.rights,Y x.dirty] 143*(bZ t l*R)))))):=h.eq (by ac_rfl);exact(h7.set3 (D F 0) (D F 0) (D F 0)).eq (by ac_rfl):T (((w'.setCell (J X1 0 z) (D F 0)).setCell (J X1 1 z) (D F 0)).setCell (J X1 2 z) (D F 0)) (P*(Q*(S*(aa X1 #[D F 0,D F 0,D F 0] 34*(aa V #[D F x.m.page,D F x.m.size,D F x.m.frame,D F x.m.rights,Y x.dirty] 143*(bZ t l*R))))))))
    clear h5 x5 HA;go_upto_region 9 with fail;go_region_held3 (fun w'=>w'.cell? (J b 1 z)=C (.pointer (C (J v 0 z)))∧w'.cell? (J X0 0 z)=C (D F a.page)∧w'.cell? (J X0 1 z)=C (D F a.kind)∧w'.cell? (J X0 2 z)=C (Y a.user)) (first|(with_reducible exact HK.out _ _ _ h6)|(with_reducible exact HK.out _ _ _ h6d)|(with_reducible exact HK.out _ _ _ hL)|(with_reducible exact HK.out _ _ _ sL)|go_keep) (first|(go_at_call 105;first|((with_reducible refine(HB.out _ _ _ h6).mono ?_);rintro e w7 ⟨rfl,hL,xL⟩;obtain⟨s0,s1,s2⟩:=hL.r3.cells3;obtain⟨t0,t1,t2⟩:=hL.r3.frees3;have sl:=hL.r3.lt;have sL:=HKS.out _ _ _ _ hL)|((with_reducible refine(HB.out _ _ _ h6d).mono ?_);rintro e w7 ⟨rfl,hL,xL⟩;obtain⟨s0,s1,s2⟩:=hL.r3.cells3;obtain⟨t0,t1,t2⟩:=hL.r3.frees3;have sl:=hL.r3.lt;have sL:=HKS.out _ _ _ _ hL)))
    all_goals
     go_wp2_with fail
     refine am (fun wz=>T wz (aa X1 #[D F 0,D F 0,D F 0] 34*(aZ v root (k.begin root a)*(aa b #[.pointer (C (J t 0 z)),.pointer (C (J v 0 z))] 126*(aa X0 #[D F a.page,D F a.kind,Y a.user] 41*(aa V #[D F x.m.page,D F x.m.size,D F x.m.frame,D F x.m.rights,Y x.dirty] 143*(bZ t l*R))))))∧b8 W wz) ⟨by first|exact sL.eq (by ac_rfl)|exact hL.eq (by ac_rfl),ah⟩ ?_;rintro wz ⟨hz,xz⟩;exact Z (bg results61 rfl rfl rfl (bj hz)) rfl ⟨rfl,(eU (hz.right.eq (show _=aa b #[.pointer (C (J t 0 z)),.pointer (C (J v 0 z))] 126*(bZ t l*(aZ v root (k.begin root a)*(aa X0 #[D F a.page,D F a.kind,Y a.user] 41*(aa V #[D F x.m.page,D F x.m.size,D F x.m.frame,D F x.m.rights,Y x.dirty] 143*R)))) by ac_rfl))).p2.right.p2.right,xz⟩
theorem yF(b:Nat)(l:List Ln)(root:Int)(k:Ck)(a:Ac)(hl:bP l)(hp:cW a.page)(R:ab)(W:U)(h:T W (cJ b l root k*R)):
  a5 prog 61 #[.pointer (C (J b 0 z)),.agg #[D F a.page,D F a.kind,Y a.user]] W
   (cR (.tuple #[.agg #[D F (ce l root k a).an.fin,D F (ce l root k a).an.frame,D F (ce l root k a).an.rights],Y (ce l root k a).fin,D F (ce l root k a).code]) (cJ b l root (ce l root k a).c *R) W):=by
 by_cases ha:aq a=0
 ·cases hon:k.on with
  |true=>
   have e:ce l root k a=⟨An.zero,M,8,k⟩:=by unfold ce;rw[if_neg (by rw[ha];simp),if_pos hon]
   rw[e];exact qe b l root k a ha hon R W h
  |false=>
   have e:ce l root k a=match ja l a with|some r=>⟨r,ad,0,k⟩|none=>⟨An.zero,M,0,k.begin root a⟩:=by unfold ce;rw[if_neg (by rw[ha];simp),if_neg (by rw[hon];simp)];rfl
   cases hf:cb l a.page with
   |none=>
    have e2:ja l a=z:=by unfold ja;rw[hf]
    rw[e2] at e;exact jP b l root k a ha hon hl hp Ln.zero M M (bF Ln.zero.m a) _ (H ⟨by rw[hf];rfl,by rw[hf];rfl⟩) (H rfl) (H rfl) (H e) R W h
   |some x=>
    cases hu:mV x a with
    |true=>
     have e2:ja l a=C (bF x.m a):=by
      unfold ja;rw[hf];refine if_pos ?_;unfold mV at hu;simpa using hu
     rw[e2] at e;exact jP b l root k a ha hon hl hp x ad ad (bF x.m a) _ (H ⟨by rw[hf];rfl,by rw[hf];rfl⟩) (H (by rw[hu];rfl)) (H rfl) (H e) R W h
    |false=>
     have e2:ja l a=z:=by
      unfold ja;rw[hf];refine if_neg fun h=> ?_;have:mV x a=ad:=by unfold mV;simpa using h
      rw[this] at hu;cases hu
     rw[e2] at e;exact jP b l root k a ha hon hl hp x ad M (bF x.m a) _ (H ⟨by rw[hf];rfl,by rw[hf];rfl⟩) (H (by rw[hu];rfl)) (H rfl) (H e) R W h
 ·have e:ce l root k a=⟨An.zero,M,aq a,k⟩:=by unfold ce;rw[if_pos ha]
  rw[e];exact ro b l root k a ha R W h
def uX(b:Nat):bb:= .pointer (C (J b 0 z))
def cr(v:bb)(l:List Nat):ab:=ct 115 1 v l.length (l.map uX)
theorem uY{w:U}{R:ab}{A:Option bs}{n c:Nat}{l:List Nat}(h:T w (cr (.slice A n c) l*R)):n=l.length:=by
 rcases(bD (e:=115) (size:=1) h) with ⟨hv,h0,_⟩|⟨g,cap,cur,hv,_⟩
 ·injection hv with a b
  omega
 ·injection hv
theorem jq{w:U}{R:ab}{A:Option bs}{n c:Nat}{l:List Nat}(h:T w (cr (.slice A n c) l*R)){k p:Nat}(hk:l[k]? =C p):
  ∃b,A=C (J b 0 z)∧b<w.heap.size∧w.cell? (J b k z)=C (.pointer (C (J p 0 z))):=by
 obtain rfl:=uY h;obtain⟨b,e,hb,hc,_⟩:=bk (e:=115) (size:=1) h (i:=k) (u:=uX p) (by simp[hk]);exact⟨b,e,hb,hc⟩
theorem yH:jD prog 115 (.pointer z) 1 8:=⟨by kernel_rfl,rfl,by omega⟩
def aU:List Nat→List Cr→ab
 |p::ps,c::cs=>cJ p c.l 0 c.k*aU ps cs
 |_,_=>eY True
theorem kX:∀{ps:List Nat} {cs:List Cr} {k p:Nat} {c:Cr},ps[k]? =C p→cs[k]? =C c→∃Q,aU ps cs=cJ p c.l 0 c.k*Q∧∀c',aU ps (cs.set k c')=cJ p c'.l 0 c'.k*Q
 | [],_,_,_,_,h,_=>by simp at h
 |_::_,[],_,_,_,_,h=>by simp at h
 |q::ps,d::cs,0,p,c,h1,h2=>by
  simp at h1 h2;subst h1;subst h2;exact⟨aU ps cs,rfl,fun c'=>rfl⟩
 |q::ps,d::cs,k+1,p,c,h1,h2=>by
  simp at h1 h2;obtain⟨Q,e1,e2⟩:=kX h1 h2;refine⟨cJ q d.l 0 d.k*Q,?_,fun c'=> ?_⟩
  ·show cJ q d.l 0 d.k*aU ps cs=_
   rw[e1];ac_rfl
  ·show cJ q d.l 0 d.k*aU ps (cs.set k c')=_
   rw[e2];ac_rfl
theorem mW:∀(ps:List Nat) (cs:List Cr) (p:Nat) (c:Cr),ps.length=cs.length→aU (ps++[p]) (cs++[c])=cJ p c.l 0 c.k*aU ps cs
 | [],[],p,c,_=>rfl
 | [],_::_,_,_,h=>by simp at h
 |_::_,[],_,_,h=>by simp at h
 |q::ps,d::cs,p,c,h=>by
  show cJ q d.l 0 d.k*aU (ps++[p]) (cs++[c])=_;rw[mW ps cs p c (by simpa using h)];show _=cJ p c.l 0 c.k*(cJ q d.l 0 d.k*aU ps cs);ac_rfl
structure Sl where
 f:Nat
 sh:Nat
 A:Option bs
 c:Nat
 ps:List Nat
 G:Option bs
 d:Nat
def bI(b:Nat)(σ:Sc)(y:Sl)(R:ab):ab:=
 aa b #[.pointer (C (J y.f 0 z)),D F 0,.slice y.A y.ps.length y.c,.pointer (C (J y.sh 0 z)),Y σ.busy,.slice y.G σ.gone.length y.d] 114*(cr (.slice y.A y.ps.length y.c) y.ps*(ao (.slice y.G σ.gone.length y.d) σ.gone*
  (aI y.sh σ.told σ.wait*(aU y.ps σ.cs*(du y.f σ.s*R)))))
def ak(b:Nat)(σ:Sc):ab:=ex fun y=>eY (y.ps.length=σ.cs.length)*bI b σ y (eY True)
section
variable {w:U} {b:Nat} {σ:Sc} {R:ab}
theorem cL(h:T w (ak b σ*R)):∃y,y.ps.length=σ.cs.length∧T w (bI b σ y R):=by
 unfold ak at h;obtain⟨y,h⟩:=aF.1 h;rw[aX] at h;obtain⟨hy,h⟩:=dd.1 h;refine⟨y,hy,?_⟩;have h2:T w (eY True*bI b σ y R):=h.eq (by unfold bI;ac_rfl);exact h2.right
theorem dJ{y:Sl}(hy:y.ps.length=σ.cs.length)(h:T w (bI b σ y R)):T w (ak b σ*R):=by
 unfold ak;refine aF.2 ⟨y,?_⟩;rw[aX];refine dd.2 ⟨hy,?_⟩;have h2:T w (eY True*bI b σ y R):=dd.2 ⟨trivial,h⟩;exact h2.eq (by unfold bI;ac_rfl)
end
theorem Agree.stepC{s s':Ms}(h:ci s' s)(r:Int)(k:Ck):(Go.Proofs.YtmfheghbgihdmaaGreat.aL s' r k).c =(Go.Proofs.YtmfheghbgihdmaaGreat.aL s r k).c ∧(Go.Proofs.YtmfheghbgihdmaaGreat.aL s' r k).r =(Go.Proofs.YtmfheghbgihdmaaGreat.aL s r k).r ∧(Go.Proofs.YtmfheghbgihdmaaGreat.aL s' r k).code =(Go.Proofs.YtmfheghbgihdmaaGreat.aL s r k).code ∧
  ci (Go.Proofs.YtmfheghbgihdmaaGreat.aL s' r k).s (Go.Proofs.YtmfheghbgihdmaaGreat.aL s r k).s :=by
 unfold Go.Proofs.YtmfheghbgihdmaaGreat.aL;by_cases h1:k.on=M
 ·rw[if_pos h1,if_pos h1];exact⟨rfl,rfl,rfl,h⟩
 rw[if_neg h1,if_neg h1,h.has];by_cases h2:s.has k.t=M
 ·rw[if_pos h2,if_pos h2];exact⟨rfl,rfl,rfl,h⟩
 rw[if_neg h2,if_neg h2];have ew:k.word s'=k.word s:=h.word (by rw[h.has];simpa using h2) _;rw[ew];by_cases h3:k.mark=ad∧k.word s≠k.w
 ·rw[if_pos h3,if_pos h3];exact⟨rfl,rfl,rfl,h⟩
 rw[if_neg h3,if_neg h3];by_cases h4:br (k.word s) k.level≠0
 ·rw[if_pos h4,if_pos h4];exact⟨rfl,rfl,rfl,h⟩
 rw[if_neg h4,if_neg h4];by_cases h5:(aD (k.word s) k.level).there =M
 ·rw[if_pos h5,if_pos h5];exact⟨rfl,rfl,rfl,h⟩
 rw[if_neg h5,if_neg h5];by_cases h6:(aD (k.word s) k.level).leaf =M
 ·rw[if_pos h6,if_pos h6];exact⟨rfl,rfl,rfl,h⟩
 rw[if_neg h6,if_neg h6];by_cases h7:may (aD (k.word s) k.level).rights k.a=M
 ·rw[if_pos h7,if_pos h7];exact⟨rfl,rfl,rfl,h⟩
 rw[if_neg h7,if_neg h7];by_cases h8:k.mark=ad
 ·rw[if_pos h8,if_pos h8];exact⟨rfl,rfl,rfl,h.setW _ _ _⟩
 rw[if_neg h8,if_neg h8];by_cases h9:dZ (aD (k.word s) k.level) k.a=ad
 ·rw[if_pos h9,if_pos h9];exact⟨rfl,rfl,rfl,h⟩
 rw[if_neg h9,if_neg h9];exact⟨rfl,rfl,rfl,h⟩
theorem zJ(b f:Nat)(c:Cr)(s:Ms)(hc:bP c.l∧c.k.Ok)(R:ab)(W:U)(h:T W (cJ b c.l 0 c.k*(du f s*R))):
  a5 prog 62 #[.pointer (C (J b 0 z)),.pointer (C (J f 0 z))] W
   (cR (.tuple #[.agg #[D F (aL s 0 c.k).r.an.fin,D F (aL s 0 c.k).r.an.frame,D F (aL s 0 c.k).r.an.rights],Y (aL s 0 c.k).r.fin,D F (aL s 0 c.k).code]) (cJ b (gQ c.l (aL s 0 c.k).r) 0 (aL s 0 c.k).c *(du f (aL s 0 c.k).s *R)) W):=by
 obtain⟨s',ho,ha,h'⟩:=fQ h.p2;obtain⟨a1,a2,a3,a4⟩:=ha.stepC 0 c.k;refine(yE b f c.l 0 c.k s' hc.1 ho hc.2 R W h'.p2).mono ?_;rintro e w' ⟨he,h2,x2⟩;rw[a2,a3] at he;rw[a1,a2] at h2;exact⟨he,(fR h2.p2 (vP ho 0 c.k) a4).p2,x2⟩
theorem gy{P:Program}(w:U)(dT sT ty elem:TypeId)(b o dLen dCap:Nat)(a:bs)(sLen sCap size k:Nat)(cs:List bb)
  (hu:P.underlying dT=C (.slice elem)) (hs:(P.info? elem).map (·.size)=C size) (hk:k=Nat.min sLen dLen) (hn:cs.length=k*size)
  (hsrc:∀j v,cs[j]? =C v→w.cell? (a.add j)=C v) (hc:∀j,j<cs.length→(w.cell? ⟨b,o+j,z⟩).isSome =ad) (hf:∀j,j<cs.length→w.frozen? ⟨b,o+j,z⟩=M) (h1:∀v∈cs,v.oneCell'=ad):
  (Builtin.copy_ #[dT,sT] ty #[.slice (C (J b o z)) dLen dCap,.slice (C a) sLen sCap]).run P w= .ok (goInt k) (w.setCells b o cs):=by
 have hl:=run_loadCells_list (P:=P) w a cs hsrc;have hst:=run_storeCells_cells (P:=P) b o cs 0 w (by simpa using hc) (by simpa using hf) h1;subst hk;cases hq:P.info? elem with
 |none=>simp[hq] at hs
 |some i=>
  have hi:i.size=size:=by simpa [hq] using hs
  rw[hn] at hl;simp[Builtin.copy_,run_underlying hu,Builtin.lenOf,Builtin.firstCells,sizeOf,typeInfo,hq,hi,hl,hst]
section
variable {w:U} {R:ab} {e size:Nat} {n c:Nat} {xs ys:List bb} {g:Nat}
theorem Has.rowMore(h:T w (ct e size (.slice (C (J g 0 z)) n c) n xs*R))(m:Nat)(hm:n+m≤c):
  ∃ys:List bb,ys.length=m*size∧T w (ct e size (.slice (C (J g 0 z)) (n+m) c) (n+m) (xs++ys)*R):=by
 have hl:=h.rowLens.1;rcases h.rowCases with ⟨hv,_⟩|⟨g',cap,cur,hv,h1,h2,h3,h4,hb⟩
 ·injection hv with a;cases a
 ·injection hv with e1 e2 e3
  injection e1 with e1
  injection e1 with e1
  subst e1;subst e3;have e4:(n+m)*size=n*size+m*size:=Nat.add_mul _ _ _;have e5:(n+m)*size≤c*size:=Nat.mul_le_mul_right _ hm;refine⟨(cur.toList.drop (n*size)).take (m*size),by rw[List.length_take,List.length_drop,Array.length_toList];omega,?_⟩;refine hb.rowOf ?_ hm h2 h3 ?_
  ·rw[N,hl,List.length_take,List.length_drop,Array.length_toList];omega
  ·rw[←h4,e4,List.take_add]
theorem Has.rowShift(h:T w (ct e size (.slice (C (J g 0 z)) n c) n xs*R)){i m:Nat}(hi:i≤n)(hm:n+m≤c)(zs:List bb)(hz:zs.length=m*size):
  T ((w.setCells g ((i+m)*size) (xs.drop (i*size))).setCells g (i*size) zs) (ct e size (.slice (C (J g 0 z)) (n+m) c) (n+m) (xs.take (i*size)++(zs++xs.drop (i*size)))*R):=by
 have hl:=h.rowLens.1;obtain⟨ys,hy,h1⟩:=h.rowMore m hm;have e1:i*size≤n*size:=Nat.mul_le_mul_right _ hi;have e2:(n+m)*size=n*size+m*size:=Nat.add_mul _ _ _;have e3:(i+m)*size=i*size+m*size:=Nat.add_mul _ _ _;have hd:(xs.drop (i*size)).length =n*size - i*size:=by rw[List.length_drop,hl]
 have h2:=bd (xs.drop (i*size)) ((i+m)*size) h1 (by rw[hd];omega);have h3:=bd zs (i*size) h2 (by omega);refine h3.eq (congrArg (fun t=>ct e size (.slice (C (J g 0 z)) (n+m) c) (n+m) t*R) ?_);have d1:(xs++ys).drop ((i+m)*size+(xs.drop (i*size)).length)=[]:=List.drop_eq_nil_of_le (by rw[N,hd,hl,hy];omega);rw[d1,List.append_nil];have t1:((xs++ys).take ((i+m)*size)++xs.drop (i*size)).take (i*size)=xs.take (i*size):=by
  rw[List.take_append_of_le_length (by rw[List.length_take,N,hl,hy];omega),List.take_take,Nat.min_eq_left (by omega),List.take_append_of_le_length (by omega)]
 have t2:((xs++ys).take ((i+m)*size)++xs.drop (i*size)).drop (i*size+zs.length)=xs.drop (i*size):=by
  have hlen:((xs++ys).take ((i+m)*size)).length =i*size+zs.length:=by rw[List.length_take,N,hl,hy,hz];omega
  rw[←hlen,List.drop_left]
 rw[t1,t2]
theorem Has.rowGapD{k:Nat}(h:T w (ct e size (.slice (C (J g 0 z)) n c) n (xs++ys)*R))(hx:xs.length=k*size)(zs ts:List bb)(hzt:ys.length=zs.length+ts.length):
  T (((w.setCells g (k*size) zs).drew).setCells g (k*size+zs.length) ts) (ct e size (.slice (C (J g 0 z)) n c) n (xs++(zs++ts))*R):=by
 have hl:=h.rowLens.1;rw[N] at hl;have h2:=bd zs (k*size) h (by omega);have h3:=bd ts (k*size+zs.length) h2.drew (by omega);refine h3.eq (congrArg (fun t=>ct e size (.slice (C (J g 0 z)) n c) n t*R) ?_);have t1:(xs++ys).take (k*size)=xs:=by rw[List.take_append_of_le_length (by omega),List.take_of_length_le (by omega)]
 rw[t1];have t2:(xs++(zs++(xs++ys).drop (k*size+zs.length))).take (k*size+zs.length)=xs++zs:=by
  rw[←List.append_assoc,List.take_append_of_le_length (by rw[N];omega),List.take_of_length_le (by rw[N];omega)]
 have t3:(xs++(zs++(xs++ys).drop (k*size+zs.length))).drop (k*size+zs.length+ts.length)=[]:=
  List.drop_eq_nil_of_le (by rw[N,N,List.length_drop,N];omega)
 rw[t2,t3,List.append_nil,List.append_assoc]
end
end Go.Proofs.YtmfheghbgihdmaaGreat
