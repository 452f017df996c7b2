/- Contract of the document's RemoveFrom. -/
import Derived.Test.YtmfheghbgihdmaaGreatRspP
import Derived.Test.YtmfheghbgihdmaaGreatTblM3
import Derived.Test.YtmfheghbgihdmaaGreatScE
import Derived.Test.YtmfheghbgihdmaaGreatWchN
import Derived.Test.YtmfheghbgihdmaaGreatEntry5
import Derived.Test.YtmfheghbgihdmaaGreatRefPage
import Derived.Test.YtmfheghbgihdmaaGreatFrames3
import Derived.Deep.DeepCutAuto
namespace Go.Proofs.YtmfheghbgihdmaaGreat
open Go.IntKind renaming u64→vU
open Go.Value renaming int→f,bool→H
open Go.IntKind renaming i64→o,wrap_i64→Z
open Bool renaming false→B,true→V
open Option renaming none→C,some→D
open Go.Lib renaming hid→F
open Go.Addr renaming mk→I
open Go renaming bodyPost_ret→J,World→T,Calls→af
open Go.Proofs.YtmfheghbgihdmaaGreat renaming Has→K,Ext→ad
open Go.World renaming size_alloc→N
open List renaming getElem?_eq_some_iff→O,getElem?_eq_getElem→S
open Int renaming eq_ofNat_of_zero_le→U
open Tryz
open Go.RowKit
set_option maxRecDepth 100000
def oR(q:Nat)(s:Ms)(r p:Int)(R:ab)(w:T)(e:Ending)(w':T):Prop:=
 ∃A n c,cI (.tuple #[(bK s r p).val,.slice A n c,f o (bw s r p)]) (ao (.slice A n c) (fi s r p)*(az q (de s r p)*R)) w e w'
theorem pT{s:Ms}{t:Nat}:(s.wd t 0==0&&(s.wd t 1==0&&(s.wd t 2==0&&(s.wd t 3==0&&(s.wd t 4==0&&(s.wd t 5==0&&(s.wd t 6==0&&s.wd t 7==0)))))))=fh s (t:Int):=by
 unfold fh ay;simp[List.range_succ]
theorem rj{p:Int}{tabs:List Int}{k:Nat}{s:Ms}(h:k=0∨fh (s.setW (tabs.getD k 0).toNat (am p (3 - k:Nat)).toNat 0) (tabs.getD k 0)=B):dO p tabs k s=(s.setW (tabs.getD k 0).toNat (am p (3 - k:Nat)).toNat 0,[]):=by
 cases k with
 |zero=>rfl
 |succ k=>
  rcases h with h|h
  ·cases h
  ·conv=>lhs;unfold dO
   rw[if_neg (by rw[h];simp)]
theorem rk{p:Int}{tabs:List Int}{k j:Nat}{s:Ms}(hk:k=j+1)(h:fh (s.setW (tabs.getD k 0).toNat (am p (3 - k:Nat)).toNat 0) (tabs.getD k 0)=V):
  dO p tabs k s=((dO p tabs j (s.setW (tabs.getD k 0).toNat (am p (3 - k:Nat)).toNat 0)).1,tabs.getD k 0::(dO p tabs j (s.setW (tabs.getD k 0).toNat (am p (3 - k:Nat)).toNat 0)).2):=by
 subst hk;conv=>lhs;unfold dO
 rw[if_pos h]
set_option maxHeartbeats 8000000 in
theorem xY(q:Nat)(s:Ms)(root p:Int)(R:ab)(w:T)(hs:s.Ok)(h:K w (az q s*R)):
  af prog 114 #[.pointer (D (I q 0 C)),f o root,f o p] w (oR q s root p R w):=by
 have h0:=h.new #[f o 0,f o 0,f o 0,f o 0] 39;have x0:=(Ext.refl w).alloc (.cells #[f o 0,f o 0,f o 0,f o 0] 39);have HFI:=F (fun R w h=>lN q s root p R w hs h);unfold oR;by_cases hfc:bw s root p=0
 case neg=>
  have hrs:de s root p=s:=by unfold de;rw[if_neg hfc]
  have hrg:fi s root p=[]:=by unfold fi;rw[if_neg hfc]
  have hm:bK s root p=Mp.zero:=by unfold bK;rw[if_neg hfc]
  have hn:(bw s root p !=0)=V:=by simpa using hfc
  have HF:=F (And.intro hrs (And.intro hrg hm));generalize bw s root p=fc at*
  generalize de s root p=rs at*
  generalize fi s root p=rg at*
  generalize bK s root p=fm at*
  generalize iP s root p=fe at*
  clear hrs hrg hm h hfc;go_enter func114,ntmps114;go_wp2_with fail
  refine(HFI.out _ _ h0.p2).mono ?_;rintro e w1 ⟨rfl,b1⟩;have h1:=h0.below b1;have x1:=x0.below b1;clear h0 x0 b1 HFI;have h4:K _ (aa w.heap.size #[f o 0,f o 0,f o 0,f o 0] 39*(az q s*(aa (w1.heap.size+1) #[H fe.there,H fe.leaf,f o fe.rights,H fe.used,H fe.dirty,f o fe.frame] 70*(aa w1.heap.size #[f o fm.page,f o fm.size,f o fm.frame,f o fm.rights] 39*R)))):=((h1.new #[f o fm.page,f o fm.size,f o fm.frame,f o fm.rights] 39).new #[H fe.there,H fe.leaf,f o fe.rights,H fe.used,H fe.dirty,f o fe.frame] 70).eq (by simp only[N];ac_rfl);have x4:=(x1.alloc (.cells #[f o fm.page,f o fm.size,f o fm.frame,f o fm.rights] 39)).alloc (.cells #[H fe.there,H fe.leaf,f o fe.rights,H fe.used,H fe.dirty,f o fe.frame] 70);clear h1 x1;unfold wI;go_upto_region 2 with fail;generalize (w1.alloc (.cells #[f o fm.page,f o fm.size,f o fm.frame,f o fm.rights] 39)).alloc (.cells #[H fe.there,H fe.leaf,f o fe.rights,H fe.used,H fe.dirty,f o fe.frame] 70)=w3 at*
  generalize w1.heap.size=X2 at*
  generalize w.heap.size=X0 at*
  obtain⟨r0,r1,r2,r3⟩:=h4.cells4;obtain⟨q0,q1,q2,q3⟩:=h4.frees4;have rl:=h4.lt;go_wp2_with fail
  refine ak (fun wz=>K wz (aa X0 #[f o 0,f o 0,f o 0,f o 0] 39*(az q s*(aa (X2+1) #[H fe.there,H fe.leaf,f o fe.rights,H fe.used,H fe.dirty,f o fe.frame] 70*(aa X2 #[f o fm.page,f o fm.size,f o fm.frame,f o fm.rights] 39*R))))∧ad w wz) ⟨h4.set4 _ _ _ _,ah⟩ ?_;rintro wz ⟨hw,xw⟩;have hw2:K wz (aa (X2+1) #[H fe.there,H fe.leaf,f o fe.rights,H fe.used,H fe.dirty,f o fe.frame] 70*(aa X2 #[f o fm.page,f o fm.size,f o fm.frame,f o fm.rights] 39*(az q s*R))):=hw.right.eq (by ac_rfl);exact J (be results114 rfl rfl rfl (aV hw)) rfl ⟨C,0,0,by rw[HF.out.2.2];rfl,by rw[HF.out.1,HF.out.2.1];exact Has.rowNil hw2.right.right,xw⟩
 have hcode:(bp s root p).code =0:=by
  unfold bw at hfc;split at hfc
  ·rename_i hn;exact absurd hfc hn
  ·rename_i hn;simpa using hn
 obtain⟨hp,n,hn,hn3,hl,hu⟩:=eK hcode;have hRS:de s root p=(dO p (bp s root p).tabs n s).1:=by unfold de;rw[if_pos hfc,hn,Nat.add_sub_cancel]
 have hRG:fi s root p=(dO p (bp s root p).tabs n s).2:=by unfold fi;rw[if_pos hfc,hn,Nat.add_sub_cancel]
 have hTk:∀k,k<n+1→∃t:Nat,(bp s root p).tabs[k]? =D (t:Int)∧(bp s root p).tabs.getD k 0=(t:Int)∧t<s.n:=fun k hk=>by
  have hk':k< (bp s root p).tabs.length :=by omega
  have hh:=hu _ (List.getElem_mem hk');obtain⟨t0,t1,_⟩:=Ms.has_iff.1 hh;obtain⟨t,ht⟩:=U t0;refine⟨t,by rw[S hk',ht],by rw[List.getD_eq_getElem?_getD,S hk',ht];first|done|rfl,by omega⟩
 have HWT:=F (fun R w h=>jI q s root p R w hs h);rw[hfc] at HFI⊢;have HN:=F hn;have HTK:=F hTk;have HRS:=F hRS;have HRG:=F hRG;clear h hcode hu hl hfc hn hTk hRS hRG;generalize de s root p=rs at*
 generalize fi s root p=rg at*
 generalize bK s root p=fm at*
 generalize iP s root p=fe at*
 generalize bp s root p=y at*
 go_enter func114,ntmps114;go_wp2_with fail
 refine(HFI.out _ _ h0.p2).mono ?_;rintro e w1 ⟨rfl,b1⟩;have h1:=h0.below b1;have x1:=x0.below b1;clear h0 x0 b1 HFI;have h4:K _ (az q s*(aa w.heap.size #[f o 0,f o 0,f o 0,f o 0] 39*(aa (w1.heap.size+1) #[H fe.there,H fe.leaf,f o fe.rights,H fe.used,H fe.dirty,f o fe.frame] 70*(aa w1.heap.size #[f o fm.page,f o fm.size,f o fm.frame,f o fm.rights] 39*R)))):=((h1.new #[f o fm.page,f o fm.size,f o fm.frame,f o fm.rights] 39).new #[H fe.there,H fe.leaf,f o fe.rights,H fe.used,H fe.dirty,f o fe.frame] 70).eq (by simp only[N];ac_rfl);have x4:=(x1.alloc (.cells #[f o fm.page,f o fm.size,f o fm.frame,f o fm.rights] 39)).alloc (.cells #[H fe.there,H fe.leaf,f o fe.rights,H fe.used,H fe.dirty,f o fe.frame] 70);clear h1 x1;unfold wI;go_upto_region 2 with fail;generalize (w1.alloc (.cells #[f o fm.page,f o fm.size,f o fm.frame,f o fm.rights] 39)).alloc (.cells #[H fe.there,H fe.leaf,f o fe.rights,H fe.used,H fe.dirty,f o fe.frame] 70)=w3 at*
 generalize w1.heap.size=X2 at*
 generalize w.heap.size=X0 at*
 go_wp2_with fail
 refine(HWT.out _ _ h4).mono ?_;rintro e w5 hF;obtain⟨A,c,rfl,h5,x5⟩:∃(A:Option Addr) (c:Nat),e= .returned (.tuple #[.agg #[.slice A y.tabs.length c,H y.e.there,H y.e.leaf,f o y.e.rights,H y.e.used,H y.e.dirty,f o y.e.frame,f o y.lev],f o y.code])∧K w5 (ao (.slice A y.tabs.length c) y.tabs*bS w3 w3.heap.size)∧ad w3 w5:=hF;have h6:K _ (aa w5.heap.size #[.slice A y.tabs.length c,H y.e.there,H y.e.leaf,f o y.e.rights,H y.e.used,H y.e.dirty,f o y.e.frame,f o y.lev] 146*(ao (.slice A y.tabs.length c) y.tabs*(az q s*(aa X0 #[f o 0,f o 0,f o 0,f o 0] 39*(aa (X2+1) #[H fe.there,H fe.leaf,f o fe.rights,H fe.used,H fe.dirty,f o fe.frame] 70*(aa X2 #[f o fm.page,f o fm.size,f o fm.frame,f o fm.rights] 39*R)))))):=(h4.onto' h5).new #[.slice A y.tabs.length c,H y.e.there,H y.e.leaf,f o y.e.rights,H y.e.used,H y.e.dirty,f o y.e.frame,f o y.lev] 146;have x6:=(x4.trans x5).alloc (.cells #[.slice A y.tabs.length c,H y.e.there,H y.e.leaf,f o y.e.rights,H y.e.used,H y.e.dirty,f o y.e.frame,f o y.lev] 146);clear h4 x4 h5 x5 HWT;go_upto_region 6 with fail;generalize w5.alloc _=w6 at*
 generalize w5.heap.size=X5 at*
 obtain⟨bA,hA1,-,-⟩:=db h6.right (k:=n) (by have:=HN.out;omega);subst hA1;have hlen1:((y.tabs.length:Nat):Int) - 1=(n:Int):=by have:=HN.out;omega
 have k0:=h6.cell 0;have kl:=h6.lt;have HLN:=F hlen1;clear hlen1;go_cut [15] from 35 to 39 (fun s15 wx=>s15=f o n∧wx=w6)
 case first=>
  have hlen1:=HLN.out;go_wp2_with fail
  go_meet
  case rel=>exact⟨by first|rfl|(rw[←hlen1];done)|(rw[←hlen1];go_num),rfl⟩
 case rest=>
 obtain⟨rfl,hwr⟩:=hcut;replace hwr:=hwr.symm;subst hwr;obtain⟨QQ,hQQ⟩:∃Q:ab,Q=(aa (X2+1) #[H fe.there,H fe.leaf,f o fe.rights,H fe.used,H fe.dirty,f o fe.frame] 70*R):=⟨_,rfl⟩;have h7:K w6 (bZ 3 1 (.slice C 0 0) 0 (([]:List Int).map (f o))*(az q s*(aa X5 #[.slice (D (I bA 0 C)) y.tabs.length c,H y.e.there,H y.e.leaf,f o y.e.rights,H y.e.used,H y.e.dirty,f o y.e.frame,f o y.lev] 146*(ao (.slice (D (I bA 0 C)) y.tabs.length c) y.tabs*(aa X0 #[f o 0,f o 0,f o 0,f o 0] 39*(aa X2 #[f o fm.page,f o fm.size,f o fm.frame,f o fm.rights] 39*QQ)))))):=by
  rw[hQQ];exact Has.rowNil (h6.eq (by ac_rfl))
 have HQQ:=F hQQ;clear h6 k0 kl hQQ;go_upto_region 7 with fail;go_loopw [14,15] (fun t14 t15 wr=>∃(k:Nat) (σ:Ms) (g:List Int) (G:Option Addr) (gc:Nat),k<n+1∧t15=f o (k:Int)∧t14= .slice G g.length gc∧Hid (rs=(dO p y.tabs k σ).1∧rg=g++(dO p y.tabs k σ).2∧σ.n=s.n∧g.length+k≤n)∧K wr (bZ 3 1 (.slice G g.length gc) g.length (g.map (f o))*(az q σ*(aa X5 #[.slice (D (I bA 0 C)) y.tabs.length c,H y.e.there,H y.e.leaf,f o y.e.rights,H y.e.used,H y.e.dirty,f o y.e.frame,f o y.lev] 146*(ao (.slice (D (I bA 0 C)) y.tabs.length c) y.tabs*(aa X0 #[f o 0,f o 0,f o 0,f o 0] 39*(aa X2 #[f o fm.page,f o fm.size,f o fm.frame,f o fm.rights] 39*QQ))))))∧ad w wr) (fun _ t15 _=>(intOf t15).toNat)
 case atStart=>exact⟨n,s,[],C,0,by omega,rfl,rfl,F ⟨HRS.out,by rw[List.nil_append];exact HRG.out,rfl,by simp⟩,h7,x6⟩
 case round=>
  clear h7 x6 HRS HRG;obtain⟨k,σ,g,G,gc,hk,rfl,rfl,HCU,hr,hx⟩:=hrel;obtain⟨tn,htk,htd,htn0⟩:=HTK.out k hk;have htn:tn<σ.n:=by have:=HCU.out.2.2.1;omega
  have htnz:(tn:Int)< (σ.n:Int):=by omega
  have hixr:=gQ (p:=p) (L:=((3 - k:Nat):Int)) hp (by omega) (by omega);obtain⟨j,hj⟩:=U hixr.1;have hj8n:j<8:=by have:=hixr.2;omega
  have hj8:(j:Int)<8:=by omega
  have HI2:=F (fun Y=>dP p ((3 - k:Nat):Int) Y);rw[hj] at HI2;have hσ1:σ.setW (y.tabs.getD k 0).toNat (am p (3 - k:Nat)).toNat 0=σ.setW tn j 0:=by rw[htd,hj];rfl
  have HZ:=F (fun(h:k=0∨fh (σ.setW tn j 0) (tn:Int)=B)=>rj (p:=p) (tabs:=y.tabs) (k:=k) (s:=σ) (by rw[hσ1,htd];exact h));rw[hσ1] at HZ;have HM:=F (fun(i:Nat) (hi:k=i+1) (h:fh (σ.setW tn j 0) (tn:Int)=V)=>rk (p:=p) (tabs:=y.tabs) (k:=k) (j:=i) (s:=σ) hi (by rw[hσ1,htd];exact h));rw[hσ1,htd] at HM;have HTKk:=F htk;have hk0:(0:Int)≤(k:Int):=by omega
  have hkn:¬((k:Int)<0):=by omega
  have hki:(k:Int)<y.tabs.length:=by have:=HN.out;omega
  have h3k:3 - (k:Int)=((3 - k:Nat):Int):=by omega
  have hw3:IntKind.i64.wrap ((3 - k:Nat):Int)=((3 - k:Nat):Int):=by rw[Z];omega
  have hm:K _ (az q σ*(bZ 3 1 (.slice G g.length gc) g.length (g.map (f o))*(aa X5 #[.slice (D (I bA 0 C)) y.tabs.length c,H y.e.there,H y.e.leaf,f o y.e.rights,H y.e.used,H y.e.dirty,f o y.e.frame,f o y.lev] 146*(ao (.slice (D (I bA 0 C)) y.tabs.length c) y.tabs*(aa X0 #[f o 0,f o 0,f o 0,f o 0] 39*(aa X2 #[f o fm.page,f o fm.size,f o fm.frame,f o fm.rights] 39*QQ)))))):=hr.eq (by ac_rfl);clear htk htd htn0 hixr hj hσ1 hr;obtain⟨gw,gi,vk,hq⟩:=cm hm;have HK:=F (fun(w':T) (sx:Ms) (h:K w' (da q gw gi vk sx (bZ 3 1 (.slice G g.length gc) g.length (g.map (f o))*(aa X5 #[.slice (D (I bA 0 C)) y.tabs.length c,H y.e.there,H y.e.leaf,f o y.e.rights,H y.e.used,H y.e.dirty,f o y.e.frame,f o y.lev] 146*(ao (.slice (D (I bA 0 C)) y.tabs.length c) y.tabs*(aa X0 #[f o 0,f o 0,f o 0,f o 0] 39*(aa X2 #[f o fm.page,f o fm.size,f o fm.frame,f o fm.rights] 39*QQ)))))))=>(by
   have hR:=h.right.right.r3;obtain⟨b1,e1,_,q1⟩:=db hR.right (k:=k) (by have:=HN.out;omega);injection e1 with e1;injection e1 with e1
   subst e1;rw[(O.1 HTKk.out).2] at q1;exact⟨Has.cell h 0,hR.cell 0,q1⟩:w'.cell? (I q 0 C)=D (.slice (D (I gw 0 C)) sx.n sx.n)∧w'.cell? (I X5 0 C)=D (.slice (D (I bA 0 C)) y.tabs.length c)∧w'.cell? (I bA k C)=D (f o tn)))
  have hq0:=hq.drew;have xq0:=hx.drew;go_upto_region 9 with fail;go_cut [] from 43 to 58 (fun wx=>K wx (da q gw gi vk (σ.setW tn j 0) (bZ 3 1 (.slice G g.length gc) g.length (g.map (f o))*(aa X5 #[.slice (D (I bA 0 C)) y.tabs.length c,H y.e.there,H y.e.leaf,f o y.e.rights,H y.e.used,H y.e.dirty,f o y.e.frame,f o y.lev] 146*(ao (.slice (D (I bA 0 C)) y.tabs.length c) y.tabs*(aa X0 #[f o 0,f o 0,f o 0,f o 0] 39*(aa X2 #[f o fm.page,f o fm.size,f o fm.frame,f o fm.rights] 39*QQ))))))∧ad w wx)
  case first=>
   go_region_held3 (fun w'=>w'.cell? (I q 0 C)=D (.slice (D (I gw 0 C)) σ.n σ.n)∧w'.cell? (I X5 0 C)=D (.slice (D (I bA 0 C)) y.tabs.length c)∧w'.cell? (I bA k C)=D (f o tn)) (first|(with_reducible exact HK.out _ σ hq0)|(with_reducible exact HK.out _ σ hw5)|(exact HK.out _ (σ.setW tn j 0) (df (k:=tn) (i:=j) hw5 hj8n 0))|go_keep) (first|(go_at_call 120;(with_reducible refine(HI2.out _).mono ?_);rintro e2 w5 ⟨rfl,b5⟩;have hw5:=hq0.below b5;have xw5:=xq0.below b5;have y0:=bX hw5 htn hj8n;have y1:=hw5.right.free (tn*8+j);have y2:=hw5.right.lt))
   all_goals
    go_wp2_with fail
    go_meet
    case rel=>exact⟨df (k:=tn) (i:=j) hw5 hj8n 0,xw5.set _ _⟩
  case rest=>
  clear hq hq0 xq0 hm hx HI2 h3k hw3;obtain⟨h9,x9⟩:=hcut;have HZ8:=F (pT (s:=σ.setW tn j 0) (t:=tn));have htn1:tn< (σ.setW tn j 0).n :=htn;obtain⟨d0,d1,d2⟩:=HK.out _ _ h9;have e0:wc.cell? ⟨gw,tn*8,C⟩=D (f vU ((σ.setW tn j 0).wd tn 0)):=bX h9 htn1 (i:=0) (by omega);have e1:=bX h9 htn1 (i:=1) (by omega);have e2:=bX h9 htn1 (i:=2) (by omega);have e3:=bX h9 htn1 (i:=3) (by omega);have e4:=bX h9 htn1 (i:=4) (by omega);have e5:=bX h9 htn1 (i:=5) (by omega);have e6:=bX h9 htn1 (i:=6) (by omega);have e7:=bX h9 htn1 (i:=7) (by omega);have HNS:=F (show(σ.setW tn j 0).n =s.n from HCU.out.2.2.1);have htz1:(tn:Int)< ((σ.setW tn j 0).n :Int):=htnz;generalize σ.setW tn j 0=σ1 at*
  have HW:=F (fun(w':T) (h:K w' (da q gw gi vk σ1 (bZ 3 1 (.slice G g.length gc) g.length (g.map (f o))*(aa X5 #[.slice (D (I bA 0 C)) y.tabs.length c,H y.e.there,H y.e.leaf,f o y.e.rights,H y.e.used,H y.e.dirty,f o y.e.frame,f o y.lev] 146*(ao (.slice (D (I bA 0 C)) y.tabs.length c) y.tabs*(aa X0 #[f o 0,f o 0,f o 0,f o 0] 39*(aa X2 #[f o fm.page,f o fm.size,f o fm.frame,f o fm.rights] 39*QQ)))))))=>cR h);have ql:=h9.lt;have gl:=h9.right.lt;have xl:=h9.right.right.r3.lt;have bl:bA<wc.heap.size:=by
   obtain⟨b1,e1,l1,_⟩:=db h9.right.right.right.r3 (k:=k) (by have:=HN.out;omega);injection e1 with e1;injection e1 with e1
   rw[e1];exact l1
  generalize σ1.wd tn 0=v0 at*
  generalize σ1.wd tn 1=v1 at*
  generalize σ1.wd tn 2=v2 at*
  generalize σ1.wd tn 3=v3 at*
  generalize σ1.wd tn 4=v4 at*
  generalize σ1.wd tn 5=v5 at*
  generalize σ1.wd tn 6=v6 at*
  generalize σ1.wd tn 7=v7 at*
  have f0:=ae d0;have f1:=ae d1;have f2:=ae d2;have a0:=ae e0;have a1:=ae e1;have a2:=ae e2;have a3:=ae e3;have a4:=ae e4;have a5:=ae e5;have a6:=ae e6;have a7:=ae e7;clear d0 d1 d2 e0 e1 e2 e3 e4 e5 e6 e7 HK;go_upto_region 10 with fail;go_cut [74] from 58 to 75 (fun s74 wx=>s74=H (decide (k=0)|| !fh σ1 (tn:Int))∧K wx (da q gw gi vk σ1 (bZ 3 1 (.slice G g.length gc) g.length (g.map (f o))*(aa X5 #[.slice (D (I bA 0 C)) y.tabs.length c,H y.e.there,H y.e.leaf,f o y.e.rights,H y.e.used,H y.e.dirty,f o y.e.frame,f o y.lev] 146*(ao (.slice (D (I bA 0 C)) y.tabs.length c) y.tabs*(aa X0 #[f o 0,f o 0,f o 0,f o 0] 39*(aa X2 #[f o fm.page,f o fm.size,f o fm.frame,f o fm.rights] 39*QQ))))))∧ad w wx)
  case first=>
   by_cases hz:k=0
   ·have hkz:((k:Int)==0)=V:=by simpa using hz
    have HKZ:=F hz;clear hz;refine ap (by kernel_rfl) (by kernel_rfl) ?_;repeat(first|go_big_quiet_step (fail)|quiet_step (fail))
    refine wpQuiet_nil ?_;intro _ hw';obtain⟨uq,hw''⟩:=hw';subst hw'';have h10:=h9.via uq;have x10:=x9.below (aB _ uq);generalize fJ wc uq=w10 at*
    go_wp2_with fail
    go_meet
    case rel=>exact⟨by simp[HKZ.out],h10,x10⟩
   ·have hkz:((k:Int)==0)=B:=by simpa using hz
    have HKZ:=F hz;clear hz;refine ap (by kernel_rfl) (by kernel_rfl) ?_;repeat(first|go_big_quiet_step (fail)|quiet_step (fail))
    refine wpQuiet_nil ?_;intro _ hw';obtain⟨uq,hw''⟩:=hw';subst hw'';have h10:=h9.via uq;have x10:=x9.below (aB _ uq);generalize fJ wc uq=w10 at*
    go_wp2_with fail
    go_meet
    case rel=>exact⟨by rw[←HZ8.out];simp[HKZ.out],h10,x10⟩
  case rest=>
  clear h9 x9 f0 f1 f2 a0 a1 a2 a3 a4 a5 a6 a7 ql gl xl bl HZ8;obtain⟨rfl,h10,x10⟩:=hcut;have h11:=HW.out _ h10;have hz':K _ (aa X0 #[f o 0,f o 0,f o 0,f o 0] 39*(aa X2 #[f o fm.page,f o fm.size,f o fm.frame,f o fm.rights] 39*(bZ 3 1 (.slice G g.length gc) g.length (g.map (f o))*(az q σ1*(aa X5 #[.slice (D (I bA 0 C)) y.tabs.length c,H y.e.there,H y.e.leaf,f o y.e.rights,H y.e.used,H y.e.dirty,f o y.e.frame,f o y.lev] 146*(ao (.slice (D (I bA 0 C)) y.tabs.length c) y.tabs*QQ)))))):=h11.eq (by ac_rfl);clear h10 HW;by_cases hstop:k=0∨fh σ1 (tn:Int)=B
  ·have hcut:=HZ.out hstop
   have hF:=HCU.out;rw[hcut] at hF;have HF:=F (show rs=σ1∧rg=g from⟨hF.1,by rw[hF.2.1];simp⟩);have hb:(decide (k=0)|| !fh σ1 (tn:Int))=V:=by rcases hstop with h|h<;>simp[h]
   rw[hb];clear hcut hF hstop hb HCU HZ HM;obtain⟨m0,m1,m2,m3⟩:=hz'.right.cells4;have ml:=hz'.right.lt;obtain⟨r0,r1,r2,r3⟩:=hz'.cells4;obtain⟨q0,q1,q2,q3⟩:=hz'.frees4;have rl:=hz'.lt;go_wp2_with fail
   refine ak (fun wz=>K wz (aa X0 #[f o fm.page,f o fm.size,f o fm.frame,f o fm.rights] 39*(aa X2 #[f o fm.page,f o fm.size,f o fm.frame,f o fm.rights] 39*(bZ 3 1 (.slice G g.length gc) g.length (g.map (f o))*(az q σ1*(aa X5 #[.slice (D (I bA 0 C)) y.tabs.length c,H y.e.there,H y.e.leaf,f o y.e.rights,H y.e.used,H y.e.dirty,f o y.e.frame,f o y.lev] 146*(ao (.slice (D (I bA 0 C)) y.tabs.length c) y.tabs*QQ))))))∧ad w wz) ⟨hz'.set4 _ _ _ _,ah⟩ ?_;rintro wz ⟨hw,xw⟩;have hw2:K wz (aa X0 #[f o fm.page,f o fm.size,f o fm.frame,f o fm.rights] 39*(aa X2 #[f o fm.page,f o fm.size,f o fm.frame,f o fm.rights] 39*(aa X5 #[.slice (D (I bA 0 C)) y.tabs.length c,H y.e.there,H y.e.leaf,f o y.e.rights,H y.e.used,H y.e.dirty,f o y.e.frame,f o y.lev] 146*(ao (.slice (D (I bA 0 C)) y.tabs.length c) y.tabs*(aa (X2+1) #[H fe.there,H fe.leaf,f o fe.rights,H fe.used,H fe.dirty,f o fe.frame] 70*(ao (.slice G g.length gc) g*(az q σ1*R))))))):=by
    have:=hw;rw[HQQ.out] at this;unfold ao at this⊢;exact this.eq (by ac_rfl)
   exact J (be results114 rfl rfl rfl (aV hw)) rfl ⟨G,g.length,gc,rfl,by rw[HF.out.1,HF.out.2];exact hw2.right.right.r3,xw⟩
  ·have hka2:fh σ1 (tn:Int)=V:=by
    cases h:fh σ1 (tn:Int) with
    |true=>rfl
    |false=>exact absurd (.inr h) hstop
   have hka:k≠0∧fh σ1 (tn:Int)=V:=⟨fun h=>hstop (.inl h),hka2⟩;have hb:(decide (k=0)|| !fh σ1 (tn:Int))=B:=by simp[hka.1,hka.2]
   rw[hb];obtain⟨i,hi⟩:∃i,k=i+1:=⟨k - 1,by omega⟩;have hmore:=HM.out i hi hka.2;have hF:=HCU.out;rw[hmore] at hF;have HCU':=F (show rs=(dO p y.tabs i σ1).1∧rg=(g++[(tn:Int)])++(dO p y.tabs i σ1).2∧σ1.n=s.n∧(g++[(tn:Int)]).length +i≤n from⟨hF.1,by rw[hF.2.1];simp,HNS.out,by simp;have:=hF.2.2.2;omega⟩);have hki1:(k:Int) - 1=(i:Int):=by omega
   have hwi:IntKind.i64.wrap (i:Int)=(i:Int):=by rw[Z];omega
   have HI:=F hi;have hgl:g.length≤4:=by have:=hF.2.2.2;omega
   clear hmore hF hb HCU HZ HM hka hka2 hstop hi;obtain⟨b1,eb,lb,qb⟩:=db h11.r3 (k:=k) (by have:=HN.out;omega);injection eb with eb;injection eb with eb
   subst eb;rw[(O.1 HTKk.out).2] at qb;have k0:=h11.right.right.cell 0;have kl:=h11.right.right.lt;have h12:K _ (bZ 3 1 (.slice G g.length gc) g.length (g.map (f o))*(az q σ1*(aa X5 #[.slice (D (I bA 0 C)) y.tabs.length c,H y.e.there,H y.e.leaf,f o y.e.rights,H y.e.used,H y.e.dirty,f o y.e.frame,f o y.lev] 146*(ao (.slice (D (I bA 0 C)) y.tabs.length c) y.tabs*(aa X0 #[f o 0,f o 0,f o 0,f o 0] 39*(aa X2 #[f o fm.page,f o fm.size,f o fm.frame,f o fm.rights] 39*QQ)))))):=h11.eq (by ac_rfl);have hrow:=h12.alloc (.cells #[f o (tn:Int)] 3);go_wp2_with(first|(at_builtin;refine aW rfl _ _ 45 rfl underlying45 gr _ _ _ rfl hrow (I _ 0 C) 1 1 [f o (tn:Int)] rfl rfl (eO _ (f o (tn:Int)) 3) ?c1 ?c2 ?c3 ?_))
   case c1=>first|rfl|(intro u hu;simp at hu;subst hu;rfl)
   case c2=>unfold maxLen;omega
   case c3=>omega
   intro v' w14 h14 x14;obtain⟨G',gc',rfl⟩:=h14.rowForm;go_wp2_with fail
   go_roundw
   case rel=>exact⟨i,σ1,g++[(tn:Int)],G',gc',by have:=HI.out;omega,by first|rfl|go_num,by simp,HCU',by simp only[List.length_append,List.length_singleton,List.map_append,List.map_cons,List.map_nil];exact h14,(x10.alloc _).trans x14⟩
   case measure=>have:=HI.out;simp[intOf];omega
theorem nK(ym:Nat)(s:Ms)(cs:List Cr)(td:Mp)(wt:Nat→Bool)(gn:List Int)(x:Stp)(hs:s.Ok)(o1:x.kind≠1):
  ∃(cd:Int) (mp:Mp) (g:List Int) (sA:Ms),(Sc.change ⟨s,cs,td,wt,B,gn⟩ x=if cd=0 then(Sc.post ⟨s,cs,td,wt,B,gn⟩ sA mp g,.no 0) else(⟨s,cs,td,wt,B,gn⟩,.no cd))∧(cd≠0→sA=s)∧
   (x.kind=2→∀R w,K w (az ym s*R)→af prog 114 #[.pointer (D (I ym 0 C)),f o 0,f o x.m.page] w
    (fun e w'=>∃A n c,cI (.tuple #[.agg #[f o mp.page,f o mp.size,f o mp.frame,f o mp.rights],.slice A n c,f o cd]) (ao (.slice A n c) g*(az ym sA*R)) w e w'))∧
   (x.kind≠2→g=[]∧∀R w,K w (az ym s*R)→af prog 115 #[.pointer (D (I ym 0 C)),f o 0,f o x.m.page,f o x.m.rights] w
    (cI (.tuple #[.agg #[f o mp.page,f o mp.size,f o mp.frame,f o mp.rights],f o cd]) (az ym sA*R) w)):=by
 by_cases o2:x.kind=2
 ·refine⟨bw s 0 x.m.page,bK s 0 x.m.page,fi s 0 x.m.page,de s 0 x.m.page,?_,fun h=> ?_,fun _ R w h=>xY ym s 0 x.m.page R w hs h,fun h=>absurd o2 h⟩
  ·unfold Sc.change
   rw[if_neg (by simp),if_neg o1,if_pos o2]
  ·unfold de
   rw[if_neg h]
 ·refine⟨iB s 0 x.m.page x.m.rights,ku s 0 x.m.page x.m.rights,[],gG s 0 x.m.page x.m.rights,?_,fun h=> ?_,fun h=>absurd h o2,fun _=>⟨rfl,fun R w h=>yr ym s 0 x.m.page x.m.rights R w hs h⟩⟩
  ·unfold Sc.change
   rw[if_neg (by simp),if_neg o1,if_neg o2]
  ·unfold gG
   rw[if_neg h]
set_option maxHeartbeats 8000000 in
theorem um(b:Nat)(σ:Sc)(x:Stp)(hok:σ.Ok)(R:ab)(w:T)(h:K w (cq b σ*R)):
  af prog 65 #[.pointer (D (I b 0 C)),.agg #[f o x.kind,f o x.core,f o x.m.page,f o x.m.size,f o x.m.frame,f o x.m.rights,f o x.a.page,f o x.a.kind,H x.a.user]] w (cI (σ.change x).2.val (cq b (σ.change x).1*R) w):=by
 obtain⟨s,cs,td,wt,bz,gn⟩:=σ;obtain⟨y,hy,h⟩:=fQ h;have hso:s.Ok:=hok.s;have HPO:=F (fun(s':Ms) (m:Mp) (g:List Int) (G:Option Addr) (gn' gd:Nat) R w h=>wT b ⟨s',cs,td,wt,bz,gn⟩ m g G gn' gd hok.few R w h);have HS:=F (fun(s':Ms) (w':T) (R':ab) (h:K w' (fy b ⟨s',cs,td,wt,bz,gn⟩ y R'))=>fR (σ:=⟨s',cs,td,wt,bz,gn⟩) hy h);unfold fy at h HS;dsimp only at*
 have h1:K _ (az y.m s*(aa b #[.pointer (D (I y.m 0 C)),f o 0,.slice y.A y.ps.length y.c,H bz,.slice y.G gn.length y.d,f o td.page,f o td.size,f o td.frame,f o td.rights,.slice (D (I y.gw 0 C)) y.ps.length y.ps.length] 52*(aa w.heap.size #[f o x.kind,f o x.core,f o x.m.page,f o x.m.size,f o x.m.frame,f o x.m.rights,f o x.a.page,f o x.a.kind,H x.a.user] 43*((bF (.slice y.A y.ps.length y.c) y.ps*(ao (.slice y.G gn.length y.d) gn*(aa y.gw (bm y.ps.length (bI wt)) 4*aL y.ps cs)))*(aa (w.heap.size+1) #[f o 0,H B,f o 0,f o 0,f o 0,H B] 36*R))))):=((h.new #[f o x.kind,f o x.core,f o x.m.page,f o x.m.size,f o x.m.frame,f o x.m.rights,f o x.a.page,f o x.a.kind,H x.a.user] 43).new #[f o 0,H B,f o 0,f o 0,f o 0,H B] 36).eq (by simp only[N];ac_rfl);have x1:=((Ext.refl w).alloc (.cells #[f o x.kind,f o x.core,f o x.m.page,f o x.m.size,f o x.m.frame,f o x.m.rights,f o x.a.page,f o x.a.kind,H x.a.user] 43)).alloc (.cells #[f o 0,H B,f o 0,f o 0,f o 0,H B] 36);have HS2:=F (fun(s':Ms) (w':T) (R':ab) (h:K w' (az y.m s'*(aa b #[.pointer (D (I y.m 0 C)),f o 0,.slice y.A y.ps.length y.c,H bz,.slice y.G gn.length y.d,f o td.page,f o td.size,f o td.frame,f o td.rights,.slice (D (I y.gw 0 C)) y.ps.length y.ps.length] 52*((bF (.slice y.A y.ps.length y.c) y.ps*(ao (.slice y.G gn.length y.d) gn*(aa y.gw (bm y.ps.length (bI wt)) 4*aL y.ps cs)))*R'))))=>HS.out s' w' R' (h.eq (by ac_rfl)));clear h hok hy HS;obtain⟨c0,c1,c2,c3,c4,c5,c6,c7,c8,c9⟩:=h1.right.cells10;have cl:=h1.right.lt;obtain⟨k0,k1,k2,k3,k4,k5,k6,k7,k8⟩:=h1.right.right.cells9;have kl:=h1.right.right.lt;cases bz with
 |true=>
  have e:Sc.change ⟨s,cs,td,wt,V,gn⟩ x=(⟨s,cs,td,wt,V,gn⟩,.no 8):=by unfold Sc.change;rw[if_pos rfl]
  rw[e];have HS1:=F (HS2.out s);clear e HPO HS2 k0 k1 k2 k3 k4 k5 k6 k7 k8 kl;have h2:K _ (aa (w.heap.size+1) #[f o 0,H B,f o 0,f o 0,f o 0,H B] 36*(az y.m s*(aa b #[.pointer (D (I y.m 0 C)),f o 0,.slice y.A y.ps.length y.c,H V,.slice y.G gn.length y.d,f o td.page,f o td.size,f o td.frame,f o td.rights,.slice (D (I y.gw 0 C)) y.ps.length y.ps.length] 52*(aa w.heap.size #[f o x.kind,f o x.core,f o x.m.page,f o x.m.size,f o x.m.frame,f o x.m.rights,f o x.a.page,f o x.a.kind,H x.a.user] 43*((bF (.slice y.A y.ps.length y.c) y.ps*(ao (.slice y.G gn.length y.d) gn*(aa y.gw (bm y.ps.length (bI wt)) 4*aL y.ps cs)))*R))))):=h1.eq (by ac_rfl);clear h1;go_enter func65,ntmps65;go_upto_region 2 with fail;generalize (w.alloc (.cells #[f o x.kind,f o x.core,f o x.m.page,f o x.m.size,f o x.m.frame,f o x.m.rights,f o x.a.page,f o x.a.kind,H x.a.user] 43)).alloc (.cells #[f o 0,H B,f o 0,f o 0,f o 0,H B] 36)=w1 at*
  generalize w.heap.size=X at*
  generalize X+1=E at*
  clear c0 c1 c2 c3 c4 c5 c6 c7 c8 c9 cl;obtain⟨e0,e1,e2,e3,e4,e5⟩:=h2.cells6;obtain⟨f0,f1,f2,f3,f4,f5⟩:=h2.frees6;have el:=h2.lt;go_wp2_with fail
  refine ak (fun wz=>K wz (aa E #[f o 8,H B,f o 0,f o 0,f o 0,H B] 36*(az y.m s*(aa b #[.pointer (D (I y.m 0 C)),f o 0,.slice y.A y.ps.length y.c,H V,.slice y.G gn.length y.d,f o td.page,f o td.size,f o td.frame,f o td.rights,.slice (D (I y.gw 0 C)) y.ps.length y.ps.length] 52*(aa X #[f o x.kind,f o x.core,f o x.m.page,f o x.m.size,f o x.m.frame,f o x.m.rights,f o x.a.page,f o x.a.kind,H x.a.user] 43*((bF (.slice y.A y.ps.length y.c) y.ps*(ao (.slice y.G gn.length y.d) gn*(aa y.gw (bm y.ps.length (bI wt)) 4*aL y.ps cs)))*R)))))∧ad w wz) ⟨h2.set6 _ _ _ _ _ _,ah⟩ ?_;rintro wz ⟨hz,xz⟩;exact J (aD results65 rfl (aN hz)) rfl ⟨rfl,(HS1.out _ (aa X #[f o x.kind,f o x.core,f o x.m.page,f o x.m.size,f o x.m.frame,f o x.m.rights,f o x.a.page,f o x.a.kind,H x.a.user] 43*R) (hz.right.eq (by ac_rfl))).p2.right,xz⟩
 |false=>
  have HK:=F (fun(w':T) (X:Nat) (P Q:ab) (h:K w' (P*(aa b #[.pointer (D (I y.m 0 C)),f o 0,.slice y.A y.ps.length y.c,H B,.slice y.G gn.length y.d,f o td.page,f o td.size,f o td.frame,f o td.rights,.slice (D (I y.gw 0 C)) y.ps.length y.ps.length] 52*(aa X #[f o x.kind,f o x.core,f o x.m.page,f o x.m.size,f o x.m.frame,f o x.m.rights,f o x.a.page,f o x.a.kind,H x.a.user] 43*Q))))=>(⟨h.right.cell 0,h.right.cell 1,h.right.right.cell 2,h.right.right.cell 3,h.right.right.cell 4,h.right.right.cell 5⟩:w'.cell? (I b 0 C)=D (.pointer (D (I y.m 0 C)))∧w'.cell? (I b 1 C)=D (f o 0)∧w'.cell? (I X 2 C)=D (f o x.m.page)∧w'.cell? (I X 3 C)=D (f o x.m.size)∧w'.cell? (I X 4 C)=D (f o x.m.frame)∧w'.cell? (I X 5 C)=D (f o x.m.rights)));by_cases o1:x.kind=1
  ·have e:Sc.change ⟨s,cs,td,wt,B,gn⟩ x=(⟨dJ s 0 x.m,cs,td,wt,B,gn⟩,⟨cT s 0 x.m,B,An.zero,decide (cT s 0 x.m=0)⟩):=by unfold Sc.change;rw[if_neg (by simp),if_pos o1]
   rw[e];have HS1:=F (HS2.out (dJ s 0 x.m));have HI:=F (fun R w h=>xT y.m s 0 x.m R w hso h);have o1':(x.kind==1)=V:=by simpa using o1
   clear e HPO HS2 hso o1;generalize cT s 0 x.m=cd at*
   generalize dJ s 0 x.m=sA at*
   have HEV:=F (show Ev.val ⟨cd,B,An.zero,decide (cd=0)⟩=Value.agg #[f o cd,H B,f o 0,f o 0,f o 0,H (cd==0)] from by rw[show decide (cd=0)=(cd==0) from by by_cases h:cd=0<;>simp[h]];rfl);rw[HEV.out];clear HEV;obtain⟨cz,hcz⟩:∃cz,(cd==0)=cz:=⟨_,rfl⟩;rw[hcz];go_enter func65,ntmps65;go_upto_region 4 with fail;generalize (w.alloc (.cells #[f o x.kind,f o x.core,f o x.m.page,f o x.m.size,f o x.m.frame,f o x.m.rights,f o x.a.page,f o x.a.kind,H x.a.user] 43)).alloc (.cells #[f o 0,H B,f o 0,f o 0,f o 0,H B] 36)=w1 at*
   generalize w.heap.size=X at*
   generalize X+1=E at*
   clear c0 c1 c2 c3 c4 c5 c6 c7 c8 c9 k0 k1 k2 k3 k4 k5 k6 k7 k8;have hd:=h1.drew;have xd:=x1.drew;go_cut [5] from 17 to 27 (fun s5 wx=>s5=f o cd∧K wx (az y.m sA*(aa b #[.pointer (D (I y.m 0 C)),f o 0,.slice y.A y.ps.length y.c,H B,.slice y.G gn.length y.d,f o td.page,f o td.size,f o td.frame,f o td.rights,.slice (D (I y.gw 0 C)) y.ps.length y.ps.length] 52*(aa X #[f o x.kind,f o x.core,f o x.m.page,f o x.m.size,f o x.m.frame,f o x.m.rights,f o x.a.page,f o x.a.kind,H x.a.user] 43*((bF (.slice y.A y.ps.length y.c) y.ps*(ao (.slice y.G gn.length y.d) gn*(aa y.gw (bm y.ps.length (bI wt)) 4*aL y.ps cs)))*(aa E #[f o 0,H B,f o 0,f o 0,f o 0,H B] 36*R)))))∧ad w wx)
   case first=>
    clear HS1;go_region_held3 (fun w'=>w'.cell? (I b 0 C)=D (.pointer (D (I y.m 0 C)))∧w'.cell? (I b 1 C)=D (f o 0)∧w'.cell? (I X 2 C)=D (f o x.m.page)∧w'.cell? (I X 3 C)=D (f o x.m.size)∧w'.cell? (I X 4 C)=D (f o x.m.frame)∧w'.cell? (I X 5 C)=D (f o x.m.rights)) (first|(with_reducible exact HK.out _ _ _ _ hd)|(with_reducible exact HK.out _ _ _ _ h5)|go_keep) (first|(go_at_call 113;(with_reducible refine(HI.out _ _ hd).mono ?_);rintro e w5 ⟨rfl,h5,x5⟩))
    all_goals
     go_wp2_with fail
     go_meet
     case rel=>exact⟨rfl,h5,xd.trans x5⟩
   case rest=>
    clear hd xd HI HK cl kl h1 x1;obtain⟨rfl,h2,x2⟩:=hcut;have h3:K _ (aa E #[f o 0,H B,f o 0,f o 0,f o 0,H B] 36*(az y.m sA*(aa b #[.pointer (D (I y.m 0 C)),f o 0,.slice y.A y.ps.length y.c,H B,.slice y.G gn.length y.d,f o td.page,f o td.size,f o td.frame,f o td.rights,.slice (D (I y.gw 0 C)) y.ps.length y.ps.length] 52*(aa X #[f o x.kind,f o x.core,f o x.m.page,f o x.m.size,f o x.m.frame,f o x.m.rights,f o x.a.page,f o x.a.kind,H x.a.user] 43*((bF (.slice y.A y.ps.length y.c) y.ps*(ao (.slice y.G gn.length y.d) gn*(aa y.gw (bm y.ps.length (bI wt)) 4*aL y.ps cs)))*R))))):=h2.eq (by ac_rfl);obtain⟨e0,e1,e2,e3,e4,e5⟩:=h3.cells6;obtain⟨f0,f1,f2,f3,f4,f5⟩:=h3.frees6;have el:=h3.lt;clear h2;go_wp2_with fail
    refine ak (fun wz=>K wz (aa E #[f o cd,H B,f o 0,f o 0,f o 0,H cz] 36*(az y.m sA*(aa b #[.pointer (D (I y.m 0 C)),f o 0,.slice y.A y.ps.length y.c,H B,.slice y.G gn.length y.d,f o td.page,f o td.size,f o td.frame,f o td.rights,.slice (D (I y.gw 0 C)) y.ps.length y.ps.length] 52*(aa X #[f o x.kind,f o x.core,f o x.m.page,f o x.m.size,f o x.m.frame,f o x.m.rights,f o x.a.page,f o x.a.kind,H x.a.user] 43*((bF (.slice y.A y.ps.length y.c) y.ps*(ao (.slice y.G gn.length y.d) gn*(aa y.gw (bm y.ps.length (bI wt)) 4*aL y.ps cs)))*R)))))∧ad w wz) ⟨h3.set6 _ _ _ _ _ _,ah⟩ ?_;rintro wz ⟨hz,xz⟩;exact J (aD results65 rfl (aN hz)) rfl ⟨rfl,(HS1.out _ (aa X #[f o x.kind,f o x.core,f o x.m.page,f o x.m.size,f o x.m.frame,f o x.m.rights,f o x.a.page,f o x.a.kind,H x.a.user] 43*R) (hz.right.eq (by ac_rfl))).p2.right,xz⟩
  ·obtain⟨cd,mp,g,sA,e,hsame,HR2,HR3⟩:=nK y.m s cs td wt gn x hso o1
   have HR2:=F HR2;have HR3:=F HR3;have HSM:=F hsame;have hk1:(x.kind==1)=B:=by simpa using o1
   obtain⟨k2b,hk2b⟩:∃z,(x.kind==2)=z:=⟨_,rfl⟩;rw[e];clear e hso o1 hsame;have h2:K _ (aa (w.heap.size+2) #[f o 0,f o 0,f o 0,f o 0] 39*(az y.m s*(aa b #[.pointer (D (I y.m 0 C)),f o 0,.slice y.A y.ps.length y.c,H B,.slice y.G gn.length y.d,f o td.page,f o td.size,f o td.frame,f o td.rights,.slice (D (I y.gw 0 C)) y.ps.length y.ps.length] 52*(aa w.heap.size #[f o x.kind,f o x.core,f o x.m.page,f o x.m.size,f o x.m.frame,f o x.m.rights,f o x.a.page,f o x.a.kind,H x.a.user] 43*((bF (.slice y.A y.ps.length y.c) y.ps*(ao (.slice y.G gn.length y.d) gn*(aa y.gw (bm y.ps.length (bI wt)) 4*aL y.ps cs)))*(aa (w.heap.size+1) #[f o 0,H B,f o 0,f o 0,f o 0,H B] 36*R)))))):=(h1.new #[f o 0,f o 0,f o 0,f o 0] 39).eq (by simp only[N]);have x2:=x1.alloc (.cells #[f o 0,f o 0,f o 0,f o 0] 39);have HCD:Hid ((if cd=0 then(Sc.post ⟨s,cs,td,wt,B,gn⟩ sA mp g,Ev.no 0) else((⟨s,cs,td,wt,B,gn⟩:Sc),Ev.no cd))=(if cd=0 then Sc.post ⟨s,cs,td,wt,B,gn⟩ sA mp g else(⟨s,cs,td,wt,B,gn⟩:Sc),Ev.no cd)):=F (by split<;>simp_all);rw[HCD.out];clear HCD;obtain⟨σ2,hσ2⟩:∃σ2,(if cd=0 then Sc.post ⟨s,cs,td,wt,B,gn⟩ sA mp g else(⟨s,cs,td,wt,B,gn⟩:Sc))=σ2:=⟨_,rfl⟩;have HSG:=F hσ2;rw[hσ2];unfold Ev.val Ev.no An.zero;dsimp only;clear hσ2;go_enter func65,ntmps65;go_upto_region 7 with fail;generalize ((w.alloc (.cells #[f o x.kind,f o x.core,f o x.m.page,f o x.m.size,f o x.m.frame,f o x.m.rights,f o x.a.page,f o x.a.kind,H x.a.user] 43)).alloc (.cells #[f o 0,H B,f o 0,f o 0,f o 0,H B] 36)).alloc (.cells #[f o 0,f o 0,f o 0,f o 0] 39)=w1 at*
   generalize w.heap.size+2=M at*
   generalize w.heap.size=X at*
   generalize X+1=E at*
   clear c0 c1 c2 c3 c4 c5 c6 c7 c8 c9 k1 k2 k3 k4 k5 k6 k7 k8 h1 x1;clear k0 kl cl;have k0:=h2.r3.cell 0;have kl:=h2.r3.lt;have h3:K _ (az y.m s*(aa b #[.pointer (D (I y.m 0 C)),f o 0,.slice y.A y.ps.length y.c,H B,.slice y.G gn.length y.d,f o td.page,f o td.size,f o td.frame,f o td.rights,.slice (D (I y.gw 0 C)) y.ps.length y.ps.length] 52*(aa X #[f o x.kind,f o x.core,f o x.m.page,f o x.m.size,f o x.m.frame,f o x.m.rights,f o x.a.page,f o x.a.kind,H x.a.user] 43*((bF (.slice y.A y.ps.length y.c) y.ps*(ao (.slice y.G gn.length y.d) gn*(aa y.gw (bm y.ps.length (bI wt)) 4*aL y.ps cs)))*(aa E #[f o 0,H B,f o 0,f o 0,f o 0,H B] 36*(aa M #[f o 0,f o 0,f o 0,f o 0] 39*R)))))):=h2.eq (by ac_rfl);clear h2;go_upto_if 34 with fail;go_cut [7,8] from 35 to 68 (fun s7 s8 wx=>∃A n c,s7= .slice A n c∧s8=f o cd∧K wx (aa M #[f o mp.page,f o mp.size,f o mp.frame,f o mp.rights] 39*(ao (.slice A n c) g*(az y.m sA*(aa b #[.pointer (D (I y.m 0 C)),f o 0,.slice y.A y.ps.length y.c,H B,.slice y.G gn.length y.d,f o td.page,f o td.size,f o td.frame,f o td.rights,.slice (D (I y.gw 0 C)) y.ps.length y.ps.length] 52*(aa X #[f o x.kind,f o x.core,f o x.m.page,f o x.m.size,f o x.m.frame,f o x.m.rights,f o x.a.page,f o x.a.kind,H x.a.user] 43*((bF (.slice y.A y.ps.length y.c) y.ps*(ao (.slice y.G gn.length y.d) gn*(aa y.gw (bm y.ps.length (bI wt)) 4*aL y.ps cs)))*(aa E #[f o 0,H B,f o 0,f o 0,f o 0,H B] 36*R)))))))∧ad w wx)
   case first=>
    clear HPO HS2 HSM HSG;have hd:=h3.drew;have xd:=x2.drew;obtain⟨q0,q1,q2,q3⟩:=(h3.eq (show _=aa M #[f o 0,f o 0,f o 0,f o 0] 39*(az y.m s*(aa b #[.pointer (D (I y.m 0 C)),f o 0,.slice y.A y.ps.length y.c,H B,.slice y.G gn.length y.d,f o td.page,f o td.size,f o td.frame,f o td.rights,.slice (D (I y.gw 0 C)) y.ps.length y.ps.length] 52*(aa X #[f o x.kind,f o x.core,f o x.m.page,f o x.m.size,f o x.m.frame,f o x.m.rights,f o x.a.page,f o x.a.kind,H x.a.user] 43*((bF (.slice y.A y.ps.length y.c) y.ps*(ao (.slice y.G gn.length y.d) gn*(aa y.gw (bm y.ps.length (bI wt)) 4*aL y.ps cs)))*(aa E #[f o 0,H B,f o 0,f o 0,f o 0,H B] 36*R))))) by ac_rfl)).cells4;cases k2b with
    |true=>
     have o2:x.kind=2:=by simpa using hk2b
     have HR:=F (HR2.out o2);clear HR2 HR3 hk2b o2 k0;go_wp2_with fail
     go_region_held3 (fun w'=>w'.cell? (I b 0 C)=D (.pointer (D (I y.m 0 C)))∧w'.cell? (I b 1 C)=D (f o 0)∧w'.cell? (I X 2 C)=D (f o x.m.page)∧w'.cell? (I X 3 C)=D (f o x.m.size)∧w'.cell? (I X 4 C)=D (f o x.m.frame)∧w'.cell? (I X 5 C)=D (f o x.m.rights)) (first|(with_reducible exact HK.out _ _ _ _ hd)|(with_reducible exact HK.out _ _ _ _ h6)|(with_reducible exact HK.out _ _ _ _ h8)|go_keep) (first|(go_at_call 114;(with_reducible refine(HR.out _ _ hd).mono ?_);rintro e w5 ⟨A,n,c,rfl,h5,x5⟩;have h6:K w5 ((ao (.slice A n c) g*az y.m sA)*(aa b #[.pointer (D (I y.m 0 C)),f o 0,.slice y.A y.ps.length y.c,H B,.slice y.G gn.length y.d,f o td.page,f o td.size,f o td.frame,f o td.rights,.slice (D (I y.gw 0 C)) y.ps.length y.ps.length] 52*(aa X #[f o x.kind,f o x.core,f o x.m.page,f o x.m.size,f o x.m.frame,f o x.m.rights,f o x.a.page,f o x.a.kind,H x.a.user] 43*((bF (.slice y.A y.ps.length y.c) y.ps*(ao (.slice y.G gn.length y.d) gn*(aa y.gw (bm y.ps.length (bI wt)) 4*aL y.ps cs)))*(aa E #[f o 0,H B,f o 0,f o 0,f o 0,H B] 36*(aa M #[f o 0,f o 0,f o 0,f o 0] 39*R)))))):=h5.eq (by ac_rfl);have h7:K w5 (aa M #[f o 0,f o 0,f o 0,f o 0] 39*((ao (.slice A n c) g*az y.m sA)*(aa b #[.pointer (D (I y.m 0 C)),f o 0,.slice y.A y.ps.length y.c,H B,.slice y.G gn.length y.d,f o td.page,f o td.size,f o td.frame,f o td.rights,.slice (D (I y.gw 0 C)) y.ps.length y.ps.length] 52*(aa X #[f o x.kind,f o x.core,f o x.m.page,f o x.m.size,f o x.m.frame,f o x.m.rights,f o x.a.page,f o x.a.kind,H x.a.user] 43*((bF (.slice y.A y.ps.length y.c) y.ps*(ao (.slice y.G gn.length y.d) gn*(aa y.gw (bm y.ps.length (bI wt)) 4*aL y.ps cs)))*(aa E #[f o 0,H B,f o 0,f o 0,f o 0,H B] 36*R)))))):=h5.eq (by ac_rfl);obtain⟨y0,y1,y2,y3⟩:=h7.frees4;obtain⟨z0,z1,z2,z3⟩:=h7.cells4;have zl:=h7.lt;have h8:=(h7.set4 (f o mp.page) (f o mp.size) (f o mp.frame) (f o mp.rights)).right))
     all_goals
      go_wp2_with fail
      go_meet
      case rel=>exact⟨A,n,c,rfl,rfl,(h7.set4 (f o mp.page) (f o mp.size) (f o mp.frame) (f o mp.rights)).eq (by ac_rfl),((((xd.trans x5).set _ _).set _ _).set _ _).set _ _⟩
    |false=>
     have o2:x.kind≠2:=by simpa using hk2b
     obtain⟨hg,hr⟩:=HR3.out o2;have HR:=F hr;subst hg;clear HR2 HR3 hk2b o2 hr k0;go_wp2_with fail
     go_region_held3 (fun w'=>w'.cell? (I b 0 C)=D (.pointer (D (I y.m 0 C)))∧w'.cell? (I b 1 C)=D (f o 0)∧w'.cell? (I X 2 C)=D (f o x.m.page)∧w'.cell? (I X 3 C)=D (f o x.m.size)∧w'.cell? (I X 4 C)=D (f o x.m.frame)∧w'.cell? (I X 5 C)=D (f o x.m.rights)) (first|(with_reducible exact HK.out _ _ _ _ hd)|(with_reducible exact HK.out _ _ _ _ h5)|(with_reducible exact HK.out _ _ _ _ h8)|go_keep) (first|(go_at_call 115;(with_reducible refine(HR.out _ _ hd).mono ?_);rintro e w5 ⟨rfl,h5,x5⟩;have h7:K w5 (aa M #[f o 0,f o 0,f o 0,f o 0] 39*(az y.m sA*(aa b #[.pointer (D (I y.m 0 C)),f o 0,.slice y.A y.ps.length y.c,H B,.slice y.G gn.length y.d,f o td.page,f o td.size,f o td.frame,f o td.rights,.slice (D (I y.gw 0 C)) y.ps.length y.ps.length] 52*(aa X #[f o x.kind,f o x.core,f o x.m.page,f o x.m.size,f o x.m.frame,f o x.m.rights,f o x.a.page,f o x.a.kind,H x.a.user] 43*((bF (.slice y.A y.ps.length y.c) y.ps*(ao (.slice y.G gn.length y.d) gn*(aa y.gw (bm y.ps.length (bI wt)) 4*aL y.ps cs)))*(aa E #[f o 0,H B,f o 0,f o 0,f o 0,H B] 36*R)))))):=h5.eq (by ac_rfl);obtain⟨y0,y1,y2,y3⟩:=h7.frees4;obtain⟨z0,z1,z2,z3⟩:=h7.cells4;have zl:=h7.lt;have h8:=(h7.set4 (f o mp.page) (f o mp.size) (f o mp.frame) (f o mp.rights)).right))
     all_goals
      go_wp2_with fail
      go_meet
      case rel=>exact⟨C,0,0,rfl,rfl,((Has.rowNil (e:=3) (size:=1) (h7.set4 (f o mp.page) (f o mp.size) (f o mp.frame) (f o mp.rights))).eq (by show bZ 3 1 (.slice C 0 0) 0 []*_=_;unfold ao;simp only[List.map_nil,List.length_nil];ac_rfl)),((((xd.trans x5).set _ _).set _ _).set _ _).set _ _⟩
   case rest=>
    obtain⟨A,n,c,rfl,rfl,h4,x4⟩:=hcut;clear h3 x2 HR2 HR3 hk2b HK k0 kl;obtain rfl:=ei h4.right;by_cases hcd:cd=0
    ·have e:=HSG.out
     rw[if_pos hcd] at e;have h5:K _ (cq b ⟨sA,cs,td,wt,B,gn⟩*(ao (.slice A g.length c) g*(aa M #[f o mp.page,f o mp.size,f o mp.frame,f o mp.rights] 39*(aa X #[f o x.kind,f o x.core,f o x.m.page,f o x.m.size,f o x.m.frame,f o x.m.rights,f o x.a.page,f o x.a.kind,H x.a.user] 43*(aa E #[f o 0,H B,f o 0,f o 0,f o 0,H B] 36*R))))):=HS2.out sA _ _ (h4.eq (by ac_rfl));have HP:=F (fun R w h=>HPO.out sA mp g A g.length c R w h);rw[show Sc.post ⟨sA,cs,td,wt,B,gn⟩ (Sc.s ⟨sA,cs,td,wt,B,gn⟩) mp g=σ2 from e] at HP;subst hcd;obtain⟨m0,m1,m2,m3⟩:=h4.cells4;have ml:=h4.lt;clear h4 HPO HS2 HSM HSG e;go_wp2_with fail
     refine(HP.out _ _ h5).mono ?_;rintro e w6 ⟨rfl,h6,x6⟩;have h7:K w6 (aa E #[f o 0,H B,f o 0,f o 0,f o 0,H B] 36*(cq b σ2*(aa M #[f o mp.page,f o mp.size,f o mp.frame,f o mp.rights] 39*(aa X #[f o x.kind,f o x.core,f o x.m.page,f o x.m.size,f o x.m.frame,f o x.m.rights,f o x.a.page,f o x.a.kind,H x.a.user] 43*R)))):=h6.eq (by ac_rfl);have x7:=x4.trans x6;obtain⟨e0,e1,e2,e3,e4,e5⟩:=h7.cells6;obtain⟨f0,f1,f2,f3,f4,f5⟩:=h7.frees6;have el:=h7.lt;clear h5 h6 x4 x6 HP m0 m1 m2 m3 ml;go_wp2_with fail
     refine ak (fun wz=>K wz (aa E #[f o 0,H B,f o 0,f o 0,f o 0,H B] 36*(cq b σ2*(aa M #[f o mp.page,f o mp.size,f o mp.frame,f o mp.rights] 39*(aa X #[f o x.kind,f o x.core,f o x.m.page,f o x.m.size,f o x.m.frame,f o x.m.rights,f o x.a.page,f o x.a.kind,H x.a.user] 43*R))))∧ad w wz) ⟨by first|(with_reducible exact h7)|(with_reducible exact h7.set6 _ _ _ _ _ _),ah⟩ ?_;rintro wz ⟨hz,xz⟩;exact J (aD results65 rfl (aN hz)) rfl ⟨rfl,(hz.right.eq (show _=aa M #[f o mp.page,f o mp.size,f o mp.frame,f o mp.rights] 39*(aa X #[f o x.kind,f o x.core,f o x.m.page,f o x.m.size,f o x.m.frame,f o x.m.rights,f o x.a.page,f o x.a.kind,H x.a.user] 43*(cq b σ2*R)) by ac_rfl)).right.right,xz⟩
    ·have e:=HSG.out
     rw[if_neg hcd] at e;obtain rfl:=HSM.out hcd;have hcd':(cd==0)=B:=by simpa using hcd
     have h5:K _ (aa E #[f o 0,H B,f o 0,f o 0,f o 0,H B] 36*(cq b ⟨sA,cs,td,wt,B,gn⟩*(ao (.slice A g.length c) g*(aa M #[f o mp.page,f o mp.size,f o mp.frame,f o mp.rights] 39*(aa X #[f o x.kind,f o x.core,f o x.m.page,f o x.m.size,f o x.m.frame,f o x.m.rights,f o x.a.page,f o x.a.kind,H x.a.user] 43*R))))):=(HS2.out sA _ (ao (.slice A g.length c) g*(aa M #[f o mp.page,f o mp.size,f o mp.frame,f o mp.rights] 39*(aa X #[f o x.kind,f o x.core,f o x.m.page,f o x.m.size,f o x.m.frame,f o x.m.rights,f o x.a.page,f o x.a.kind,H x.a.user] 43*(aa E #[f o 0,H B,f o 0,f o 0,f o 0,H B] 36*R)))) (h4.eq (by ac_rfl))).eq (by ac_rfl);rw[e] at h5;obtain⟨e0,e1,e2,e3,e4,e5⟩:=h5.cells6;obtain⟨f0,f1,f2,f3,f4,f5⟩:=h5.frees6;have el:=h5.lt;clear h4 HPO HS2 HSM HSG e hcd;go_wp2_with fail
     refine ak (fun wz=>K wz (aa E #[f o cd,H B,f o 0,f o 0,f o 0,H B] 36*(cq b σ2*(ao (.slice A g.length c) g*(aa M #[f o mp.page,f o mp.size,f o mp.frame,f o mp.rights] 39*(aa X #[f o x.kind,f o x.core,f o x.m.page,f o x.m.size,f o x.m.frame,f o x.m.rights,f o x.a.page,f o x.a.kind,H x.a.user] 43*R)))))∧ad w wz) ⟨h5.set6 _ _ _ _ _ _,ah⟩ ?_;rintro wz ⟨hz,xz⟩;exact J (aD results65 rfl (aN hz)) rfl ⟨rfl,(hz.right.eq (show _=ao (.slice A g.length c) g*(aa M #[f o mp.page,f o mp.size,f o mp.frame,f o mp.rights] 39*(aa X #[f o x.kind,f o x.core,f o x.m.page,f o x.m.size,f o x.m.frame,f o x.m.rights,f o x.a.page,f o x.a.kind,H x.a.user] 43*(cq b σ2*R))) by ac_rfl)).r3,xz⟩
theorem nL(q:Nat)(root:Int)(l:List Ln)(k:Ck)(R:ab)(W:T)(h:K W (aQ q l k*R)):af prog 118 #[.pointer (D (I q 0 C)),f o root] W (cI (.tuple #[]) (aQ q l (k.again root)*R) W):=by
 obtain⟨A,c,h⟩:=cY h;have h':=h;unfold aM cv at h';obtain⟨c0,c1,c2,c3,c4,c5,c6,c7,c8⟩:=h'.cells9;have hl:=h'.lt;have f5:=h'.free 5;have f6:=h'.free 6;have f7:=h'.free 7;cases hon:k.on with
 |true=>
  have hs:k.again root={k with t:=root,level:=3,mark:=B}:=by unfold Ck.again;rw[if_pos hon]
  have h9:K (((W.setCell (I q 5 C) (f o root)).setCell (I q 6 C) (f o 3)).setCell (I q 7 C) (H B)) (aM q A c l {k with t:=root,level:=3,mark:=B} R):=((h'.set 5 _).set 6 _).set 7 _;have HS:=F hs;rw[hon] at c1;clear hs h h' hon;go_enter func118,ntmps118;go_wp2;refine J (v:= .tuple #[]) (by simp[results,results118]) rfl ?_;rw[HS.out];exact⟨rfl,bE h9,(((Ext.refl W).set _ _).set _ _).set _ _⟩
 |false=>
  have hs:k.again root=k:=by unfold Ck.again;rw[if_neg (by rw[hon];simp)]
  have HS:=F hs;rw[hon] at c1;clear hs h' hon;go_enter func118,ntmps118;go_wp2;refine J (v:= .tuple #[]) (by simp[results,results118]) rfl ?_;rw[HS.out];exact⟨rfl,bE h,Ext.refl _⟩
theorem qk(q:Nat)(l:List Ln)(k:Ck)(an:An)(R:ab)(W:T)(h:K W (aQ q l k*R)):
  af prog 122 #[.pointer (D (I q 0 C)),.agg #[f o an.fin,f o an.frame,f o an.rights]] W (cI (.tuple #[.agg #[f o an.fin,f o an.frame,f o an.rights],H V,f o 0]) (aQ q l k.idle*R) W):=by
 obtain⟨A,c,h⟩:=cY h;have h1:=(h.new #[f o an.fin,f o an.frame,f o an.rights] 34).new #[f o 0,f o 0,f o 0] 34;have x1:=((Ext.refl W).alloc (.cells #[f o an.fin,f o an.frame,f o an.rights] 34)).alloc (.cells #[f o 0,f o 0,f o 0] 34);simp only[N] at h1;clear h;go_enter func122,ntmps122;go_upto_region 1 with fail;generalize ((W.alloc (.cells #[f o an.fin,f o an.frame,f o an.rights] 34)).alloc (.cells #[f o 0,f o 0,f o 0] 34))=W3 at*
 generalize W.heap.size+1=X2 at*
 generalize W.heap.size=X1 at*
 unfold aM cv at h1;have h2:K W3 (aa q #[.slice A l.length c,H k.on,f o k.a.page,f o k.a.kind,H k.a.user,f o k.t,f o k.level,H k.mark,f vU k.w] 66*(aa X1 #[f o an.fin,f o an.frame,f o an.rights] 34*(aa X2 #[f o 0,f o 0,f o 0] 34*(gk (.slice A l.length c) l*R)))):=h1.eq (by ac_rfl);have h3:K W3 (aa q #[.slice A l.length c,H k.on,f o k.a.page,f o k.a.kind,H k.a.user,f o k.t,f o k.level,H k.mark,f vU k.w] 66*(aa X2 #[f o 0,f o 0,f o 0] 34*(gk (.slice A l.length c) l*(R*aa X1 #[f o an.fin,f o an.frame,f o an.rights] 34)))):=h1.eq (by ac_rfl);have n1:=h2.ne;have m1:=n1.symm;have n2:=h3.ne;have m2:=n2.symm;obtain⟨c0,c1,c2,c3,c4,c5,c6,c7,c8⟩:=h2.cells9;have f1:=h2.free 1;have f2:=h2.free 2;have f3:=h2.free 3;have f4:=h2.free 4;have f7:=h2.free 7;have hl:=h2.lt;obtain⟨a0,a1,a2⟩:=h2.right.cells3;have al:=h2.right.lt;obtain⟨r0,r1,r2⟩:=h3.right.cells3;obtain⟨g0,g1,g2⟩:=h3.right.frees3;have rl:=h3.right.lt;have h4:K (((((W3.setCell (I q 1 C) (H B)).setCell (I q 2 C) (f o 0)).setCell (I q 3 C) (f o 0)).setCell (I q 4 C) (H B)).setCell (I q 7 C) (H B)) (cv q (.slice A l.length c) k.idle*(aa X2 #[f o 0,f o 0,f o 0] 34*(gk (.slice A l.length c) l*(R*aa X1 #[f o an.fin,f o an.frame,f o an.rights] 34)))):=((((h3.set 1 _).set 2 _).set 3 _).set 4 _).set 7 _;clear h1 h2 h3;go_wp2_with fail
 refine ak (fun wz=>K wz (aa X2 #[f o an.fin,f o an.frame,f o an.rights] 34*(cv q (.slice A l.length c) k.idle*(gk (.slice A l.length c) l*(R*aa X1 #[f o an.fin,f o an.frame,f o an.rights] 34))))∧ad W wz) ⟨((h4.p2.set 0 (f o an.fin)).set 1 (f o an.frame)).set 2 (f o an.rights),ah⟩ ?_;rintro wz ⟨hz,xz⟩;exact J (be results122 rfl rfl rfl (br hz)) rfl ⟨rfl,(bE (A:=A) (c:=c) (by unfold aM;exact hz.right)).a2.left,xz⟩
end Go.Proofs.YtmfheghbgihdmaaGreat
