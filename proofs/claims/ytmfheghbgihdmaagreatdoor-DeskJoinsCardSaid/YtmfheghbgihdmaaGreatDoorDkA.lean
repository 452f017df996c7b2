/- The desk's ask. -/
import Derived.Test.YtmfheghbgihdmaaGreatDoorCalm
import Derived.Test.YtmfheghbgihdmaaGreatDoorDkS
import Derived.Deep.Strs
import Derived.SizedLaws
import Derived.MakeChecks
import Derived.Stop.LaidErr
import Derived.Lib.LaidTab
import Derived.Test.YtmfheghbgihdmaaGreatDoorRows
namespace Go.Proofs.YtmfheghbgihdmaaGreatDoor
open Go.Value renaming bool→vB
open Go.Lib renaming hid→C
open Option renaming none→I,some→J
open Go.Value renaming int→K
open Go.IntKind renaming i64→M,wrap_i64→af
open Go renaming World→N,Calls→Y,Addr→ad,Value→ak,bodyPost_ret→ap
open Go.Proofs.YtmfheghbgihdmaaGreatDoor renaming Has→O,Keeps→ag,Stp→an,tNew→au,Ext→ax
open Bool renaming false→U,true→Z
open Go.Addr renaming mk→V
open List renaming length_append→X
open _root_.Go.Proofs.Tryz
open Go.RowKit
set_option maxRecDepth 100000
theorem tX{w:N}{R:ab}{q:ak}{m m':Nat}{S:Option Sc}(hm:m≤m')(h:O w (kh q m S*R)):O w (kh q m' S*R):=by
 cases S with
 |none=>exact h
 |some σ=>
  obtain⟨p,sp,W,P,rfl,rfl,hW,hH,h⟩:=pq h;exact pp hW (by omega) h
theorem dX{w:N}{R:ab}{d m m':Nat}{S:Option Sc}{told:List UInt8}(hm:m≤m')(h:O w (aG d m S told*R)):O w (aG d m' S told*R):=by
 obtain⟨a,v,q,ha,hv,h⟩:=eM h;unfold gS at h;refine gV ha hv (q:=q) ?_;unfold gS;exact(tX hm (h.eq (show _=kh q m S*(aa d #[a,v,q] 47*(bt 5 1 v told.length (Lib.byteCells told)*R)) by ac_rfl))).eq (by ac_rfl)
theorem sn{ns:List Int}(h:ns.length=1):∃a,ns=[a]:=by
 match ns,h with
 | [a],_=>exact⟨a,rfl⟩
theorem zH{ns:List Int}(h:ns.length=2):∃a b,ns=[a,b]:=by
 match ns,h with
 | [a,b],_=>exact⟨a,b,rfl⟩
theorem zI{ns:List Int}(h:ns.length=4):∃a b c d,ns=[a,b,c,d]:=by
 match ns,h with
 | [a,b,c,d],_=>exact⟨a,b,c,d,rfl⟩
theorem wy{n:Int}(h:0≤n∧n≤100000000):bX n:=ce h.1 (by omega)
theorem bS:bX 0:=ce (by decide) (by decide)
def iX(d m:Nat)(σ:Sc)(told:List UInt8)(s:ByteArray)(ns:List Int):Prop:=
 ∀(B:Option ad) (k:Nat) (R:ab) (w:N),m≤999998→told.length≤130000000000000→ag R→(∀w',O w' R→Rd w' B ns.length (ns.map (K M)))→O w (aG d m (J σ) told*R)→
  Y prog 24 #[.pointer (J (V d 0 I)),.string s,.slice B ns.length k] w (cF (.tuple #[]) (aG d (m+1) (J (dq σ s ns).1) (told++(dq σ s ns).2)*R) w)
theorem so(d m:Nat)(σ:Sc)(told:List UInt8)(n0:Int)(h0:bX n0):iX d m σ told gx [n0]:=by
 intro B k R w hm ht HK HR h;have hE:dq σ gx [n0]=dx σ (⟨2,0,⟨n0,0,0,0⟩,⟨0,0,U⟩⟩:an):=by kernel_rfl
 rw[hE];have HS:=C (fun w h=>lL d m σ told (⟨2,0,⟨n0,0,0,0⟩,⟨0,0,U⟩⟩:an) ⟨(by unfold bX;dsimp only;omega),by first|exact h0|exact bS,by first|exact⟨h0,bS,bS,bS⟩|exact⟨bS,bS,bS,bS⟩,bS,bS⟩ hm (by omega) R HK w h);dsimp only[Mp.zero,Ac.zero] at HS hE;rw[←hE] at HS⊢;clear hE;unfold gx at HS⊢;generalize dq σ _ _=z at*
 obtain⟨b,off,rfl,bl,b0⟩:=(HR w h.right).at_ (j:=0) (u:=K M n0) rfl;rw[Nat.add_zero] at b0;clear HR;go_enter func24,ntmps24;go_wp2_with fail
 (with_reducible refine(HS.out _ h).mono ?_);rintro e w6 ⟨rfl,h6,x6⟩
 clear HS h b0 bl;go_wp2_with fail
 go_end0
 exact⟨rfl,h6,x6⟩
theorem tY(d m:Nat)(σ:Sc)(told:List UInt8)(n0:Int)(h0:bX n0):iX d m σ told jd [n0]:=by
 intro B k R w hm ht HK HR h;have hE:dq σ jd [n0]=dx σ (⟨5,n0,⟨0,0,0,0⟩,⟨0,0,U⟩⟩:an):=by kernel_rfl
 rw[hE];have HS:=C (fun w h=>lL d m σ told (⟨5,n0,⟨0,0,0,0⟩,⟨0,0,U⟩⟩:an) ⟨(by unfold bX;dsimp only;omega),by first|exact h0|exact bS,by first|exact⟨h0,bS,bS,bS⟩|exact⟨bS,bS,bS,bS⟩,bS,bS⟩ hm (by omega) R HK w h);dsimp only[Mp.zero,Ac.zero] at HS hE;rw[←hE] at HS⊢;clear hE;unfold jd at HS⊢;generalize dq σ _ _=z at*
 obtain⟨b,off,rfl,bl,b0⟩:=(HR w h.right).at_ (j:=0) (u:=K M n0) rfl;rw[Nat.add_zero] at b0;clear HR;go_enter func24,ntmps24;go_wp2_with fail
 (with_reducible refine(HS.out _ h).mono ?_);rintro e w6 ⟨rfl,h6,x6⟩
 clear HS h b0 bl;go_wp2_with fail
 go_end0
 exact⟨rfl,h6,x6⟩
theorem wA(d m:Nat)(σ:Sc)(told:List UInt8)(n0:Int)(h0:bX n0):iX d m σ told lY [n0]:=by
 intro B k R w hm ht HK HR h;have hE:dq σ lY [n0]=dx σ (⟨6,n0,⟨0,0,0,0⟩,⟨0,0,U⟩⟩:an):=by kernel_rfl
 rw[hE];have HS:=C (fun w h=>lL d m σ told (⟨6,n0,⟨0,0,0,0⟩,⟨0,0,U⟩⟩:an) ⟨(by unfold bX;dsimp only;omega),by first|exact h0|exact bS,by first|exact⟨h0,bS,bS,bS⟩|exact⟨bS,bS,bS,bS⟩,bS,bS⟩ hm (by omega) R HK w h);dsimp only[Mp.zero,Ac.zero] at HS hE;rw[←hE] at HS⊢;clear hE;unfold lY at HS⊢;generalize dq σ _ _=z at*
 obtain⟨b,off,rfl,bl,b0⟩:=(HR w h.right).at_ (j:=0) (u:=K M n0) rfl;rw[Nat.add_zero] at b0;clear HR;go_enter func24,ntmps24;go_wp2_with fail
 (with_reducible refine(HS.out _ h).mono ?_);rintro e w6 ⟨rfl,h6,x6⟩
 clear HS h b0 bl;go_wp2_with fail
 go_end0
 exact⟨rfl,h6,x6⟩
theorem sq(d m:Nat)(σ:Sc)(told:List UInt8)(n0:Int)(h0:bX n0):iX d m σ told gy [n0]:=by
 intro B k R w hm ht HK HR h;have hE:dq σ gy [n0]=dx σ (⟨7,n0,⟨0,0,0,0⟩,⟨0,0,U⟩⟩:an):=by kernel_rfl
 rw[hE];have HS:=C (fun w h=>lL d m σ told (⟨7,n0,⟨0,0,0,0⟩,⟨0,0,U⟩⟩:an) ⟨(by unfold bX;dsimp only;omega),by first|exact h0|exact bS,by first|exact⟨h0,bS,bS,bS⟩|exact⟨bS,bS,bS,bS⟩,bS,bS⟩ hm (by omega) R HK w h);dsimp only[Mp.zero,Ac.zero] at HS hE;rw[←hE] at HS⊢;clear hE;unfold gy at HS⊢;generalize dq σ _ _=z at*
 obtain⟨b,off,rfl,bl,b0⟩:=(HR w h.right).at_ (j:=0) (u:=K M n0) rfl;rw[Nat.add_zero] at b0;clear HR;go_enter func24,ntmps24;go_wp2_with fail
 (with_reducible refine(HS.out _ h).mono ?_);rintro e w6 ⟨rfl,h6,x6⟩
 clear HS h b0 bl;go_wp2_with fail
 go_end0
 exact⟨rfl,h6,x6⟩
theorem tZ(d m:Nat)(σ:Sc)(told:List UInt8)(n0:Int):iX d m σ told je [n0]:=by
 intro B k R w hm ht HK HR h;have hE:dq σ je [n0]=(σ,l5 σ n0):=by kernel_rfl
 rw[hE];have HS:=C (fun w h=>zM d m σ told n0 (by omega) R HK w h);clear hE;unfold je;dsimp only at HS⊢;obtain⟨b,off,rfl,bl,b0⟩:=(HR w h.right).at_ (j:=0) (u:=K M n0) rfl;rw[Nat.add_zero] at b0;generalize told++_=out at*
 clear HR;go_enter func24,ntmps24;go_wp2_with fail
 (with_reducible refine(HS.out _ h).mono ?_);rintro e w6 ⟨rfl,h6,x6⟩
 clear HS h b0 bl;go_wp2_with fail
 go_end0
 exact⟨rfl,dX (Nat.le_succ m) h6,x6⟩
theorem ua(d m:Nat)(σ:Sc)(told:List UInt8)(n0:Int):iX d m σ told jf [n0]:=by
 intro B k R w hm ht HK HR h;have hE:dq σ jf [n0]=(σ,pz (σ.kept n0)):=by kernel_rfl
 rw[hE];have HS:=C (fun w h=>zN d m σ told n0 (by omega) R HK w h);clear hE;unfold jf;dsimp only at HS⊢;obtain⟨b,off,rfl,bl,b0⟩:=(HR w h.right).at_ (j:=0) (u:=K M n0) rfl;rw[Nat.add_zero] at b0;generalize told++_=out at*
 clear HR;go_enter func24,ntmps24;go_wp2_with fail
 (with_reducible refine(HS.out _ h).mono ?_);rintro e w6 ⟨rfl,h6,x6⟩
 clear HS h b0 bl;go_wp2_with fail
 go_end0
 exact⟨rfl,dX (Nat.le_succ m) h6,x6⟩
theorem uc(d m:Nat)(σ:Sc)(told:List UInt8):iX d m σ told jg []:=by
 intro B k R w hm ht HK HR h;have hE:dq σ jg []=(σ,lZ (cJ σ.s 0)):=by kernel_rfl
 rw[hE];have HS:=C (fun w h=>zL d m σ told (by omega) R HK w h);clear hE HR;unfold jg;dsimp only at HS⊢;generalize told++_=out at*
 go_enter func24,ntmps24;go_wp2_with fail
 (with_reducible refine(HS.out _ h).mono ?_);rintro e w6 ⟨rfl,h6,x6⟩
 clear HS h;go_wp2_with fail
 go_end0
 exact⟨rfl,dX (Nat.le_succ m) h6,x6⟩
theorem ud(d m:Nat)(σ:Sc)(told:List UInt8):iX d m σ told fR []:=by
 intro B k R w hm ht HK HR h;have hE:dq σ fR []=((fB σ).1,l6 σ):=by kernel_rfl
 rw[hE];have HS:=C (fun w h=>zB d m σ told (by omega) (by omega) R HK w h);clear hE HR;unfold fR;dsimp only at HS⊢;generalize told++_=out at*
 go_enter func24,ntmps24;go_wp2_with fail
 (with_reducible refine(HS.out _ h).mono ?_);rintro e w6 ⟨rfl,h6,x6⟩
 clear HS h;go_wp2_with fail
 go_end0
 exact⟨rfl,dX (Nat.le_succ m) h6,x6⟩
theorem gv{w:N}{b off n j:Nat}{xs:List ak}{u:ak}(h:Rd w (J (V b off I)) n xs)(hu:xs[j]? =J u):b<w.heap.size∧w.cell? ⟨b,off+j,I⟩=J u:=by
 obtain⟨b2,o2,he,hl,hc⟩:=h.at_ hu;injection he with he
 injection he with e1 e2 _
 subst e1;subst e2;exact⟨hl,hc⟩
theorem wB(d m:Nat)(σ:Sc)(told:List UInt8)(n0 n1 n2 n3:Int)(h0:bX n0)(h1:bX n1)(h2:bX n2)(h3:bX n3):iX d m σ told jX [n0,n1,n2,n3]:=by
 intro B k R w hm ht HK HR h;have hE:dq σ jX [n0,n1,n2,n3]=dx σ (⟨1,0,⟨n0,n1,n2,n3⟩,⟨0,0,U⟩⟩:an):=by kernel_rfl
 rw[hE];have HS:=C (fun w h=>lL d m σ told (⟨1,0,⟨n0,n1,n2,n3⟩,⟨0,0,U⟩⟩:an) ⟨(by unfold bX;dsimp only;omega),bS,⟨h0,h1,h2,h3⟩,bS,bS⟩ hm (by omega) R HK w h);dsimp only[Mp.zero,Ac.zero] at HS hE;rw[←hE] at HS⊢;clear hE;unfold jX at HS⊢;generalize dq σ _ _=z at*
 obtain⟨b,off,rfl,bl,-⟩:=(HR w h.right).at_ (j:=0) (u:=K M n0) rfl;clear h0 h1 h2 h3;go_enter func24,ntmps24;go_upto_region 2 with fail;have hd:=h.drew;have xd:=(Ext.refl w).drew;have HC:=C (fun(w':N) (D:ab) (h:O w' (D*R))=>(by
  have hr:=HR w' h.right;exact⟨(gv hr (j:=0) rfl).2,(gv hr (j:=1) rfl).2,(gv hr (j:=2) rfl).2,(gv hr (j:=3) rfl).2⟩:w'.cell? (V b off I)=J (K M n0)∧w'.cell? ⟨b,off+1,I⟩=J (K M n1)∧w'.cell? ⟨b,off+2,I⟩=J (K M n2)∧w'.cell? ⟨b,off+3,I⟩=J (K M n3)))
 clear h HR;go_region_held3 (fun w'=>w'.cell? (V b off I)=J (K M n0)∧w'.cell? ⟨b,off+1,I⟩=J (K M n1)∧w'.cell? ⟨b,off+2,I⟩=J (K M n2)∧w'.cell? ⟨b,off+3,I⟩=J (K M n3)) (first|(with_reducible exact HC.out _ _ hd)|(with_reducible exact HC.out _ _ hL)|go_keep)
  (first|(go_at_call 46;(with_reducible refine(HS.out _ hd).mono ?_);rintro e w5 ⟨rfl,hL,xL⟩))
 all_goals
  go_wp2_with fail
  go_end0
  exact⟨rfl,hL,xd.trans xL⟩
theorem pb(d m:Nat)(σ:Sc)(told:List UInt8)(n0 n1:Int)(h0:bX n0)(h1:bX n1):iX d m σ told dI [n0,n1]:=by
 intro B k R w hm ht HK HR h;have hE:dq σ dI [n0,n1]=dx σ (⟨3,0,⟨n0,0,0,n1⟩,⟨0,0,U⟩⟩:an):=by kernel_rfl
 rw[hE];have HS:=C (fun w h=>lL d m σ told (⟨3,0,⟨n0,0,0,n1⟩,⟨0,0,U⟩⟩:an) ⟨(by unfold bX;dsimp only;omega),bS,⟨h0,bS,bS,h1⟩,bS,bS⟩ hm (by omega) R HK w h);dsimp only[Mp.zero,Ac.zero] at HS hE;rw[←hE] at HS⊢;clear hE;unfold dI at HS⊢;generalize dq σ _ _=z at*
 obtain⟨b,off,rfl,bl,-⟩:=(HR w h.right).at_ (j:=0) (u:=K M n0) rfl;clear h0 h1;go_enter func24,ntmps24;go_upto_region 6 with fail;have hd:=h.drew;have xd:=(Ext.refl w).drew;have HC:=C (fun(w':N) (D:ab) (h:O w' (D*R))=>(by
  have hr:=HR w' h.right;exact⟨(gv hr (j:=0) rfl).2,(gv hr (j:=1) rfl).2⟩:w'.cell? (V b off I)=J (K M n0)∧w'.cell? ⟨b,off+1,I⟩=J (K M n1)))
 clear h HR;go_region_held3 (fun w'=>w'.cell? (V b off I)=J (K M n0)∧w'.cell? ⟨b,off+1,I⟩=J (K M n1)) (first|(with_reducible exact HC.out _ _ hd)|(with_reducible exact HC.out _ _ hL)|go_keep)
  (first|(go_at_call 46;(with_reducible refine(HS.out _ hd).mono ?_);rintro e w5 ⟨rfl,hL,xL⟩))
 all_goals
  go_wp2_with fail
  go_end0
  exact⟨rfl,hL,xd.trans xL⟩
theorem qH(d m:Nat)(σ:Sc)(told:List UInt8)(n0 n1 n2 n3:Int)(h0:bX n0)(h1:bX n1)(h2:bX n2):iX d m σ told e6 [n0,n1,n2,n3]:=by
 intro B k R w hm ht HK HR h;obtain⟨u,hu⟩:∃u,(n3 !=0)=u:=⟨_,rfl⟩;have hu2:decide (n3≠0)=u:=by rw[←hu];by_cases h:n3=0<;>simp[h]
 have hE:dq σ e6 [n0,n1,n2,n3]=dx σ ⟨4,n0,⟨0,0,0,0⟩,⟨n1,n2,decide (n3≠0)⟩⟩:=by kernel_rfl
 rw[hu2] at hE;rw[hE];have HS:=C (fun w h=>lL d m σ told ⟨4,n0,⟨0,0,0,0⟩,⟨n1,n2,u⟩⟩ ⟨(by unfold bX;dsimp only;omega),h0,⟨bS,bS,bS,bS⟩,h1,h2⟩ hm (by omega) R HK w h);dsimp only at HS;generalize dx σ ⟨4,n0,⟨0,0,0,0⟩,⟨n1,n2,u⟩⟩=z at*
 clear hE hu2 h0 h1 h2;unfold e6;obtain⟨b,off,rfl,bl,-⟩:=(HR w h.right).at_ (j:=0) (u:=K M n0) rfl;go_enter func24,ntmps24;go_upto_region 8 with fail;have hd:=h.drew;have xd:=(Ext.refl w).drew;have HC:=C (fun(w':N) (D:ab) (h:O w' (D*R))=>(by
  have hr:=HR w' h.right;exact⟨(gv hr (j:=0) rfl).2,(gv hr (j:=1) rfl).2,(gv hr (j:=2) rfl).2,(gv hr (j:=3) rfl).2⟩:w'.cell? (V b off I)=J (K M n0)∧w'.cell? ⟨b,off+1,I⟩=J (K M n1)∧w'.cell? ⟨b,off+2,I⟩=J (K M n2)∧w'.cell? ⟨b,off+3,I⟩=J (K M n3)))
 clear h HR;go_region_held3 (fun w'=>w'.cell? (V b off I)=J (K M n0)∧w'.cell? ⟨b,off+1,I⟩=J (K M n1)∧w'.cell? ⟨b,off+2,I⟩=J (K M n2)∧w'.cell? ⟨b,off+3,I⟩=J (K M n3)) (first|(with_reducible exact HC.out _ _ hd)|(with_reducible exact HC.out _ _ hL)|go_keep)
  (first|(go_at_call 46;(with_reducible refine(HS.out _ hd).mono ?_);rintro e w5 ⟨rfl,hL,xL⟩))
 all_goals
  go_wp2_with fail
  go_end0
  exact⟨rfl,hL,xd.trans xL⟩
theorem AH(d m:Nat)(σ:Sc)(told:List UInt8)(s:ByteArray)(ns:List Int)(hw:bu s=ns.length)(hn:s≠au)(hsm:∀n∈ns,0≤n∧n≤100000000):iX d m σ told s ns:=by
 have hI:∀n∈ns,bX n:=fun n h=>wy (hsm n h);rcases ko s with (rfl|rfl)|(rfl|rfl)|(rfl|rfl|rfl|rfl|rfl|rfl)|(rfl|rfl)|⟨h1,h2,h3,h4,h5,h6,h7,h8,h9,h10,h11,h12⟩
 ·exact absurd rfl hn
 ·obtain⟨a,b,rfl⟩:=zH (ns:=ns) (by rw[show bu dI=2 by decide] at hw;omega)
  exact pb d m σ told a b (hI _ (by simp)) (hI _ (by simp))
 ·obtain⟨a,b,c,e,rfl⟩:=zI (ns:=ns) (by rw[show bu jX=4 by decide] at hw;omega)
  exact wB d m σ told a b c e (hI _ (by simp)) (hI _ (by simp)) (hI _ (by simp)) (hI _ (by simp))
 ·obtain⟨a,b,c,e,rfl⟩:=zI (ns:=ns) (by rw[show bu e6=4 by decide] at hw;omega)
  exact qH d m σ told a b c e (hI _ (by simp)) (hI _ (by simp)) (hI _ (by simp))
 ·obtain⟨a,rfl⟩:=sn (ns:=ns) (by rw[show bu gx=1 by decide] at hw;omega)
  exact so d m σ told a (hI _ (by simp))
 ·obtain⟨a,rfl⟩:=sn (ns:=ns) (by rw[show bu jd=1 by decide] at hw;omega)
  exact tY d m σ told a (hI _ (by simp))
 ·obtain⟨a,rfl⟩:=sn (ns:=ns) (by rw[show bu lY=1 by decide] at hw;omega)
  exact wA d m σ told a (hI _ (by simp))
 ·obtain⟨a,rfl⟩:=sn (ns:=ns) (by rw[show bu gy=1 by decide] at hw;omega)
  exact sq d m σ told a (hI _ (by simp))
 ·obtain⟨a,rfl⟩:=sn (ns:=ns) (by rw[show bu je=1 by decide] at hw;omega)
  exact tZ d m σ told a
 ·obtain⟨a,rfl⟩:=sn (ns:=ns) (by rw[show bu jf=1 by decide] at hw;omega)
  exact ua d m σ told a
 ·obtain rfl:ns=[]:=List.length_eq_zero_iff.1 (by rw[show bu jg=0 by decide] at hw;omega)
  exact uc d m σ told
 ·obtain rfl:ns=[]:=List.length_eq_zero_iff.1 (by rw[show bu fR=0 by decide] at hw;omega)
  exact ud d m σ told
 ·have hw2:bu s= -1:=by simp only[bu,h1,h2,h3,h4,h5,h6,h7,h8,h9,h10,h11,h12,or_self,if_false]
  omega
theorem oq(s:ByteArray)(hs:s.size≤4294967296)(R:ab)(w:N)(h:O w R):
  Y prog 18 #[.string s,.func (.func 19) #[] #[]] w fun e w'=>∃A,e= .returned (.slice (J (V A 0 I)) (dp s).length (dp s).length)∧
   O w' (bt 9 1 (.slice (J (V A 0 I)) (dp s).length (dp s).length) (dp s).length ((dp s).map Value.string)*R)∧ax w w':=by
 refine(ib 19 #[] (fun _ _=>rfl) (fun x=>x==32) s w hs (yx w)).mono ?_;rintro e w' ⟨A,rfl,hA,ho,hb⟩;exact⟨A,rfl,si h ho hb,(Ext.refl w).below hb⟩
theorem kV{w:N}{R:ab}{A n:Nat}{x:ByteArray}{r:List ByteArray}(h:O w (bt 9 1 (.slice (J (V A 0 I)) n n) n ((x::r).map Value.string)*R)):Rd w (J (V A 1 I)) r.length (r.map Value.string):=by
 have hr:=h.rd.1;refine⟨by simp,?_,fun j u hu=> ?_⟩
 ·have h1:=hr.1
  have h2:=hr.2.1;simp only[List.length_map,List.length_cons] at h1;omega
 ·obtain⟨h1,h2⟩:=gv hr (j:=j+1) (u:=u) (by simpa using hu)
  exact⟨A,1,rfl,h1,by rw[Nat.add_comm 1 j];rw[Nat.zero_add] at h2;exact h2⟩
theorem pd{w:N}{R:ab}{A n:Nat}{x:ByteArray}{r:List ByteArray}(h:O w (bt 9 1 (.slice (J (V A 0 I)) n n) n ((x::r).map Value.string)*R)):A<w.heap.size∧w.cell? (V A 0 I)=J (.string x):=gv h.rd.1 (j:=0) rfl
theorem iq(p:Nat→Bool)(s:ByteArray):∀(f pos:Nat) (st:Option Nat) (acc:List (Nat×Nat)),(Lib.spansFromP p s f pos st acc).1.length≤acc.length+f
 |0,_,_,_=>Nat.le_refl _
 |f+1,pos,st,acc=>by
  unfold Lib.spansFromP;split
  ·split
   ·cases st with
    |some a=>
     have:=iq p s f (pos+(Utf8.decode s pos).2) I (acc++[(a,pos)]);simp only[X,List.length_cons,List.length_nil] at this;exact Nat.le_trans this (by omega)
    |none=>exact Nat.le_trans (iq p s f _ I acc) (by omega)
   ·cases st with
    |some a=>exact Nat.le_trans (iq p s f _ (J a) acc) (by omega)
    |none=>exact Nat.le_trans (iq p s f _ (J pos) acc) (by omega)
  ·show acc.length≤_
   omega
theorem lQ(s:ByteArray):(dp s).length ≤s.size+1:=by
 unfold dp Lib.goFieldsP Lib.spansOfP Lib.closeSpans;rw[List.length_map];have:=iq (fun x=>x==32) s s.size 0 I [];split
 ·rw[X]
  simp only[List.length_cons,List.length_nil] at this⊢;omega
 ·simp only[List.length_nil] at this
  omega
theorem kW{s x:ByteArray}(h:x∈dp s):x.size≤s.size:=by
 unfold dp Lib.goFieldsP at h;obtain⟨y,_,rfl⟩:=List.mem_map.1 h;rw[ByteArray.size_extract];omega
set_option maxHeartbeats 8000000 in
theorem qI(d m:Nat)(S:Option Sc)(told:List UInt8)(s:ByteArray)(hs:s.size≤100000)(R:ab)(w:N)(h:O w (aG d m S told*R))(hF:dp s=[]):
  Y prog 13 #[.pointer (J (V d 0 I)),.string s] w (cF (.tuple #[]) (aG d (m+1) (cC S s).1 (told++(cC S s).2)*R) w):=by
 have HF:=C (fun w h=>oq s (by omega) (aG d m S told*R) w h);have hE:cC S s=(S,[]):=by unfold cC;rw[hF]
 rw[hF] at HF;rw[hE];dsimp only;rw[List.append_nil];simp only[List.length_nil] at HF;clear hF hE;go_enter func13,ntmps13;go_wp2_with fail
 refine(HF.out _ h).mono ?_;rintro e w2 ⟨A,rfl,h2,x2⟩;clear h HF;go_wp2_with fail
 go_end0
 exact⟨rfl,dX (Nat.le_succ m) h2.right,x2⟩
theorem sr(d m:Nat)(S:Option Sc)(told:List UInt8)(s:ByteArray)(hs:s.size≤100000)(ht:told.length≤130000000000000)(R:ab)(HK:ag R)(w:N)(h:O w (aG d m S told*R))(f0:ByteArray)(r:List ByteArray)(hF:dp s=f0::r)(hN:dz r=I):
  Y prog 13 #[.pointer (J (V d 0 I)),.string s] w (cF (.tuple #[]) (aG d (m+1) (cC S s).1 (told++(cC S s).2)*R) w):=by
 have HF:=C (fun w h=>oq s (by omega) (aG d m S told*R) w h);have hE:cC S s=(S,bN [.s fZ]):=by unfold cC;rw[hF];dsimp only;rw[hN]
 have hsz:∀x∈r,x.size≤281474976710656:=fun x hx=>by have:=kW (s:=s) (x:=x) (by rw[hF];exact List.mem_cons_of_mem _ hx);omega
 have hrl:r.length≤1000000:=by have:=lQ s;rw[hF] at this;simp only[List.length_cons] at this;omega
 obtain⟨n,hn⟩:∃n,(f0::r).length =n:=⟨_,rfl⟩;have hn1:n=r.length+1:=hn.symm;have hr0:r≠[]:=by rintro rfl;cases hN
 have hz:((n:Int)==0)=U:=by simp;omega
 have hn2:(1:Int)≤n:=by omega
 rw[hF,hn] at HF;have HNU:Hid (∀(A c:Nat) (w:N),O w (bt 9 1 (.slice (J (V A 0 I)) n n) n ((f0::r).map Value.string)*(aG d m S told*R))→Y prog 20 #[.slice (J (V A 1 I)) r.length c] w fun e w'=>e= .returned (.tuple #[.slice I 0 0,vB U])∧O w' (bt 9 1 (.slice (J (V A 0 I)) n n) n ((f0::r).map Value.string)*(aG d m S told*R))∧ax w w'):=C (fun A c w h=>by
  refine(o9 (J (V A 1 I)) c r hsz hrl _ ((HK.star (aG d m S told)).star (bt 9 1 (.slice (J (V A 0 I)) n n) n ((f0::r).map Value.string))) (fun w' h=>kV h) w h).mono ?_;rintro e w' ⟨x,hm⟩;rw[hN] at hm;exact⟨hm.1,hm.2,x⟩)
 rw[hE];dsimp only;clear hE hF hN hsz;obtain⟨out,ho⟩:∃o,told++bN [.s fZ]=o:=⟨_,rfl⟩;have HS:=(fun R w hK h=>ji d m (S) told [.s fZ] (by intro x hx;rw[List.mem_singleton.1 hx];show 4≤20;decide) (by simp) (by simp) (by omega) R hK w h:∀R w,ag R→O w (aG d m (S) told*R)→_);rw[ho];simp only[ho] at HS;simp only[List.map_cons,List.map_nil,List.length_cons,List.length_nil,Nat.reduceAdd,Pt.val,fZ] at HS;replace HS:=C HS;clear ho;go_enter func13,ntmps13;go_wp2_with fail
 refine(HF.out _ h).mono ?_;rintro e w2 ⟨A,rfl,h2,x2⟩;clear h HF;go_wp2_with fail
 all_goals first|(exfalso;exact hr0 (by assumption))|skip
 refine(HNU.out _ _ _ h2).mono ?_;rintro e w3 ⟨rfl,h3,x3⟩;have x4:=x2.trans x3;have h4:=h3.p2;clear h2 x2 h3 x3 HNU;go_wp2_with fail
 (with_reducible refine(HS.out _ _ (HK.star _) h4).mono ?_);rintro e w6 ⟨rfl,h6,x6⟩
 go_wp2_with fail
 go_end0
 exact⟨rfl,dX (Nat.le_succ m) h6.p2.right,x4.trans x6⟩
theorem ue{w:N}{R:ab}{d m:Nat}{told:List UInt8}(h:O w (aG d m I told*R)):d<w.heap.size∧w.cell? (V d 2 I)=J (.pointer I):=by
 obtain⟨a,v,q,ha,hv,h⟩:=eM h;unfold gS at h;have h2:O w (kh q m I*(aa d #[a,v,q] 47*(bt 5 1 v told.length (Lib.byteCells told)*R))):=h.eq (by ac_rfl);obtain⟨rfl,h3⟩:=bZ.1 h2;exact⟨h3.lt,h3.cell 2⟩
theorem uf{w:N}{R:ab}{d m:Nat}{σ:Sc}{told:List UInt8}(h:O w (aG d m (J σ) told*R)):d<w.heap.size∧∃p:Nat,w.cell? (V d 2 I)=J (.pointer (J (V p 0 I))):=by
 obtain⟨a,v,p,sp,W,P,_,_,_,_,_,h⟩:=eO h;unfold ny at h;exact⟨h.right.right.lt,p,h.right.right.cell 2⟩
def ot(S:Option Sc)(f0:ByteArray)(ns:List Int):Option Sc×List UInt8:=
 if bu f0≠ns.length then(S,bN [.s fZ]) else if f0=au then fN (ns.getD 0 0) (ns.getD 1 0) else match S with
  |none=>(I,bN [.s fZ])
  |some σ=>(J (dq σ f0 ns).1,(dq σ f0 ns).2)
theorem pe{S:Option Sc}{s f0:ByteArray}{r:List ByteArray}{ns:List Int}(hF:dp s=f0::r)(hN:dz r=J ns):cC S s=ot S f0 ns:=by
 unfold cC;rw[hF];dsimp only;rw[hN];rfl
theorem ss{S:Option Sc}{f0:ByteArray}{ns:List Int}(h:bu f0≠ns.length):ot S f0 ns=(S,bN [.s fZ]):=by unfold ot;rw[if_pos h]
theorem ug{S:Option Sc}{f0:ByteArray}{ns:List Int}(h:bu f0=ns.length)(h2:f0=au):ot S f0 ns=fN (ns.getD 0 0) (ns.getD 1 0):=by unfold ot;rw[if_neg (fun e=>e h),if_pos h2]
theorem su{f0:ByteArray}{ns:List Int}(h:bu f0=ns.length)(h2:f0≠au):ot I f0 ns=(I,bN [.s fZ]):=by unfold ot;rw[if_neg (fun e=>e h),if_neg h2]
theorem sv{σ:Sc}{f0:ByteArray}{ns:List Int}(h:bu f0=ns.length)(h2:f0≠au):ot (J σ) f0 ns=(J (dq σ f0 ns).1,(dq σ f0 ns).2):=by unfold ot;rw[if_neg (fun e=>e h),if_neg h2]
set_option maxHeartbeats 8000000 in
theorem sw(d m:Nat)(S:Option Sc)(told:List UInt8)(s:ByteArray)(hs:s.size≤100000)(hm1:1≤m)(hm:m≤999998)(ht:told.length≤130000000000000)(R:ab)(HK:ag R)(w:N)(h:O w (aG d m S told*R))(f0:ByteArray)(r:List ByteArray)(hF:dp s=f0::r)(ns:List Int)(hN:dz r=J ns):
  Y prog 13 #[.pointer (J (V d 0 I)),.string s] w (cF (.tuple #[]) (aG d (m+1) (cC S s).1 (told++(cC S s).2)*R) w):=by
 have HF:=C (fun w h=>oq s (by omega) (aG d m S told*R) w h);have HE:=C (pe (S:=S) hF hN);have hsz:∀x∈r,x.size≤281474976710656:=fun x hx=>by have:=kW (s:=s) (x:=x) (by rw[hF];exact List.mem_cons_of_mem _ hx);omega
 have hrl:r.length≤1000000:=by have:=lQ s;rw[hF] at this;simp only[List.length_cons] at this;omega
 have hsm:=C (kT hN);obtain⟨n,hn⟩:∃n,(f0::r).length =n:=⟨_,rfl⟩;have hn1:n=r.length+1:=hn.symm;obtain⟨k0,hk0⟩:∃k,ns.length=k:=⟨_,rfl⟩;rw[hF,hn] at HF;have HNU:Hid (∀(A o c:Nat) (w:N),(∀w',O w' (bt 9 1 (.slice (J (V A 0 I)) n n) n ((f0::r).map Value.string)*(aG d m S told*R))→Rd w' (J (V A o I)) r.length (r.map Value.string))→O w (bt 9 1 (.slice (J (V A 0 I)) n n) n ((f0::r).map Value.string)*(aG d m S told*R))→Y prog 20 #[.slice (J (V A o I)) r.length c] w fun e w'=>∃B k,e= .returned (.tuple #[.slice B k0 k,vB Z])∧O w' (aq (.slice B k0 k) ns*(bt 9 1 (.slice (J (V A 0 I)) n n) n ((f0::r).map Value.string)*(aG d m S told*R)))∧ax w w'):=C (fun A o c w hr h=>by
  refine(o9 (J (V A o I)) c r hsz hrl _ ((HK.star (aG d m S told)).star (bt 9 1 (.slice (J (V A 0 I)) n n) n ((f0::r).map Value.string))) hr w h).mono ?_;rintro e w' ⟨x,hm⟩;rw[hN] at hm;obtain⟨B,k,rfl,h⟩:=hm;rw[hk0] at h⊢;exact⟨B,k,rfl,h,x⟩)
 have hz:((n:Int)==0)=U:=by simp;omega
 have hn2:(1:Int)≤n:=by omega
 replace hn1:=C hn1;replace hk0:=C hk0;clear hF hN hsz hrl hn;go_enter func13,ntmps13;go_wp2_with fail
 refine(HF.out _ h).mono ?_;rintro e w2 ⟨A,rfl,h2,x2⟩;clear h HF;go_upto_region 2 with fail;go_cut [5,6] from 12 to 17 (fun s5 s6 wx=>∃B k,s5= .slice B k0 k∧s6=vB Z∧O wx (aq (.slice B k0 k) ns*(bt 9 1 (.slice (J (V A 0 I)) n n) n ((f0::r).map Value.string)*(aG d m S told*R)))∧ax w wx)
 case first=>
  clear HE hsm;by_cases hr0:r=[]
  ·subst hr0
   obtain rfl:n=1:=hn1.out;have HN2:=C (HNU.out A 0 0 _ (fun w' _=>⟨rfl,by simp,fun j u hu=>by simp at hu⟩) h2);simp only[List.length_nil] at HN2;clear h2 HNU;go_wp2_with fail
   refine HN2.out.mono ?_;rintro e w3 ⟨B,k,rfl,h3,x3⟩;go_wp2_with fail
   go_meet
   case rel=>exact⟨B,k,rfl,rfl,h3,x2.trans x3⟩
  ·obtain⟨j,hj⟩:∃j,r.length=j:=⟨_,rfl⟩
   have HN2:=C (HNU.out A 1 j _ (fun w' h=>kV h) h2);rw[hj] at HN2;obtain rfl:n=j+1:=hn1.out.trans (by rw[hj]);have hj0:j≠0:=by rintro rfl;exact hr0 (List.length_eq_zero_iff.1 hj)
   clear h2 HNU hr0 hj hz hn2;go_wp2_with fail
   refine HN2.out.mono ?_;rintro e w3 ⟨B,k,rfl,h3,x3⟩;go_wp2_with fail
   go_meet
   case rel=>exact⟨B,k,rfl,rfl,h3,x2.trans x3⟩
 case rest=>
  clear h2 x2 HNU;obtain⟨B,k,rfl,rfl,h3,x3⟩:=hcut;obtain⟨al,a0⟩:=pd h3.right;have HWD:=C (yw f0);by_cases hw:bu f0=ns.length
  ·have hw':(bu f0 !=(k0:Int))=U:=by rw[hw,hk0.out];simp
   by_cases hnew:f0=au
   ·have HE2:=C (HE.out.trans (ug hw hnew))
    have hk2:k0=2:=by rw[hnew,show bu au=2 by decide] at hw;rw[←hk0.out];omega
    obtain⟨c1,c2,rfl⟩:=zH (ns:=ns) (by rw[hk0.out,hk2]);subst hk2;have HB:=C (fun R hK w h=>yF d m S told c1 c2 hm1 (by omega) R hK w h);have hnb:(f0.toList==[110,101,119])=Z:=by rw[hnew,show tNew.toList=[110,101,119] from ByteArray.toList_mk _];rfl
    have h4:O wc (aG d m S told*(aq (.slice B 2 k) [c1,c2]*(bt 9 1 (.slice (J (V A 0 I)) n n) n ((f0::r).map Value.string)*R))):=h3.eq (by ac_rfl);obtain⟨b,off,rfl,bl,-⟩:=(h3.rd.1).at_ (j:=0) (u:=K M c1) rfl;clear hw hk0 hnew HE hsm h3;generalize bu f0=wb at*
    go_wp2_with fail
    refine(HWD.out _).mono ?_;rintro e w3 ⟨rfl,rfl⟩;go_upto_region 7 with fail;have hd:=h4.drew;have xd:=x3.drew;have HC:=C (fun(w':N) (D Q:ab) (h:O w' (D*(aq (.slice (J (V b off I)) 2 k) [c1,c2]*Q)))=>(⟨(gv h.right.rd.1 (j:=0) rfl).2,(gv h.right.rd.1 (j:=1) rfl).2⟩:w'.cell? (V b off I)=J (K M c1)∧w'.cell? ⟨b,off+1,I⟩=J (K M c2)));clear h4 x3;go_region_held3 (fun w'=>w'.cell? (V b off I)=J (K M c1)∧w'.cell? ⟨b,off+1,I⟩=J (K M c2)) (first|(with_reducible exact HC.out _ _ _ hd)|(with_reducible exact HC.out _ _ _ hL)|go_keep)
     (first|(go_at_call 23;(with_reducible refine(HB.out _ ((HK.star _).star _) _ hd).mono ?_);rintro e w5 ⟨rfl,hL,xL⟩))
    all_goals
     go_wp2_with fail
     go_end0
     exact⟨rfl,by rw[HE2.out];exact dX (Nat.le_succ m) hL.p2.right.p2.right,xd.trans xL⟩
   ·have hnb:(f0.toList==[110,101,119])=U:=fC [110,101,119] hnew
    cases S with
    |none=>
     have HE2:=C (HE.out.trans (su hw hnew));clear hw HE hsm hnew;generalize bu f0=wb at*
     have HS:=(fun R w hK h=>ji d m (I) told [.s fZ] (by intro x hx;rw[List.mem_singleton.1 hx];show 4≤20;decide) (by simp) (by simp) (by omega) R hK w h:∀R w,ag R→O w (aG d m (I) told*R)→_);simp only[List.map_cons,List.map_nil,List.length_cons,List.length_nil,Nat.reduceAdd,Pt.val,fZ] at HS;replace HS:=C HS;have h4:O wc (aG d m I told*(aq (.slice B k0 k) ns*(bt 9 1 (.slice (J (V A 0 I)) n n) n ((f0::r).map Value.string)*R))):=h3.eq (by ac_rfl);obtain⟨dl,d2⟩:=ue h4;clear h3;go_wp2_with fail
     refine(HWD.out _).mono ?_;rintro e w3 ⟨rfl,rfl⟩;go_wp2_with fail
     (with_reducible refine(HS.out _ _ ((HK.star _).star _) h4).mono ?_);rintro e w6 ⟨rfl,h6,x6⟩
     go_wp2_with fail
     go_end0
     exact⟨rfl,by rw[HE2.out];exact dX (Nat.le_succ m) h6.p2.right.p2.right,x3.trans x6⟩
    |some σ=>
     have HE2:=C (HE.out.trans (sv hw hnew));have HA:=C (fun R hK hR w h=>AH d m σ told f0 ns hw hnew hsm.out B k R w hm (by omega) hK hR h);rw[hk0.out] at HA;clear hw HE hsm hnew;generalize bu f0=wb at*
     have h4:O wc (aG d m (J σ) told*(aq (.slice B k0 k) ns*(bt 9 1 (.slice (J (V A 0 I)) n n) n ((f0::r).map Value.string)*R))):=h3.eq (by ac_rfl);obtain⟨dl,p,d2⟩:=uf h4;clear h3;go_wp2_with fail
     refine(HWD.out _).mono ?_;rintro e w3 ⟨rfl,rfl⟩;go_wp2_with fail
     (refine(HA.out _ ((HK.star _).star _) (fun w' h=> ?_) _ h4).mono ?_)
     ·have:=h.rd.1
      exact this
     rintro e w6 ⟨rfl,h6,x6⟩;go_wp2_with fail
     go_end0
     exact⟨rfl,by rw[HE2.out];exact h6.p2.right.p2.right,x3.trans x6⟩
  ·have HE2:=C (HE.out.trans (ss hw))
   have hw':(bu f0 !=(k0:Int))=Z:=by rw[←hk0.out];simpa using hw
   clear hw HE hsm;generalize bu f0=wb at*
   have HS:=(fun R w hK h=>ji d m (S) told [.s fZ] (by intro x hx;rw[List.mem_singleton.1 hx];show 4≤20;decide) (by simp) (by simp) (by omega) R hK w h:∀R w,ag R→O w (aG d m (S) told*R)→_);simp only[List.map_cons,List.map_nil,List.length_cons,List.length_nil,Nat.reduceAdd,Pt.val,fZ] at HS;replace HS:=C HS;have h4:O wc (aG d m S told*(aq (.slice B k0 k) ns*(bt 9 1 (.slice (J (V A 0 I)) n n) n ((f0::r).map Value.string)*R))):=h3.eq (by ac_rfl);clear h3;go_wp2_with fail
   refine(HWD.out _).mono ?_;rintro e w3 ⟨rfl,rfl⟩;go_wp2_with fail
   (with_reducible refine(HS.out _ _ ((HK.star _).star _) h4).mono ?_);rintro e w6 ⟨rfl,h6,x6⟩
   go_wp2_with fail
   go_end0
   exact⟨rfl,by rw[HE2.out];exact dX (Nat.le_succ m) h6.p2.right.p2.right,x3.trans x6⟩
theorem zJ(d m:Nat)(S:Option Sc)(told:List UInt8)(s:ByteArray)(hs:s.size≤100000)(hm1:1≤m)(hm:m≤999998)(ht:told.length≤130000000000000)(R:ab)(HK:ag R)(w:N)(h:O w (aG d m S told*R)):
  Y prog 13 #[.pointer (J (V d 0 I)),.string s] w (cF (.tuple #[]) (aG d (m+1) (cC S s).1 (told++(cC S s).2)*R) w):=by
 cases hF:dp s with
 |nil=>exact qI d m S told s hs R w h hF
 |cons f0 r=>
  cases hN:dz r with
  |none=>exact sr d m S told s hs ht R HK w h f0 r hF hN
  |some ns=>exact sw d m S told s hs hm1 hm ht R HK w h f0 r hF ns hN
def qA(s:ByteArray):Bool:=decide (0≤Lib.indexByte s.data.toList 10)
theorem xM(s:ByteArray)(w:N):Y prog 11 #[.string s,.string ⟨#[10]⟩] w (Same (vB (qA s)) w):=by
 refine(ja s 10 w).mono ?_;rintro e w' ⟨rfl,rfl⟩;exact⟨rfl,rfl⟩
section
variable {w:N} {R:ab} {d m:Nat} {S:Option Sc}
theorem pf(h:O w (aQ d m S*R)):∃a v q,O w (aa d #[a,v,q] 47*(kh q m S*R)):=by
 unfold aQ at h;obtain⟨a,h⟩:=aw.1 h;obtain⟨v,h⟩:=aw.1 h;obtain⟨q,h⟩:=aw.1 h;exact⟨a,v,q,by rw[←aN];exact h⟩
theorem uh{a v q:ak}(h:O w (aa d #[a,v,q] 47*(kh q m S*R))):O w (aQ d m S*R):=by
 unfold aQ;refine aw.2 ⟨a,aw.2 ⟨v,aw.2 ⟨q,?_⟩⟩⟩;rw[aN];exact h
theorem sx{q:ak}(h:O w (aa d #[.pointer I,.slice I 0 0,q] 47*(kh q m S*R))):O w (aG d m S []*R):=by
 refine gV (.inl rfl) (fun _=>rfl) (q:=q) ?_;unfold gS;have h2:=Has.rowNil (e:=5) (size:=1) h;exact h2.eq (show bt 5 1 (.slice I 0 0) 0 []*_=_*(bt 5 1 (.slice I 0 0) 0 []*_) by ac_rfl)
theorem yC(h:O w (aQ d m S*R)):d<w.heap.size:=by
 obtain⟨_,_,_,h⟩:=pf h;exact h.lt
end
theorem uj(d m:Nat)(S:Option Sc)(R:ab)(w:N)(h:O w (aQ d m S*R)):Y prog 12 #[.pointer (J (V d 0 I))] w (cF (.tuple #[]) (aG d m S []*R) w):=by
 obtain⟨a,v,q,h⟩:=pf h;refine(yt d a v q _ w h).mono ?_;rintro e w' ⟨rfl,h2,x2⟩;exact⟨rfl,sx h2,x2⟩
theorem eN{l:List Pt}(h:∀x∈l,x.ok)(hn:l.length≤10):(bN l).length ≤211:=by have:=ir h;omega
theorem jy{b:ByteArray}(h:b.data.toList.length≤20):(bN [.s b]).length ≤211:=eN (fun x hx=>by rw[List.mem_singleton.1 hx];exact h) (by simp)
theorem ph{n:Int}(h:bX n):(bN [.s pu,.n n]).length ≤211:=eN (fun x hx=>by
 simp only[List.mem_cons,List.not_mem_nil,or_false] at hx;rcases hx with rfl|rfl
 ·show 2≤20;decide
 ·exact h) (by simp)
theorem sy{L:List Ev}(h:∀e∈L,e.fit):(gC L).length ≤211*L.length:=lV _ _ _ (fun e he=>eN (oA (h e he)) (by have:=oB e;omega))
theorem sB{σ:Sc}{P:List Mp}(h:Safe σ P)(s:ByteArray)(ns:List Int):(dq σ s ns).2.length≤900000:=by
 have hst:∀x,(dx σ x).2.length≤900000:=fun x=>Nat.le_trans (eN (oA (lp h x)) (by have:=oB (σ.act x).2;omega)) (by decide);unfold dq;repeat' split
 all_goals first|exact hst _|skip
 ·unfold l5
  dsimp only;split
  ·exact Nat.le_trans (ph (kq h _)) (by decide)
  ·rename_i hc
   exact Nat.le_trans (eN (nz (pA h (Decidable.of_not_not hc))) (by simp[iK])) (by decide)
 ·obtain⟨h1,h2⟩:=rG h (ns.getD 0 0)
  unfold pz;dsimp only;rw[X];have a1:=lV (fun m=>bN (eo m)) 211 (σ.kept (ns.getD 0 0)) (fun x hx=>eN (l8 (h1 x hx)) (by simp[eo]));have a2:=jy (b:=nk) (by decide);omega
 ·unfold lZ
  dsimp only;rw[X];have hb:=h.lk.ok;have a0:=hb.le;have a1:=lV (fun m=>bN (gT m)) 211 (cJ σ.s 0) (fun x hx=>eN (oC (Safe.mapOk_ok (hb.chk x hx))) (by simp[gT]));have a2:=jy (b:=nk) (by decide);omega
 ·unfold l6
  dsimp only;rw[X];obtain⟨⟨Q,hQ⟩,hf⟩:=pC h;have a0:=lK (σ:=σ) h.ok.few;have a1:=sy hf;obtain⟨k1,k2⟩:=o8 hQ;have a2:(bN [Pt.s fR,.n ((fB σ).1.s.frees.length:Nat),.n ((fi (fB σ).1.s 0).length :Nat)]).length ≤211:=eN (fun x hx=>by
   simp only[List.mem_cons,List.not_mem_nil,or_false] at hx;rcases hx with rfl|rfl|rfl
   ·show 4≤20;decide
   ·exact k1
   ·exact k2) (by simp)
  omega
 ·exact Nat.zero_le _
theorem qJ{w:N}{R:ab}{d m:Nat}{S:Option Sc}{told:List UInt8}(h:O w (aG d m S told*R))(s:ByteArray):(cC S s).2.length≤900000:=by
 have hw:(bN [.s fZ]).length ≤900000:=Nat.le_trans (jy (by decide)) (by decide);unfold cC;split
 ·exact Nat.zero_le _
 split
 ·exact hw
 split
 ·exact hw
 split
 ·unfold fN
  split
  ·exact Nat.le_trans (jy (by decide)) (by decide)
  ·exact Nat.le_trans (ph (ce (by decide) (by decide))) (by decide)
 ·cases S with
  |none=>exact hw
  |some σ=>
   obtain⟨_,_,_,_,W,P,_,_,rfl,hW,_,_⟩:=eO h;exact sB hW.safe _ _
theorem qK{S:Option Sc}{l:List ByteArray}{i:Nat}(hi:i<l.length){y:ByteArray}(hy:l[i]=y):bn S (l.take (i+1))=((cC (bn S (l.take i)).1 y).1,(bn S (l.take i)).2++(cC (bn S (l.take i)).1 y).2):=by
 rw[show l.take (i+1)=l.take i++[y] by rw[List.take_add_one];simp[hi,hy],oz]
set_option maxHeartbeats 8000000 in
theorem Be(d m:Nat)(S:Option Sc)(l:List ByteArray)(hm1:1≤m)(hm:m+l.length≤900000)(hl:l.length≤300)(hsz:∀s∈l,s.size≤100000)(hno:∀s∈l,qA s=U)(B:Option ad)(c:Nat)(R:ab)(HK:ag R)(HR:∀w',O w' R→Rd w' B l.length (l.map Value.string))(w:N)(h:O w (aQ d m S*R)):
  Y prog 8 #[.pointer (J (V d 0 I)),.slice B l.length c] w fun e w'=>cF (.tuple #[.string ⟨(bn S l).2.toArray⟩,.agg #[K M 0,K M 0]]) (aQ d (m+l.length) (bn S l).1*R) w e w'∧(bn S l).2.length≤900000*l.length:=by
 obtain⟨n,hN⟩:∃n,l.length=n:=⟨_,rfl⟩;have HN:=C hN;have HSZ:=C hsz;have HNO:=C hno;have HH:=C HR;rw[hN] at hm hl HH⊢;have hn:¬(300:Int)<n:=by omega
 have h1:O _ (aQ d m S*(aa w.heap.size #[K M 0,K M 0] 33*R)):=(h.new #[K M 0,K M 0] 33).p2;have x1:=(Ext.refl w).alloc (.cells #[K M 0,K M 0] 33);have HRE:=C (fun R w h=>uj d m S R w h);clear h hN hsz hno HR;go_enter func8,ntmps8;go_upto_region 1 with fail;generalize w.alloc _=w1 at*
 generalize w.heap.size=F at*
 go_upto_region 3 with fail;go_wp2_with fail
 go_loopw [16] (fun t16 wr=>∃i:Nat,i≤n∧t16=K M i∧O wr (aQ d m S*(aa F #[K M 0,K M 0] 33*R))∧ax w wr) (fun t16 _=>n - (intOf t16).toNat)
 case atStart=>exact⟨0,by omega,rfl,h1,x1⟩
 case round=>
  clear h1 x1;obtain⟨i,hi,rfl,hr,hx⟩:=hrel;by_cases hlt:i<n
  ·have hil:i<l.length:=by have:=HN.out;omega
   obtain⟨y,hy⟩:∃y,l[i]=y:=⟨_,rfl⟩;have hmem:y∈l:=hy▸List.getElem_mem hil;have hnl:=HNO.out y hmem;have HC:=C (xM y);rw[hnl] at HC;obtain⟨b,off,rfl,hb,hc⟩:=(HH.out wr hr.right.right).at_ (j:=i) (u:= .string y) (by simp[hil,hy]);have hlt':(i:Int)<n:=by omega
   have hi0:(0:Int)≤i:=by omega
   go_wp2_with fail
   refine(HC.out _).mono ?_;rintro e w2 ⟨rfl,rfl⟩;go_wp2_with fail
   go_roundw
   case rel=>exact⟨i+1,by omega,by go_num,hr,hx⟩
   case measure=>simp[intOf];omega
  ·obtain rfl:i=n:=by omega
   have hdl:=yC hr;go_wp2_with fail
   refine(HRE.out _ _ hr).mono ?_;rintro e w2 ⟨rfl,h2,x2⟩;have x3:=hx.trans x2;clear hr hx x2 hdl HRE hi hlt;go_wp2_with fail
   go_loopw [32] (fun t32 wr=>∃j:Nat,j≤i∧t32=K M j∧Hid ((bn S (l.take j)).2.length≤900000*j)∧O wr (aG d (m+j) (bn S (l.take j)).1 (bn S (l.take j)).2*(aa F #[K M 0,K M 0] 33*R))∧ax w wr) (fun t32 _=>i - (intOf t32).toNat)
   case atStart=>exact⟨0,by omega,rfl,C (by rw[List.take_zero];exact Nat.zero_le _),by rw[List.take_zero];exact h2,x3⟩
   case round=>
    clear h2 x3;obtain⟨j,hj,rfl,hlen,hr,hx⟩:=hrel;by_cases hlt:j<i
    ·have hil:j<l.length:=by have:=HN.out;omega
     obtain⟨y,hy⟩:∃y,l[j]=y:=⟨_,rfl⟩;have hmem:y∈l:=hy▸List.getElem_mem hil;have hE:=qK (S:=S) hil hy;have hsm:=qJ hr y;generalize bn S (l.take j)=Q at*
     have hl2:=hlen.out;have HL:=C (fun R hK w h=>zJ d (m+j) Q.1 Q.2 y (HSZ.out y hmem) (by omega) (by omega) (by omega) R hK w h);have HE:=C hE;have HLN:Hid ((bn S (l.take (j+1))).2.length≤900000*(j+1)):=C (by rw[hE];dsimp only;rw[X];omega);obtain⟨b,off,rfl,hb,hc⟩:=(HH.out wr hr.right.right).at_ (j:=j) (u:= .string y) (by simp[hil,hy]);have hlt':(j:Int)<i:=by omega
     have hi0:(0:Int)≤j:=by omega
     clear hE hsm hl2 hlen;go_wp2_with fail
     (with_reducible refine(HL.out _ (HK.star _) _ hr).mono ?_);rintro e w4 ⟨rfl,h4,x4⟩
     have x5:=hx.trans x4;clear hr hx x4 HL hb hc;go_wp2_with fail
     go_roundw
     case rel=>exact⟨j+1,by omega,by go_num,HLN,by rw[HE.out];exact h4,x5⟩
     case measure=>simp[intOf];omega
    ·obtain rfl:j=i:=by omega
     have hall:l.take j=l:=List.take_of_length_le (by rw[HN.out];exact Nat.le_refl _);rw[hall] at hr;have HLE:Hid ((bn S l).2.length≤900000*j):=C (by have:=hlen.out;rwa [hall] at this);have hdl:d<wr.heap.size:=by
      obtain⟨_,_,_,_,_,h⟩:=eM hr;exact Has.lt h
     have HST:=C (fun R w h=>wg d (m+j) (bn S l).1 (bn S l).2 R w h);obtain⟨out,ho⟩:∃o,(bn S l).2=o:=⟨_,rfl⟩;have HO:=C ho;rw[ho] at HST hr;clear hall hlen ho;go_wp2_with fail
     refine(HST.out _ _ hr).mono ?_;rintro e w4 ⟨rfl,h4,x4⟩;have h5:O w4 (aa F #[K M 0,K M 0] 33*(aQ d (m+j) (bn S l).1*R)):=h4.eq (by ac_rfl);have x5:=hx.trans x4;clear hr hx h4 x4 HST hdl;obtain⟨c0,c1⟩:=h5.cells2;obtain⟨f0,f1⟩:=h5.frees2;have cl:=h5.lt;go_wp2_with fail
     refine ay (fun wz=>O wz (aa F #[K M 0,K M 0] 33*(aQ d (m+j) (bn S l).1*R))∧ax w wz) ⟨by first|(with_reducible exact h5)|(with_reducible exact h5.set2 _ _),aj⟩ ?_;rintro wz ⟨hz,xz⟩;exact ap (db results8 rfl rfl (cI hz)) rfl ⟨⟨by rw[HO.out];rfl,hz.right,xz⟩,HLE.out⟩
set_option maxHeartbeats 8000000 in
theorem wC(d m:Nat)(S:Option Sc)(l:List ByteArray)(hl:l.length≤300)(k:Nat)(hk:k<l.length)(hnk:qA l[k]=Z)(hno:∀j (h:j<k),qA (l[j]'(Nat.lt_trans h hk))=U)(B:Option ad)(c:Nat)(R:ab)(HR:∀w',O w' R→Rd w' B l.length (l.map Value.string))(w:N)(h:O w (aQ d m S*R)):
  Y prog 8 #[.pointer (J (V d 0 I)),.slice B l.length c] w (cF (.tuple #[.string ⟨#[]⟩,.agg #[K M 11,K M k]]) (aQ d m S*R) w):=by
 obtain⟨n,hN⟩:∃n,l.length=n:=⟨_,rfl⟩;have HN:=C hN;have HNK:=C hnk;have HNO:=C hno;have HH:=C HR;have hkn:k<n:=hN▸hk;rw[hN] at hl HH⊢;have hn:¬(300:Int)<n:=by omega
 have h1:O _ (aQ d m S*(aa w.heap.size #[K M 0,K M 0] 33*R)):=(h.new #[K M 0,K M 0] 33).p2;have x1:=(Ext.refl w).alloc (.cells #[K M 0,K M 0] 33);clear h hN hno hnk HR;go_enter func8,ntmps8;go_upto_region 1 with fail;generalize w.alloc _=w1 at*
 generalize w.heap.size=F at*
 go_upto_region 3 with fail;go_wp2_with fail
 go_loopw [16] (fun t16 wr=>∃i:Nat,i≤k∧t16=K M i∧O wr (aQ d m S*(aa F #[K M 0,K M 0] 33*R))∧ax w wr) (fun t16 _=>n - (intOf t16).toNat)
 case atStart=>exact⟨0,by omega,rfl,h1,x1⟩
 case round=>
  clear h1 x1;obtain⟨i,hi,rfl,hr,hx⟩:=hrel;have hil:i<l.length:=by have:=HN.out;omega
  obtain⟨y,hy⟩:∃y,l[i]=y:=⟨_,rfl⟩;have HC:=C (xM y);obtain⟨b,off,rfl,hb,hc⟩:=(HH.out wr hr.right.right).at_ (j:=i) (u:= .string y) (by simp[hil,hy]);have hlt':(i:Int)<n:=by omega
  have hi0:(0:Int)≤i:=by omega
  rcases Nat.lt_or_ge i k with hlt|hge
  ·rw[show qA y=U from hy▸HNO.out i hlt] at HC
   go_wp2_with fail
   refine(HC.out _).mono ?_;rintro e w2 ⟨rfl,rfl⟩;go_wp2_with fail
   go_roundw
   case rel=>exact⟨i+1,by omega,by go_num,hr,hx⟩
   case measure=>simp[intOf];omega
  ·obtain rfl:i=k:=by omega
   rw[show qA y=Z from hy▸HNK.out] at HC;have h5:O wr (aa F #[K M 0,K M 0] 33*(aQ d m S*R)):=hr.eq (by ac_rfl);obtain⟨c0,c1⟩:=h5.cells2;obtain⟨f0,f1⟩:=h5.frees2;have cl:=h5.lt;clear hr;go_wp2_with fail
   refine(HC.out _).mono ?_;rintro e w2 ⟨rfl,rfl⟩;go_wp2_with fail
   refine ay (fun wz=>O wz (aa F #[K M 11,K M i] 33*(aQ d m S*R))∧ax w wz) ⟨by first|(with_reducible exact h5)|(with_reducible exact h5.set2 _ _),aj⟩ ?_;rintro wz ⟨hz,xz⟩;exact ap (db results8 rfl rfl (cI hz)) rfl ⟨rfl,hz.right,xz⟩
theorem pi:∀(l:List ByteArray),(∀s∈l,qA s=U)∨∃(k:Nat) (hk:k<l.length),qA l[k]=Z∧∀j (h:j<k),qA (l[j]'(Nat.lt_trans h hk))=U
 | []=> .inl fun s h=>by cases h
 |x::r=>by
  cases hx:qA x with
  |true=>exact .inr ⟨0,by simp,hx,fun j h=>by omega⟩
  |false=>
   rcases pi r with h|⟨k,hk,h1,h2⟩
   ·exact .inl fun s hs=>by
     rcases List.mem_cons.1 hs with rfl|hs
     ·exact hx
     ·exact h s hs
   ·refine .inr ⟨k+1,by simpa using hk,h1,fun j hj=> ?_⟩
    cases j with
    |zero=>exact hx
    |succ j=>exact h2 j (by omega)
theorem yD(R:ab)(w:N)(h:O w R):Y prog 7 #[] w fun e w'=>∃d,cF (.pointer (J (V d 0 I))) (aQ d 1 I*R) w e w':=by
 have h1:O _ (aQ w.heap.size 1 I*R):=uh (q:= .pointer I) ((po (m:=1) (h.new #[.pointer I,.slice I 0 0,.pointer I] 47)).eq (av _ _ _));have x1:=(Ext.refl w).alloc (.cells #[.pointer I,.slice I 0 0,.pointer I] 47);go_enter func7,ntmps7;go_wp2;go_ret;exact⟨_,rfl,h1,x1⟩
def bgL:List ByteArray:=[⟨#[110,101,119,32,49,32,52]⟩,⟨#[109,97,112,32,53,32,48,32,57,32,49]⟩,⟨#[97,99,99,101,115,115,32,48,32,53,32,48,32,48]⟩,⟨#[119,97,108,107,32,48]⟩,⟨#[108,105,115,116]⟩,⟨#[99,97,108,109]⟩,⟨#[119,104,97,116]⟩]
theorem wD:(bn I bgL).2=[111,107,10,98,97,99,107,10,111,107,10,111,107,10,109,97,112,32,53,32,48,32,57,32,49,10,101,110,100,10,111,107,10,111,107,10,111,107,10,102,114,97,109,101,32,57,32,49,10,99,97,108,109,32,48,32,52,10,119,104,97,116,10]:=by kernel_rfl
theorem yE{w:N}{R:ab}{b:Nat}{xs:List ak}{t:TypeId}(h:O w (aa b xs.toArray t*R))(hl:xs.length≤1000000):Rd w (J (V b 0 I)) xs.length xs:=by
 refine⟨rfl,by omega,fun j u hu=>⟨b,0,rfl,h.lt,?_⟩⟩;have:=h.cell j;rw[Nat.zero_add,this];simpa using hu
set_option maxHeartbeats 4000000 in
theorem nj(R:ab)(HK:ag R)(w:N)(h:O w R):Y prog 5 #[] w (cF (.bool Z) R w):=by
 have HN:=C (fun w h=>yD R w h);have HD:=C (fun d x w h=>(Be d 1 I bgL (by decide) (by decide) (by decide) (by decide) (by decide) (J (V x 0 I)) 7 (aa x (bgL.map Value.string).toArray 9*R) (HK.star _) (fun w' h=>yE h (by decide)) w h).mono fun e w' h=>h.1);rw[wD] at HD;have hl:bgL.length=7:=rfl;rw[hl] at HD;simp only[bgL,List.map_cons,List.map_nil] at HD;clear hl;go_enter func5,ntmps5;go_wp2_with fail
 refine(HN.out _ h).mono ?_;rintro e w2 ⟨d,rfl,h2,x2⟩;have h3:=(h2.new (bgL.map Value.string).toArray 9).p2;have x3:=x2.alloc (.cells (bgL.map Value.string).toArray 9);simp only[bgL,List.map_cons,List.map_nil] at h3 x3;clear h h2 x2 HN;go_wp2_with fail
 refine(HD.out _ _ _ h3).mono ?_;rintro e w4 ⟨rfl,h4,x4⟩;have h5:=h4.new #[K M 0,K M 0] 33;have x5:=(x3.trans x4).alloc (.cells #[K M 0,K M 0] 33);clear h3 x3 h4 x4 HD;go_upto_region 2 with fail;generalize w4.alloc _=w6 at*
 generalize w4.heap.size=F at*
 have f0:=h5.cell 0;have fl:=h5.lt;go_wp2_with fail
 go_ret;exact⟨rfl,h5.r3,x5⟩
def jL(l:List ByteArray):Nat:=(l.map ByteArray.size).sum
theorem sC{l:List ByteArray}{i:Nat}(hi:i<l.length){y:ByteArray}(hy:l[i]=y):jL (l.take (i+1))=jL (l.take i)+y.size:=by
 unfold jL;rw[show l.take (i+1)=l.take i++[y] by rw[List.take_add_one];simp[hi,hy]];simp
theorem pj:∀{l:List ByteArray} {s:ByteArray},s∈l→s.size≤jL l
 |x::l,s,h=>by
  rcases List.mem_cons.1 h with rfl|h
  ·simp[jL]
  ·have:=pj h
   simp only[jL,List.map_cons,List.sum_cons] at this⊢;omega
theorem zK(l:List ByteArray)(hl:l.length≤100000000000)(hsz:∀s∈l,s.size≤281474976710656)(B:Option ad)(c:Nat)(w:N)(hr:Rd w B l.length (l.map Value.string)):
  Y prog 6 #[.slice B l.length c] w fun e w'=>∃b:Bool,Same (vB b) w e w'∧(b=U→jL l≤20000):=by
 obtain⟨n,hN⟩:∃n,l.length=n:=⟨_,rfl⟩;have HN:=C hN;have HS:=C hsz;rw[hN] at hl hr⊢;clear hN hsz;go_enter func6,ntmps6;go_wp2_with fail
 go_loopw [3,4] (fun t3 t4 wr=>∃(i:Nat) (k:Nat),i≤n∧t4=K M i∧t3=K M k∧Hid (k=jL (l.take i))∧k≤20000∧wr=w) (fun _ t4 _=>n - (intOf t4).toNat)
 case atStart=>exact⟨0,0,by omega,rfl,rfl,C rfl,by omega,rfl⟩
 case round=>
  obtain⟨i,k,hi,rfl,rfl,hk,hk2,rfl⟩:=hrel;by_cases hlt:i<n
  ·have hil:i<l.length:=by have:=HN.out;omega
   obtain⟨y,hy⟩:∃y,l[i]=y:=⟨_,rfl⟩;have hys:=HS.out y (hy▸List.getElem_mem hil);obtain⟨b,off,rfl,hb,hc⟩:=hr.at_ (j:=i) (u:= .string y) (by simp[hil,hy]);have hlt':(i:Int)<n:=by omega
   have hi0:(0:Int)≤i:=by omega
   have HK2:=C (show k+y.size=jL (l.take (i+1)) by rw[sC hil hy,hk.out]);obtain⟨z,hz⟩:∃z,y.size=z:=⟨_,rfl⟩;have hwr:IntKind.i64.wrap ((k:Int)+(y.size:Nat))=((k+y.size:Nat):Int):=by rw[af];omega
   by_cases hgt:20000<k+y.size
   ·have hgt':(20000:Int)< ((k+y.size:Nat):Int):=by omega
    go_wp2_with fail
    go_ret;exact⟨Z,⟨rfl,rfl⟩,fun h=>by cases h⟩
   ·have hgt':¬(20000:Int)< ((k+y.size:Nat):Int):=by omega
    go_wp2_with fail
    go_roundw
    case rel=>exact⟨i+1,k+y.size,by omega,by go_num,by rw[hz,Int.natCast_add],HK2,by omega,trivial⟩
    case measure=>simp[intOf];omega
  ·obtain rfl:i=n:=by omega
   have hE:jL l≤20000:=by
    have:=hk.out;rw[List.take_of_length_le (by rw[HN.out];exact Nat.le_refl _)] at this;omega
   have HE:=C hE;clear hk hE;go_wp2_with fail
   go_ret;exact⟨U,⟨rfl,rfl⟩,fun _=>HE.out⟩
def DoIs(S:Option Sc)(l:List ByteArray)(o:List UInt8)(code:Int)(S':Option Sc):Prop:=
 (code=0∧(∀s∈l,qA s=U)∧o=(bn S l).2∧S'=(bn S l).1)∨(code=11∧∃s∈l,qA s=Z)
theorem rF(d m:Nat)(S:Option Sc)(l:List ByteArray)(hm1:1≤m)(hm:m+l.length≤900000)(hl:l.length≤300)(hsz:∀s∈l,s.size≤100000)(B:Option ad)(c:Nat)(R:ab)(HK:ag R)(HR:∀w',O w' R→Rd w' B l.length (l.map Value.string))(w:N)(h:O w (aQ d m S*R)):
  Y prog 8 #[.pointer (J (V d 0 I)),.slice B l.length c] w fun e w'=>∃(o:List UInt8) (code at':Int) (m':Nat) (S':Option Sc),cF (.tuple #[.string ⟨o.toArray⟩,.agg #[K M code,(K M) at']]) (aQ d m' S'*R) w e w'∧(1≤m'∧m'≤m+l.length∧o.length≤270000000)∧DoIs S l o code S':=by
 rcases pi l with hno|⟨k,hk,hb,hno⟩
 ·refine(Be d m S l hm1 hm hl hsz hno B c R HK HR w h).mono ?_
  rintro e w' ⟨hr,hle⟩;exact⟨_,0,0,m+l.length,_,hr,⟨by omega,Nat.le_refl _,by omega⟩,.inl ⟨rfl,hno,rfl,rfl⟩⟩
 ·refine(wC d m S l hl k hk hb hno B c R HR w h).mono ?_
  intro e w' hr;exact⟨[],11,k,m,S,hr,⟨hm1,by omega,Nat.zero_le _⟩,.inr ⟨rfl,_,List.getElem_mem hk,hb⟩⟩
def uk(T:Int)(m:Nat):Nat:=(IntKind.u64.wrap T).toNat % (m+1)
theorem wE(T:Int)(m:Nat):uk T m≤m:=by
 have:=Nat.mod_lt (IntKind.u64.wrap T).toNat (show 0<m+1 by omega);unfold uk;omega
theorem wF(T:Int)(m:Nat):(IntKind.u64.wrap T).tmod ((m:Int)+1)=(uk T m:Int):=by
 have hw:IntKind.u64.wrap T=T % 18446744073709551616:=IntKind.wrap_u64 T;obtain⟨u,hu⟩:∃u:Nat,IntKind.u64.wrap T=u:=Int.eq_ofNat_of_zero_le (by rw[hw];omega);unfold uk;rw[hu,Int.toNat_natCast];rw[Int.tmod_eq_emod_of_nonneg (by omega)];rfl
theorem Rd.take{w:N}{A:Option ad}{n k:Nat}{xs:List ak}(h:Rd w A n xs)(hk:k≤n):Rd w A k (xs.take k):=
 ⟨by rw[List.length_take,h.1];omega,by have:=h.2.1;omega,fun j u hu=>h.2.2 j u (by
  rw[List.getElem?_take] at hu;split at hu
  ·exact hu
  ·cases hu)⟩
theorem Rd.drop{w:N}{b off n k j:Nat}{xs:List ak}(h:Rd w (J (V b off I)) n xs)(hn:n=k+j):Rd w (J ⟨b,off+k,I⟩) j (xs.drop k):=
 ⟨by rw[List.length_drop,h.1];omega,by have:=h.2.1;omega,fun i u hu=>by
  rw[List.getElem?_drop] at hu;obtain⟨h1,h2⟩:=gv h hu;exact⟨b,off+k,rfl,h1,by rw[Nat.add_assoc];exact h2⟩⟩
def Rok(B:Option ad)(l:List ByteArray)(R:ab):Prop:=∀w,O w R→pE w∧Rd w B l.length (l.map Value.string)
theorem Rok.star{B:Option ad}{l:List ByteArray}{R:ab}(h:Rok B l R)(Q:ab):Rok B l (Q*R):=fun w hw=>h w hw.right
theorem Rok.keeps{B:Option ad}{l:List ByteArray}{R:ab}(h:Rok B l R):ag R:=fun w hw=>(h w hw).1
theorem ou{w0 w:N}{P:Program}{name:String}{cs:Array ak}(ho:O w (cr w0 w0.heap.size))(h:w0.var? P name=J cs):w.var? P name=J cs:=by
 unfold World.var? at h⊢;cases hg:P.globalNamed name with
 |none=>rw[hg] at h;cases h
 |some g=>
  rw[hg] at h;simp only[Option.bind_some] at h⊢;have hlt:g<w0.heap.size:=by
   rcases Nat.lt_or_ge g w0.heap.size with hlt|hge
   ·exact hlt
   ·rw[Array.getElem?_eq_none hge] at h;cases h
  rw[(Has.swap (bZ.2 ⟨trivial,ho⟩:O w (eZ True*cr w0 w0.heap.size))).oldAt hlt (Nat.le_refl _)];exact h
theorem wG{w0:N}{B:Option ad}{l:List ByteArray}(hL:pE w0)(hr:Rd w0 B l.length (l.map Value.string)):Rok B l (cr w0 w0.heap.size):=by
 intro w ho;obtain⟨h1,⟨t1,p1,h2⟩,⟨t2,p2,h3⟩⟩:=hL;refine⟨⟨ou ho h1,⟨t1,p1,ou ho h2⟩,⟨t2,p2,ou ho h3⟩⟩,hr.1,hr.2.1,fun j u hu=> ?_⟩;obtain⟨b,off,hb,hlt,hc⟩:=hr.2.2 j u hu;have ho2:=Has.swap (bZ.2 ⟨trivial,ho⟩:O w (eZ True*cr w0 w0.heap.size));have hsz:w0.heap.size≤w.heap.size∨True:= .inr trivial;refine⟨b,off,hb,?_,ho2.oldCell' hc⟩;exact World.block_lt_of_cell? w ⟨b,off+j,I⟩ (ho2.oldCell' hc)
theorem DoIs.bad{S S':Option Sc}{l:List ByteArray}{o:List UInt8}{code:Int}(h:DoIs S l o code S')(hb:∃s∈l,qA s=Z):code=11:=by
 rcases h with ⟨_,h,_⟩|h
 ·obtain⟨s,hs,hn⟩:=hb
  rw[h s hs] at hn;cases hn
 ·exact h.1
theorem DoIs.good{S S':Option Sc}{l:List ByteArray}{o:List UInt8}{code:Int}(h:DoIs S l o code S')(hb:∀s∈l,qA s=U):code=0∧o=(bn S l).2∧S'=(bn S l).1:=by
 rcases h with ⟨h,_,h2⟩|⟨_,s,hs,hn⟩
 ·exact⟨h,h2⟩
 ·rw[hb s hs] at hn
  cases hn
theorem DoIs.none{S S':Option Sc}{l:List ByteArray}{o:List UInt8}{code:Int}(h:DoIs S l o code S')(hc:code=0):∀s∈l,qA s=U:=by
 rcases h with ⟨_,h,_⟩|⟨h,_⟩
 ·exact h
 ·omega
theorem xN{S1 S2 S3 S4:Option Sc}{l:List ByteArray}{k:Nat}{o1 o2 o3 o4:List UInt8}{c1 c2 c3 c4:Int}(h1:DoIs I (l.take k) o1 c1 S1)(h2:DoIs I l o2 c2 S2)(h3:DoIs S1 (l.drop k) o3 c3 S3):
  (c2≠0→c1≠0∨c3≠0)∧(c2=0→c1=0∧c3=0∧o1++o3=o2∧(DoIs I l o4 c4 S4→o4=o2)):=by
 constructor
 ·intro hc
  have hb:∃s∈l,qA s=Z:=by
   rcases h2 with h2|h2
   ·exact absurd h2.1 hc
   ·exact h2.2
  obtain⟨s,hs,hn⟩:=hb;rw[←List.take_append_drop k l] at hs;rcases List.mem_append.1 hs with hs|hs
  ·exact .inl (by rw[h1.bad ⟨s,hs,hn⟩];decide)
  ·exact .inr (by rw[h3.bad ⟨s,hs,hn⟩];decide)
 ·intro hc
  have hg:=h2.none hc;obtain⟨e1,a1,b1⟩:=h1.good (fun s hs=>hg s (List.mem_of_mem_take hs));obtain⟨e3,a3,b3⟩:=h3.good (fun s hs=>hg s (List.mem_of_mem_drop hs));obtain⟨e2,a2,b2⟩:=h2.good hg;refine⟨e1,e3,?_,fun h4=> ?_⟩
  ·have:=gD (l.take k) (l.drop k) I
   rw[List.take_append_drop] at this;rw[a1,a3,a2,this,b1]
  ·rw[(h4.good hg).2.1,a2]
def Bf(B:Option ad)(n c:Nat):Prop:=n≤c∧c≤9223372036854775807∧(B=I→c=0)
theorem sD{P:Program}{w:N}{r:Reach}{base:Nat}{t e:TypeId}{a:Option ad}{n c:Nat}(ht:P.underlying t=J (.slice e))(h:Value.okWide P w r base t (.slice a n c)):Bf a n c:=by
 simp only[Value.okWide,ht,Cell.okWide,Cell.ok] at h;cases a with
 |none=>
  cases n with
  |zero=>cases c with
   |zero=>exact⟨by omega,by omega,fun _=>rfl⟩
   |succ c=>simp at h
  |succ n=>simp at h
 |some a=>
  simp only at h;obtain⟨h1,h2,_⟩:=h;have:IntKind.i64.max=9223372036854775807:=by decide
  exact⟨by omega,by omega,fun h=>by cases h⟩
set_option maxHeartbeats 8000000 in
theorem lR(B:Option ad)(n c:Nat)(T:Int)(l:List ByteArray)(w:N)(hL:pE w)(h2:Rd w B n (l.map Value.string))(hsz:∀s∈l,s.size≤281474976710656)(hsl:Bf B n c)(_:bX T):
  Y prog 4 #[.slice B n c,K M T] w (Pure (vB Z) w):=by
 obtain rfl:l.length=n:=by simpa using h2.1
 have h0:=bc w;have x0:=Ext.refl w;have HR:=C (wG hL h2);have HBG:=C (nj _ HR.out.keeps w h0);have HSL:=C (fun hl w' h=>zK l hl hsz B c w' (HR.out w' h).2);obtain⟨n,hN⟩:∃n,l.length=n:=⟨_,rfl⟩;have HN:=C hN;rw[hN] at HSL h2 hsl⊢;have hn2:=h2.2.1;clear hN;go_enter func4,ntmps4;go_wp2_with fail
 refine HBG.out.mono ?_;rintro e w1 ⟨rfl,h1,x1⟩;clear HBG h0 x0;by_cases hmany:300<n
 ·have hm':(300:Int)<n:=by omega
  clear HSL;go_wp2_with fail
  go_ret;exact⟨rfl,aA h1 x1⟩
 have hm':¬(300:Int)<n:=by omega
 have HSL2:=C (HSL.out (by omega) w1 h1);clear HSL;go_wp2_with fail
 refine HSL2.out.mono ?_;rintro e w2 ⟨b,⟨rfl,rfl⟩,hb⟩;cases b with
 |true=>
  go_wp2_with fail
  go_ret;exact⟨rfl,aA h1 x1⟩
 |false=>
  have hb2:=hb rfl;have hsz2:∀s∈l,s.size≤100000:=fun s hs=>by have:=pj hs;omega
  obtain⟨k,hk⟩:∃k,uk T n=k:=⟨_,rfl⟩;have hkn:k≤n:=hk▸wE T n;have hq:=C (wF T n);rw[hk] at hq;obtain⟨hc1,hc2,hc3⟩:=hsl;have hkd:(k:Int)≤c:=by omega
  have hk0:(0:Int)≤k:=by omega
  have hw1:IntKind.i64.wrap ((n:Int)+1)=(n:Int)+1:=by rw[af];omega
  have hw2:IntKind.u64.wrap ((n:Int)+1)=(n:Int)+1:=by rw[IntKind.wrap_u64];omega
  have hne:((n:Int)+1==0)=U:=by simp;omega
  have hne':((n:Int)+1=0)=False:=by simp;omega
  have hkw:IntKind.i64.wrap (k:Int)=k:=by rw[af];omega
  replace hc3:=C hc3;have hkl:=C (show(l.take k).length =k by rw[List.length_take,HN.out];omega);have HSZ:=C hsz2;clear hb hb2 hk hsz2 HSL2;go_upto_region 5 with fail;go_cut [5] from 25 to 32 (fun s5 wx=>s5=K M k∧wx=w1)
  case first=>
   have hq':=hq.out;go_wp2_with fail
   go_meet
   case rel=>exact⟨by first|rfl|(rw[hq'];exact congrArg _ hkw)|simp[hq',hkw],rfl⟩
  case rest=>
   obtain⟨rfl,hw⟩:=hcut;replace hw:=hw.symm;subst hw;clear hw1 hw2 hne hne' hkw;have HN1:=C (fun R w h=>yD R w h);go_wp2_with fail
   refine(HN1.out _ _ h1).mono ?_;rintro e w3 ⟨d,rfl,h3,x3⟩;go_wp2_with fail
   refine(HN1.out _ _ h3).mono ?_;rintro e w4 ⟨E,rfl,h4,x4⟩;have h5:O w4 (aQ d 1 I*(aQ E 1 I*cr w w.heap.size)):=h4.p2;have x5:=(x1.trans x3).trans x4;have HD1:=C (fun w' h=>rF d 1 I (l.take k) (Nat.le_refl _) (by rw[hkl.out];omega) (by rw[hkl.out];omega) (fun s hs=>HSZ.out s (List.mem_of_mem_take hs)) B c _ ((HR.out.star (aQ E 1 I)).keeps) (fun w' h=>by rw[hkl.out,List.map_take];exact((HR.out.star _) w' h).2.take (by rw[HN.out];exact hkn)) w' h);rw[hkl.out] at HD1;clear h1 x1 h3 x3 h4 x4 HN1;go_wp2_with fail
   refine(HD1.out _ h5).mono ?_;rintro e w6 ⟨o1,c1,a1,m1,S1,⟨rfl,h6,x6⟩,⟨hm1,hm1',ho1⟩,D1⟩;have h7:O _ (aQ E 1 I*(aQ d m1 S1*(aa w6.heap.size #[K M c1,K M a1] 33*cr w w.heap.size))):=(h6.new #[K M c1,K M a1] 33).eq (by ac_rfl);have x7:=(x5.trans x6).alloc (.cells #[K M c1,K M a1] 33);clear h5 x5 h6 x6 HD1;go_upto_region 8 with fail;generalize w6.alloc _=w7 at*
   generalize w6.heap.size=F1 at*
   have HD2:=C (fun w' h=>rF E 1 I l (Nat.le_refl _) (by rw[HN.out];omega) (by rw[HN.out];omega) HSZ.out B c _ (((HR.out.star (aa F1 #[K M c1,K M a1] 33)).star (aQ d m1 S1)).keeps) (fun w' h=>(((HR.out.star _).star _) w' h).2) w' h);rw[HN.out] at HD2;go_wp2_with fail
   refine(HD2.out _ h7).mono ?_;rintro e w8 ⟨o2,c2,a2,m2,S2,⟨rfl,h8,x8⟩,⟨-,-,ho2⟩,D2⟩;have h9:O _ (aQ d m1 S1*(aQ E m2 S2*(aa F1 #[K M c1,K M a1] 33*(aa w8.heap.size #[K M c2,K M a2] 33*cr w w.heap.size)))):=(h8.new #[K M c2,K M a2] 33).eq (by ac_rfl);have x9:=(x7.trans x8).alloc (.cells #[K M c2,K M a2] 33);clear h7 x7 h8 x8 HD2;go_upto_region 9 with fail;generalize w8.alloc _=w9 at*
   generalize w8.heap.size=F2 at*
   obtain⟨j,rfl⟩:∃j,n=k+j:=⟨n - k,by omega⟩;obtain⟨i,rfl⟩:∃i,c=k+j+i:=⟨c - (k+j),by omega⟩;have hdl:=C (show(l.drop k).length =j by rw[List.length_drop,HN.out];omega);have HD3:Hid (∀(B':Option ad) (c':Nat) (w':N),(∀w',O w' (aQ E m2 S2*(aa F1 #[K M c1,K M a1] 33*(aa F2 #[K M c2,K M a2] 33*cr w w.heap.size)))→Rd w' B' j ((l.drop k).map Value.string))→O w' (aQ d m1 S1*(aQ E m2 S2*(aa F1 #[K M c1,K M a1] 33*(aa F2 #[K M c2,K M a2] 33*cr w w.heap.size))))→
     Y prog 8 #[.pointer (J (V d 0 I)),.slice B' j c'] w' fun e w''=>∃(o:List UInt8) (code at':Int) (m':Nat) (S':Option Sc),cF (.tuple #[.string ⟨o.toArray⟩,.agg #[K M code,(K M) at']]) (aQ d m' S'*(aQ E m2 S2*(aa F1 #[K M c1,K M a1] 33*(aa F2 #[K M c2,K M a2] 33*cr w w.heap.size)))) w' e w''∧o.length≤270000000∧DoIs S1 (l.drop k) o code S'):=C (fun B' c' w' hr h=>by
    have:=rF d m1 S1 (l.drop k) hm1 (by rw[hdl.out];omega) (by rw[hdl.out];omega) (fun s hs=>HSZ.out s (List.mem_of_mem_drop hs)) B' c' _ ((((HR.out.star (aa F2 #[K M c2,K M a2] 33)).star (aa F1 #[K M c1,K M a1] 33)).star (aQ E m2 S2)).keeps) (fun w' h=>by rw[hdl.out];exact hr w' h) w' h;rw[hdl.out] at this;refine this.mono ?_;rintro e w'' ⟨o,code,at',m',S',hres,⟨-,-,hle⟩,hd⟩;exact⟨o,code,at',m',S',hres,hle,hd⟩)
   clear hm' hq hmany hkd hc1;go_cut [12,13] from 49 to 56 (fun s12 s13 wx=>∃(o3:List UInt8) (c3 a3:Int) (m3:Nat) (S3:Option Sc) (F3:Nat),s12= .string ⟨o3.toArray⟩∧s13= .pointer (J (V F3 0 I))∧O wx (aQ d m3 S3*(aQ E m2 S2*(aa F1 #[K M c1,K M a1] 33*(aa F2 #[K M c2,K M a2] 33*(aa F3 #[K M c3,K M a3] 33*cr w w.heap.size)))))∧ax w wx∧o3.length≤270000000∧DoIs S1 (l.drop k) o3 c3 S3)
   case first=>
    by_cases hz:j+i=0
    ·obtain rfl:j=0:=by omega
     obtain rfl:i=0:=by omega
     have hr0:∀w',O w' (aQ E m2 S2*(aa F1 #[K M c1,K M a1] 33*(aa F2 #[K M c2,K M a2] 33*cr w w.heap.size)))→Rd w' B 0 ((l.drop k).map Value.string):=fun w' _=>by
      rw[List.length_eq_zero_iff.1 hdl.out];exact⟨rfl,by omega,fun j u hu=>by simp at hu⟩
     have HD4:=C (HD3.out B 0 w9 hr0 h9);clear HD3 hr0 h9;go_wp2_with fail
     refine HD4.out.mono ?_;rintro e w10 ⟨o3,c3,a3,m3,S3,⟨rfl,h10,x10⟩,ho3,D3⟩;have h11:O _ (aQ d m3 S3*(aQ E m2 S2*(aa F1 #[K M c1,K M a1] 33*(aa F2 #[K M c2,K M a2] 33*(aa w10.heap.size #[K M c3,K M a3] 33*cr w w.heap.size))))):=(h10.new #[K M c3,K M a3] 33).eq (by ac_rfl);have x11:=(x9.trans x10).alloc (.cells #[K M c3,K M a3] 33);go_wp2_with fail
     go_meet
     case rel=>exact⟨o3,c3,a3,m3,S3,_,rfl,rfl,h11,x11,ho3,D3⟩
    ·cases B with
     |none=>have:=hc3.out rfl;omega
     |some A=>
      have hr0:∀w',O w' (aQ E m2 S2*(aa F1 #[K M c1,K M a1] 33*(aa F2 #[K M c2,K M a2] 33*cr w w.heap.size)))→Rd w' (J (A.add k)) j ((l.drop k).map Value.string):=fun w' hw=>by
       rcases Nat.eq_zero_or_pos j with rfl|hj
       ·rw[List.length_eq_zero_iff.1 hdl.out]
        exact⟨rfl,by omega,fun j u hu=>by simp at hu⟩
       ·obtain⟨b,off,hb,-⟩:=h2.at_ (j:=0) (u:= .string (l[0]'(by have:=HN.out;omega))) (by simp)
        injection hb with hb
        subst hb;have h3:=(((((HR.out.star (aa F2 #[K M c2,K M a2] 33)).star (aa F1 #[K M c1,K M a1] 33)).star (aQ E m2 S2))) w' hw).2;rw[List.map_drop,Addr.add_mid];exact h3.drop HN.out
      have HD4:=C (HD3.out (J (A.add k)) (k+j+i - k) w9 hr0 h9);clear HD3 hr0 h9;go_wp2_with fail
      refine HD4.out.mono ?_;rintro e w10 ⟨o3,c3,a3,m3,S3,⟨rfl,h10,x10⟩,ho3,D3⟩;have h11:O _ (aQ d m3 S3*(aQ E m2 S2*(aa F1 #[K M c1,K M a1] 33*(aa F2 #[K M c2,K M a2] 33*(aa w10.heap.size #[K M c3,K M a3] 33*cr w w.heap.size))))):=(h10.new #[K M c3,K M a3] 33).eq (by ac_rfl);have x11:=(x9.trans x10).alloc (.cells #[K M c3,K M a3] 33);go_wp2_with fail
      go_meet
      case rel=>exact⟨o3,c3,a3,m3,S3,_,rfl,rfl,h11,x11,ho3,D3⟩
   case rest=>
    clear HD3 h9 x9;obtain⟨o3,c3,a3,m3,S3,F3,rfl,rfl,h12,x12,ho3,D3⟩:=hcut;have f1:=h12.right.right.cell 0;have l1:=h12.right.right.lt;have f2:=h12.r3.cell 0;have l2:=h12.r3.lt;have f3:=h12.right.r3.cell 0;have l3:=h12.right.r3.lt;by_cases hc:c2=0
    ·subst hc
     obtain⟨-,hJ⟩:=xN (o4:=[]) (c4:=0) (S4:=I) D1 D2 D3;obtain⟨rfl,rfl,hcat,-⟩:=hJ rfl;have HN2:=C (fun R w h=>yD R w h);have HD4:=C (fun G w' h=>rF G 1 I l (Nat.le_refl _) (by rw[HN.out];omega) (by rw[HN.out];omega) HSZ.out B (k+j+i) _ ((((((HR.out.star (aa F3 #[K M 0,K M a3] 33)).star (aa F2 #[K M 0,K M a2] 33)).star (aa F1 #[K M 0,K M a1] 33)).star (aQ E m2 S2)).star (aQ d m3 S3)).keeps) (fun w' h=>((((((HR.out.star _).star _).star _).star _).star _) w' h).2) w' h);rw[HN.out] at HD4;have HJ4:=C (fun S4 o4 c4 (D4:DoIs I l o4 c4 S4)=>(⟨(D4.good (D2.none rfl)).1,(D4.good (D2.none rfl)).2.1.trans (D2.good (D2.none rfl)).2.1.symm⟩:c4=0∧o4=o2));clear hJ D1 D2 D3 f1 f2 f3 l1 l2 l3;have f2:=h12.r3.cell 0;have l2:=h12.r3.lt;go_wp2_with fail
     refine(HN2.out _ _ h12).mono ?_;rintro e w13 ⟨G,rfl,h13,x13⟩;clear f2 l2;go_wp2_with fail
     refine(HD4.out _ _ h13).mono ?_;rintro e w14 ⟨o4,c4,a4,m4,S4,⟨rfl,h14,x14⟩,⟨-,-,ho4⟩,D4⟩;obtain⟨rfl,rfl⟩:=HJ4.out _ _ _ D4;have h15:O _ (aa F1 #[K M 0,K M a1] 33*(aa F3 #[K M 0,K M a3] 33*(aa w14.heap.size #[K M 0,K M a4] 33*(aQ G m4 S4*(aQ d m3 S3*(aQ E m2 S2*(aa F2 #[K M 0,K M a2] 33*cr w w.heap.size))))))):=(h14.new #[K M 0,K M a4] 33).eq (by ac_rfl);have x15:=((x12.trans x13).trans x14).alloc (.cells #[K M 0,K M a4] 33);clear h12 x12 HN2 h13 x13 HD4 h14 x14 HJ4 D4;go_upto_region 13 with fail;generalize w14.alloc _=w15 at*
     generalize w14.heap.size=F4 at*
     have f1:=h15.cell 0;have l1:=h15.lt;have f3:=h15.right.cell 0;have l3:=h15.right.lt;have hsum:((⟨o1.toArray⟩:ByteArray)++⟨o3.toArray⟩).toList ==(⟨o4.toArray⟩:ByteArray).toList :=by
      rw[ByteArray.toList_eq,ByteArray.toList_eq];simp[hcat]
     have hs1:(⟨o1.toArray⟩:ByteArray).size ≤270000000:=ho1;have hs3:(⟨o3.toArray⟩:ByteArray).size ≤270000000:=ho3;clear hcat ho1 ho2 ho3;generalize (⟨o1.toArray⟩:ByteArray)=b1 at*
     generalize (⟨o3.toArray⟩:ByteArray)=b3 at*
     generalize (⟨o4.toArray⟩:ByteArray)=b4 at*
     have hadd:b1.size+b3.size≤9223372036854775807:=by omega
     have hadd2:(↑(b1.size+b3.size):Int)≤9223372036854775807:=by omega
     go_wp2_with fail
     go_ret;exact⟨rfl,aA h15.right.right.right.right.r3 x15⟩
    ·have hcb:(c2 !=0)=Z:=by simpa using hc
     obtain⟨hJ,-⟩:=xN (o4:=[]) (c4:=0) (S4:=I) D1 D2 D3;have hb:∃u,(c1 !=0)=u:=⟨_,rfl⟩;obtain⟨u,hu⟩:=hb;have h13:=h12.right.right.r3;cases u with
     |true=>
      clear h12 D1 D2 D3 hJ hc;go_wp2_with fail
      go_ret;exact⟨rfl,aA h13 x12⟩
     |false=>
      have h3:(c3 !=0)=Z:=by
       have:=hJ hc;simp at hu;simp;omega
      clear h12 D1 D2 D3 hJ hc;go_wp2_with fail
      go_ret;exact⟨rfl,aA h13 x12⟩
open Go.RowKit Go.ChangeShapes
theorem lS{H:Type}{P:Program}{e:TypeId}:∀{l:List (DataW H)} {d:DataW H},d∈l→∀n∈d.weights P e,n∈DataW.weightsAll P e l
 |x::l,d,h,n,hn=>by
  simp only[DataW.weightsAll,List.mem_append];rcases List.mem_cons.1 h with rfl|h
  ·exact .inl hn
  ·exact .inr (lS h n hn)
theorem qL{H:Type}{P:Program}{ts:List TypeId}{ds:List (DataW H)}(h:(DataW.weightsEach P ts ds).all (· ≤reachBytes)=Z){j:Nat}{t e:TypeId}{elems spare:List (DataW H)}
  (ht:ts[j]? =J t) (hd:ds[j]? =J (.slice elems spare)) (hu:P.underlying t=J (.slice e)) {bytes:List UInt8} (hx:DataW.lit (.string bytes)∈elems):bytes.length≤140737488351232:=by
 refine of_decide_eq_true (List.all_eq_true.1 h _ (DataW.weights_mem_each ht hd _ ?_));simp only[DataW.weights,hu,List.mem_cons,List.mem_append];exact .inr (.inl (lS hx _ (by simp[DataW.weights])))
theorem qM{H:Type}{enc:TypeId×ak→H}{P:Program}{w:N}{base:Nat}{spare:Nat→Bool}{held:Bool}{t e:TypeId}(ht:P.underlying t=J (.slice e))(he:P.underlying e=J .string)(hc:P.cellsOf e=1)
  {A:Option ad} {len cap:Nat} {x:DataW H} {p:List MemPlace} (h:DataW.Trod enc P w base spare held t (.slice A len cap) x p)
  {ts:List TypeId} {ds:List (DataW H)} (hz:(DataW.weightsEach P ts ds).all (· ≤reachBytes)=Z) {j:Nat} (hj:ts[j]? =J t) (hd:ds[j]? =J x):
  ∃l:List ByteArray,Rd w A len (l.map Value.string)∧∀s∈l,s.size≤281474976710656:=by
 obtain⟨fuel,hf⟩:=h;rcases Deep.open_strs ht he hc hf with ⟨hcs,_⟩|⟨a,len',cap',m,Sx,hcs,_,hl,hm,hmm,hx,hel⟩
 ·simp[Value.cells] at hcs
  obtain⟨rfl,rfl,rfl⟩:=hcs;exact⟨[],⟨rfl,by omega,fun i u hi=>by simp at hi⟩,fun y hy=>by cases hy⟩
 ·simp[Value.cells] at hcs
  obtain⟨rfl,rfl,rfl⟩:=hcs;have hlm:len≤m:=by rw[hmm];split<;>omega
  simp only[Prod.mk.injEq] at hx;obtain⟨rfl,-⟩:=hx;refine⟨(List.range len).map Sx,⟨by simp,by have:maxLen=9223372036854775807:=rfl;omega,fun i u hu=> ?_⟩,fun s hs=> ?_⟩
  ·simp only[List.map_map,List.getElem?_map] at hu
   have hi:i<len:=by
    rcases Nat.lt_or_ge i len with h|h
    ·exact h
    ·rw[List.getElem?_eq_none (by simpa using h)] at hu;cases hu
   rw[List.getElem?_range hi] at hu;simp only[Option.map_some,Function.comp_apply,Option.some.injEq] at hu;subst hu;obtain⟨b,off,spot⟩:=a;have hspot:spot=I:=by simpa [Addr.add] using World.cell?_spot (hel 0 (by omega)).1
   subst hspot;have hc:=(hel i (by omega)).1;rw[Addr.add_mid] at hc;exact⟨b,off,rfl,World.block_lt_of_cell? w _ hc,hc⟩
  ·obtain⟨i,hi,rfl⟩:=List.mem_map.1 hs
   have:=qL hz hj hd ht (bytes:=(Sx i).data.toList) (List.mem_map.2 ⟨i,hi,rfl⟩);rw[Array.length_toList] at this;have h2:(Sx i).size ≤140737488351232:=this;omega
def pk:List (String×DataW Unit):=[("math/bits.deBruijn32tab",Rows.laid_math_bits_deBruijn32tab),("math/bits.deBruijn64tab",Rows.laid_math_bits_deBruijn64tab),("internal/strconv.uint64pow10",Rows.laid_internal_strconv_uint64pow10),("strconv.ErrRange",Rows.laid_strconv_ErrRange),("strconv.ErrSyntax",Rows.laid_strconv_ErrSyntax)]
theorem pm(u:TypeId)(h:prog.typeName? 3 u=J "*errors.errorString"):u=258:=
 have hs: "*" ++ "errors.errorString" = "*errors.errorString" :=by decide
 typeName_ptr_named (nm:= "errors.errorString") (by rw[hs];kernel_rfl) (by kernel_rfl) (by decide) u (by rw[hs];exact h)
theorem wH{W:N}(h:laidMetH prog pk W):pE W:=by
 rw[MakeChecks.laidMetH_plain _ _ _ (by kernel_rfl)] at h;have h2:=h.tail.tail;have h3:=h2.tail;have h4:=h3.tail;refine⟨Lib.tabIs_of_head (g:=3) (by kernel_rfl) (by kernel_rfl) underlying261 underlying92 (by kernel_rfl) (by kernel_rfl) h2,?_,?_⟩
 ·obtain⟨a,_,hv,_⟩:=laid_sentinel (g:=1) h4 (by kernel_rfl) (by kernel_rfl) underlying108 pm underlying258 underlying260 rfl rfl underlying9 (by kernel_rfl) (by kernel_rfl)
  exact⟨_,_,hv⟩
 ·obtain⟨a,_,hv,_⟩:=laid_sentinel (g:=2) h3 (by kernel_rfl) (by kernel_rfl) underlying108 pm underlying258 underlying260 rfl rfl underlying9 (by kernel_rfl) (by kernel_rfl)
  exact⟨_,_,hv⟩
end Go.Proofs.YtmfheghbgihdmaaGreatDoor
