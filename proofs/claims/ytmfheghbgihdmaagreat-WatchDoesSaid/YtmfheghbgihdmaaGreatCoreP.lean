/- Contracts of package core, against the plain lines and the plain walk: New, Busy, Access, Told. -/
import Derived.Test.YtmfheghbgihdmaaGreatTblM3
import Derived.Test.YtmfheghbgihdmaaGreatMpRow
import Derived.Test.YtmfheghbgihdmaaGreatWkr3
import Derived.Test.YtmfheghbgihdmaaGreatWkr
import Derived.Test.YtmfheghbgihdmaaGreatEntry5
import Derived.Test.YtmfheghbgihdmaaGreatRefPage
import Derived.Test.YtmfheghbgihdmaaGreatFrames3
import Derived.BigQuiet
import Derived.Deep.RegionHeld3
import Derived.Deep.DeepCutAuto
import Derived.Test.YtmfheghbgihdmaaGreatRefEnt5
import Derived.Laws.IdiomCopy
import Derived.Lib.AppendZerosOnto
import Derived.Test.YtmfheghbgihdmaaGreatSep
import Derived.Deep.Cut
namespace Go.Proofs.YtmfheghbgihdmaaGreat
open Option renaming none→z,some→C
open Go.Value renaming int→D,bool→O
open Go.IntKind renaming i64→E
open Go.Addr renaming mk→F
open Go.Lib renaming hid→H
open List renaming length_append→I,getElem?_eq_getElem→ad
open Go.Proofs.YtmfheghbgihdmaaGreat renaming Has→J,Ext→bb,over→bd,mpZero→bf
open Go renaming World→K,bodyPost_ret→N,Calls→Z,Addr→a5,Value→a7
open Bool renaming false→M,true→T
open Go.Proofs.YtmfheghbgihdmaaGreat.Ext renaming refl→U
open Go.Proofs.YtmfheghbgihdmaaGreat.Has renaming rowSetCells→Y,rowCases→ax,rowGet→a6
open Go.World renaming size_alloc→ag
open Tryz
open Go.RowKit
set_option maxRecDepth 100000
def cy(b:Nat)(l:List Ln)(root:Int)(k:Ck):ab:=ex fun t=>ex fun v=>aa b #[.pointer (C (F t 0 z)),.pointer (C (F v 0 z))] 126*(bY t l*a9 v root k)
theorem fK{b:Nat}{l:List Ln}{root:Int}{k:Ck}{R:ab}{w:K}(h:J w (cy b l root k*R)):
  ∃t v,J w (aa b #[.pointer (C (F t 0 z)),.pointer (C (F v 0 z))] 126*(bY t l*(a9 v root k*R))):=by
 unfold cy at h;obtain⟨t,h⟩:=aH.1 h;obtain⟨v,h⟩:=aH.1 h;exact⟨t,v,h.eq (by ac_rfl)⟩
theorem eC{b t v:Nat}{l:List Ln}{root:Int}{k:Ck}{R:ab}{w:K}(h:J w (aa b #[.pointer (C (F t 0 z)),.pointer (C (F v 0 z))] 126*(bY t l*(a9 v root k*R)))):J w (cy b l root k*R):=by
 unfold cy;exact aH.2 ⟨t,aH.2 ⟨v,h.eq (by ac_rfl)⟩⟩
theorem xt(root:Int)(R:ab)(w:K)(h:J w R):Z prog 54 #[D E root] w fun e w'=>∃b,cI (.pointer (C (F b 0 z))) (cy b [] root Ck.zero*R) w e w':=by
 go_enter func54,ntmps54;go_wp2_with fail
 refine(xI _ _ h).mono ?_;rintro e w2 ⟨t,rfl,h2,x2⟩;go_wp2_with fail
 refine(yi root _ _ h2).mono ?_;rintro e w3 ⟨v,rfl,h3,x3⟩;have h4:=eC ((h3.new #[.pointer (C (F t 0 z)),.pointer (C (F v 0 z))] 126).eq (show _=aa w3.heap.size #[.pointer (C (F t 0 z)),.pointer (C (F v 0 z))] 126*(bY t []*(a9 v root Ck.zero*R)) by ac_rfl));have x4:=(x2.trans x3).alloc (.cells #[.pointer (C (F t 0 z)),.pointer (C (F v 0 z))] 126);go_wp2_with fail
 go_ret;exact⟨_,rfl,h4,x4⟩
theorem rI(b:Nat)(l:List Ln)(root:Int)(k:Ck)(R:ab)(w:K)(h:J w (cy b l root k*R)):Z prog 71 #[.pointer (C (F b 0 z))] w (Same (O k.on) w):=by
 obtain⟨t,v,h⟩:=fK h;obtain⟨c0,c1⟩:=h.cells2;have cl:=h.lt;have HO:=H (yj v root k _ _ h.right.p2);clear h;go_enter func71,ntmps71;go_wp2_with(refine HO.out.mono ?_;rintro e w2 ⟨rfl,rfl⟩)
 go_ret;exact⟨rfl,rfl⟩
theorem tJ(b:Nat)(l:List Ln)(root:Int)(k:Ck)(R:ab)(w:K)(h:J w (cy b l root k*R)):Z prog 72 #[.pointer (C (F b 0 z))] w (Pure (.agg #[D E k.a.page,D E k.a.kind,O k.a.user]) w):=by
 obtain⟨t,v,h⟩:=fK h;have h1:=(aT w).new #[D E 0,D E 0,O M] 41;have hw:=h.alloc (.cells #[D E 0,D E 0,O M] 41);have x1:=(U w).alloc (.cells #[D E 0,D E 0,O M] 41);have HA:=H (fun R X h=>uD v root k R X h);obtain⟨c0,c1⟩:=hw.cells2;have cl:=hw.lt;clear h;go_enter func72,ntmps72;go_wp2_with fail
 refine(HA.out _ _ (hw.right.right)).mono ?_;rintro e w2 ⟨rfl,b2⟩;have h2:=h1.below b2;have x2:=x1.below b2;obtain⟨r0,r1,r2⟩:=h2.cells3;obtain⟨g0,g1,g2⟩:=h2.frees3;have rl:=h2.lt;go_wp2_with fail
 refine ak (fun wz=>J wz (aa w.heap.size #[D E k.a.page,D E k.a.kind,O k.a.user] 41*(bS w w.heap.size))∧bb w wz) ⟨h2.set3 _ _ _,ah⟩ ?_;rintro wz ⟨hz,xz⟩;exact N (aD results72 rfl (fz hz)) rfl ⟨rfl,aq hz.right xz⟩
set_option maxHeartbeats 2000000 in
theorem wj(b:Nat)(l:List Ln)(root:Int)(k:Ck)(m:Mp)(hl:Tl.Ok l)(hm:cL m.page)(R:ab)(w:K)(h:J w (cy b l root k*R)):
  Z prog 109 #[.pointer (C (F b 0 z)),.agg #[D E m.page,D E m.size,D E m.frame,D E m.rights]] w (cI (.tuple #[]) (cy b (Tl.drop l m) root (k.again root)*R) w):=by
 obtain⟨t,v,h⟩:=fK h;have h1:J _ (bY t l*(aa b #[.pointer (C (F t 0 z)),.pointer (C (F v 0 z))] 126*(aa w.heap.size #[D E m.page,D E m.size,D E m.frame,D E m.rights] 39*(a9 v root k*R)))):=(h.new #[D E m.page,D E m.size,D E m.frame,D E m.rights] 39).eq (by ac_rfl);have x1:=(U w).alloc (.cells #[D E m.page,D E m.size,D E m.frame,D E m.rights] 39);have HD:=H (fun R X h=>uK t l m R X hl.lok hm h);have HA:=H (fun R X h=>tF v root k R X h);clear h hl hm;go_enter func109,ntmps109;go_upto_region 1 with fail;generalize w.alloc _=w1 at*
 generalize w.heap.size=X at*
 obtain⟨c0,c1⟩:=h1.right.cells2;have cl:=h1.right.lt;obtain⟨m0,m1,m2,m3⟩:=h1.right.right.cells4;have ml:=h1.right.right.lt;have HK:=H (fun(w':K) (P Q:ab) (h:J w' (P*(aa b #[.pointer (C (F t 0 z)),.pointer (C (F v 0 z))] 126*(aa X #[D E m.page,D E m.size,D E m.frame,D E m.rights] 39*Q))))=>(by
  obtain⟨b0,_⟩:=h.right.cells2;obtain⟨m0,m1,m2,m3⟩:=h.right.right.cells4;exact⟨b0,m0,m1,m2,m3⟩:w'.cell? (F b 0 z)=C (.pointer (C (F t 0 z)))∧w'.cell? (F X 0 z)=C (D E m.page)∧w'.cell? (F X 1 z)=C (D E m.size)∧w'.cell? (F X 2 z)=C (D E m.frame)∧w'.cell? (F X 3 z)=C (D E m.rights)))
 have h2:=h1.drew;have x2:=x1.drew;go_region_held3 (fun w'=>w'.cell? (F b 0 z)=C (.pointer (C (F t 0 z)))∧w'.cell? (F X 0 z)=C (D E m.page)∧w'.cell? (F X 1 z)=C (D E m.size)∧w'.cell? (F X 2 z)=C (D E m.frame)∧w'.cell? (F X 3 z)=C (D E m.rights)) (first|(with_reducible exact HK.out _ _ _ h2)|(with_reducible exact HK.out _ _ _ h3)|go_keep) (first|(go_at_call 168;(with_reducible refine(HD.out _ _ h2).mono ?_);rintro e w3 ⟨rfl,h3,x3⟩))
 have x4:=x2.trans x3;clear h1 h2 x1 x2 x3 c0 c1 cl m0 m1 m2 m3 ml HK HD;obtain⟨c0,c1⟩:=h3.right.cells2;have cl:=h3.right.lt;have h4:J w3 (a9 v root k*(bY t (Tl.drop l m)*(aa b #[.pointer (C (F t 0 z)),.pointer (C (F v 0 z))] 126*(aa X #[D E m.page,D E m.size,D E m.frame,D E m.rights] 39*R)))):=h3.eq (by ac_rfl);go_wp2_with fail
 refine(HA.out _ _ h4).mono ?_;rintro e w5 ⟨rfl,h5,x5⟩;have h6:=eC (h5.eq (show _=aa b #[.pointer (C (F t 0 z)),.pointer (C (F v 0 z))] 126*(bY t (Tl.drop l m)*(a9 v root (k.again root)*(aa X #[D E m.page,D E m.size,D E m.frame,D E m.rights] 39*R))) by ac_rfl));go_wp2_with fail
 exact N (v:= .tuple #[]) (by simp[results,results109]) rfl ⟨rfl,h6.p2.right,x4.trans x5⟩
set_option maxHeartbeats 4000000 in
theorem tK(b f:Nat)(l:List Ln)(root:Int)(k:Ck)(s:Ms)(fin d:Bool)(af afr ari p0 p1 p2 p3 code:Int)(k':Ck)(s':Ms)(L:List Ln)(hp:Hid (aR s root k=⟨k',s',⟨fin,⟨af,afr,ari⟩,⟨⟨p0,p1,p2,p3⟩,d⟩⟩,code⟩))(HL:Hid (L=if fin=T∧af=0 then Tl.put l ⟨⟨p0,p1,p2,p3⟩,d⟩ else l))(hl:Tl.Ok l)(hs:s.Ok)(hk:k.Ok)(R:ab)(W:K)(h:J W (cy b l root k*(ai f s*R))):
  Z prog 62 #[.pointer (C (F b 0 z)),.pointer (C (F f 0 z))] W
   (cI (.tuple #[.agg #[D E af,D E afr,D E ari],O fin,D E code]) (cy b L root k'*(ai f s'*R)) W):=by
 have hp0:cL p0:=by have:=mc s root k;rw[hp.out] at this;exact this
 have hbad:code≠0→fin=M∧af=0∧afr=0∧ari=0:=fun hc=>by
  have:=rp (s:=s) (root:=root) (c:=k) (by rw[hp.out];exact hc);rw[hp.out] at this;injection this with h1 h2 h3
  injection h2 with h4 h5 h6
  exact⟨h1,h4,h5,h6⟩
 obtain⟨t,v,h⟩:=fK h;have HS:=H (fun R X h=>xi v f root k s hs hk R X h);rw[hp.out] at HS;dsimp only[vW] at HS;have h1:J _ (a9 v root k*(ai f s*(aa b #[.pointer (C (F t 0 z)),.pointer (C (F v 0 z))] 126*(bY t l*(aa W.heap.size #[D E 0,D E 0,D E 0] 34*R))))):=(h.new #[D E 0,D E 0,D E 0] 34).eq (by ac_rfl);have x1:=(U W).alloc (.cells #[D E 0,D E 0,D E 0] 34);clear h hs hk hp;go_enter func62,ntmps62;go_upto_region 1 with fail;generalize W.alloc _=W1 at*
 generalize W.heap.size=X0 at*
 obtain⟨c0,c1⟩:=h1.right.right.cells2;have cl:=h1.right.right.lt;go_wp2_with fail
 refine(HS.out _ _ h1).mono ?_;rintro e w3 ⟨rfl,h3,x3⟩;have h4:J _ (aa w3.heap.size #[O fin,D E af,D E afr,D E ari,D E p0,D E p1,D E p2,D E p3,O d] 181*(aa X0 #[D E 0,D E 0,D E 0] 34*(aa b #[.pointer (C (F t 0 z)),.pointer (C (F v 0 z))] 126*(bY t l*(a9 v root k'*(ai f s'*R)))))):=(h3.new #[O fin,D E af,D E afr,D E ari,D E p0,D E p1,D E p2,D E p3,O d] 181).eq (by ac_rfl);have x4:=(x1.trans x3).alloc (.cells #[O fin,D E af,D E afr,D E ari,D E p0,D E p1,D E p2,D E p3,O d] 181);clear h1 x1 h3 x3 HS c0 c1 cl;go_upto_region 2 with fail;generalize w3.alloc _=w4 at*
 generalize w3.heap.size=V at*
 obtain⟨v0,v1,v2,v3,v4,v5,v6,v7,v8⟩:=h4.cells9;have vl:=h4.lt;obtain⟨r0,r1,r2⟩:=h4.right.cells3;obtain⟨g0,g1,g2⟩:=h4.right.frees3;have rl:=h4.right.lt;obtain⟨c0,c1⟩:=h4.right.right.cells2;have cl:=h4.right.right.lt;by_cases hc:code=0
 ·subst hc
  clear hbad;by_cases hcond:fin=T∧af=0
  ·have HL':=HL.out
   rw[if_pos hcond] at HL';clear HL;obtain⟨rfl,rfl⟩:=hcond;have HP:=H (fun R X h=>xJ t l ⟨⟨p0,p1,p2,p3⟩,d⟩ R X hl hp0 h);dsimp only at HP;rw[←HL'] at HP;clear hp0 hl HL';generalize decide (ba ⟨p0,p1,p2,p3⟩=0)=okp at*
   have h5:J w4.drew (bY t l*(aa V #[O T,D E 0,D E afr,D E ari,D E p0,D E p1,D E p2,D E p3,O d] 181*(aa b #[.pointer (C (F t 0 z)),.pointer (C (F v 0 z))] 126*(aa X0 #[D E 0,D E 0,D E 0] 34*(a9 v root k'*(ai f s'*R)))))):=h4.drew.eq (by ac_rfl);have x5:=x4.drew;have HK:=H (fun(w':K) (P Q:ab) (h:J w' (P*(aa V #[O T,D E 0,D E afr,D E ari,D E p0,D E p1,D E p2,D E p3,O d] 181*(aa b #[.pointer (C (F t 0 z)),.pointer (C (F v 0 z))] 126*Q))))=>(by
    obtain⟨_,_,_,_,m4,m5,m6,m7,m8⟩:=h.right.cells9;obtain⟨b0,_⟩:=h.right.right.cells2;exact⟨b0,m4,m5,m6,m7,m8⟩:w'.cell? (F b 0 z)=C (.pointer (C (F t 0 z)))∧w'.cell? (F V 4 z)=C (D E p0)∧w'.cell? (F V 5 z)=C (D E p1)∧w'.cell? (F V 6 z)=C (D E p2)∧w'.cell? (F V 7 z)=C (D E p3)∧w'.cell? (F V 8 z)=C (O d)))
   go_upto_region 5 with fail;go_region_held3 (fun w'=>w'.cell? (F b 0 z)=C (.pointer (C (F t 0 z)))∧w'.cell? (F V 4 z)=C (D E p0)∧w'.cell? (F V 5 z)=C (D E p1)∧w'.cell? (F V 6 z)=C (D E p2)∧w'.cell? (F V 7 z)=C (D E p3)∧w'.cell? (F V 8 z)=C (O d)) (first|(with_reducible exact HK.out _ _ _ h5)|(with_reducible exact HK.out _ _ _ h6)|go_keep) (first|(go_at_call 107;(with_reducible refine(HP.out _ _ h5).mono ?_);rintro e w6 ⟨rfl,h6,x6⟩))
   have x7:=x5.trans x6;clear h4 h5 x4 x5 x6 HP HK v0 v1 v2 v3 v4 v5 v6 v7 v8 vl r0 r1 r2 g0 g1 g2 rl c0 c1 cl;have h7:J w6 (aa X0 #[D E 0,D E 0,D E 0] 34*(aa V #[O T,D E 0,D E afr,D E ari,D E p0,D E p1,D E p2,D E p3,O d] 181*(aa b #[.pointer (C (F t 0 z)),.pointer (C (F v 0 z))] 126*(bY t L*(a9 v root k'*(ai f s'*R)))))):=h6.eq (by ac_rfl);clear h6;obtain⟨v0,v1,v2,v3,v4,v5,v6,v7,v8⟩:=h7.right.cells9;have vl:=h7.right.lt;have vn:=h7.ne;have vn':=vn.symm;obtain⟨r0,r1,r2⟩:=h7.cells3;obtain⟨g0,g1,g2⟩:=h7.frees3;have rl:=h7.lt;go_upto_region 6 with fail;go_region
   all_goals
    go_wp2_with fail
    refine ak (fun wz=>J wz (aa X0 #[D E 0,D E afr,D E ari] 34*(aa V #[O T,D E 0,D E afr,D E ari,D E p0,D E p1,D E p2,D E p3,O d] 181*(aa b #[.pointer (C (F t 0 z)),.pointer (C (F v 0 z))] 126*(bY t L*(a9 v root k'*(ai f s'*R))))))∧bb W wz) ⟨by first|exact(h7.set3 _ _ _).drew |exact h7.drew.set3 _ _ _,ah⟩ ?_;rintro wz ⟨hz,xz⟩;exact N (be results62 rfl rfl rfl (br hz)) rfl ⟨rfl,eC hz.right.right,xz⟩
  ·have HL':=HL.out
   rw[if_neg hcond] at HL';clear HL;subst HL';have h7:=h4.p2;have vn:=h7.ne;have vn':=vn.symm;go_upto_region 4 with fail;go_cut [29] from 22 to 29 (fun s29 wx=>s29=O M∧wx=w4)
   case first=>
    cases fin with
    |false=>
     go_wp2_with fail
     go_meet
     case rel=>exact⟨rfl,rfl⟩
    |true=>
     have ha:(af==0)=M:=by simpa using hcond
     clear hcond;go_wp2_with fail
     go_meet
     case rel=>exact⟨rfl,rfl⟩
   case rest=>
    obtain⟨rfl,rfl⟩:=hcut;go_upto_region 6 with fail;go_region
    all_goals
     go_wp2_with fail
     refine ak (fun wz=>J wz (aa X0 #[D E af,D E afr,D E ari] 34*(aa V #[O fin,D E af,D E afr,D E ari,D E p0,D E p1,D E p2,D E p3,O d] 181*(aa b #[.pointer (C (F t 0 z)),.pointer (C (F v 0 z))] 126*(bY t L*(a9 v root k'*(ai f s'*R))))))∧bb W wz) ⟨by first|exact(h7.set3 _ _ _).drew |exact h7.drew.set3 _ _ _,ah⟩ ?_;rintro wz ⟨hz,xz⟩;exact N (be results62 rfl rfl rfl (br hz)) rfl ⟨rfl,eC hz.right.right,xz⟩
 ·obtain⟨rfl,rfl,rfl,rfl⟩:=hbad hc
  have hn:(code !=0)=T:=by simpa using hc
  have HL':=HL.out;rw[if_neg (by simp)] at HL';clear HL hc;subst HL';go_wp2_with fail
  refine ak (fun wz=>J wz (aa X0 #[D E 0,D E 0,D E 0] 34*(aa V #[O M,D E 0,D E 0,D E 0,D E p0,D E p1,D E p2,D E p3,O d] 181*(aa b #[.pointer (C (F t 0 z)),.pointer (C (F v 0 z))] 126*(bY t L*(a9 v root k'*(ai f s'*R))))))∧bb W wz) ⟨h4.p2.set3 _ _ _,ah⟩ ?_;rintro wz ⟨hz,xz⟩;exact N (be results62 rfl rfl rfl (br hz)) rfl ⟨rfl,eC hz.right.right,xz⟩
theorem uV(b f:Nat)(l:List Ln)(root:Int)(k:Ck)(s:Ms)(hl:Tl.Ok l)(hs:s.Ok)(hk:k.Ok)(R:ab)(W:K)(h:J W (cy b l root k*(ai f s*R))):
  Z prog 62 #[.pointer (C (F b 0 z)),.pointer (C (F f 0 z))] W
   (cI (.tuple #[.agg #[D E (aR s root k).r.an.fin,D E (aR s root k).r.an.frame,D E (aR s root k).r.an.rights],O (aR s root k).r.fin,D E (aR s root k).code]) (cy b (gY l (aR s root k).r) root (aR s root k).c *(ai f (aR s root k).s *R)) W):=
 tK b f l root k s _ _ _ _ _ _ _ _ _ _ _ _ (gY l (aR s root k).r) (H rfl) (H rfl) hl hs hk R W h
theorem pd(b:Nat)(l:List Ln)(root:Int)(k:Ck)(a:Ac)(ha:au a≠0)(R:ab)(W:K)(h:J W (cy b l root k*R)):
  Z prog 61 #[.pointer (C (F b 0 z)),.agg #[D E a.page,D E a.kind,O a.user]] W (cI (.tuple #[.agg #[D E 0,D E 0,D E 0],O M,D E (au a)]) (cy b l root k*R) W):=by
 have hn:(au ⟨a.page,a.kind,a.user⟩ !=0)=T:=by simpa using ha
 have h1:J _ (aa (W.heap.size+1) #[D E 0,D E 0,D E 0] 34*(aa W.heap.size #[D E a.page,D E a.kind,O a.user] 41*(cy b l root k*R))):=((h.new #[D E a.page,D E a.kind,O a.user] 41).new #[D E 0,D E 0,D E 0] 34).eq (by simp only[ag]);have x1:=((U W).alloc (.cells #[D E a.page,D E a.kind,O a.user] 41)).alloc (.cells #[D E 0,D E 0,D E 0] 34);have HC:=H (fun X=>eU a.page a.kind a.user X);clear h;go_enter func61,ntmps61;go_upto_region 1 with fail;generalize (W.alloc (.cells #[D E a.page,D E a.kind,O a.user] 41)).alloc (.cells #[D E 0,D E 0,D E 0] 34)=W1 at*
 generalize W.heap.size+1=X1 at*
 generalize W.heap.size=X0 at*
 obtain⟨a0,a1,a2⟩:=h1.right.cells3;have al:=h1.right.lt;go_wp2_with fail
 refine(HC.out _).mono ?_;rintro e w2 ⟨rfl,b2⟩;have h2:=h1.below b2;have x2:=x1.below b2;clear h1 x1 a0 a1 a2 al b2 HC;rw[show au a=au ⟨a.page,a.kind,a.user⟩ from rfl];generalize au ⟨a.page,a.kind,a.user⟩=ca at*
 obtain⟨r0,r1,r2⟩:=h2.cells3;obtain⟨g0,g1,g2⟩:=h2.frees3;have rl:=h2.lt;go_wp2_with fail
 refine ak (fun wz=>J wz (aa X1 #[D E 0,D E 0,D E 0] 34*(aa X0 #[D E a.page,D E a.kind,O a.user] 41*(cy b l root k*R)))∧bb W wz) ⟨h2.set3 _ _ _,ah⟩ ?_;rintro wz ⟨hz,xz⟩;exact N (be results61 rfl rfl rfl (br hz)) rfl ⟨rfl,hz.right.right,xz⟩
theorem nZ(b:Nat)(l:List Ln)(root:Int)(k:Ck)(a:Ac)(ha:au a=0)(hon:k.on=T)(R:ab)(W:K)(h:J W (cy b l root k*R)):
  Z prog 61 #[.pointer (C (F b 0 z)),.agg #[D E a.page,D E a.kind,O a.user]] W (cI (.tuple #[.agg #[D E 0,D E 0,D E 0],O M,D E 8]) (cy b l root k*R) W):=by
 have HO:=H (fun R X h=>rI b l root k R X h);rw[hon] at HO;have ha':au ⟨a.page,a.kind,a.user⟩=0:=ha;clear ha;have h1:J _ (aa (W.heap.size+1) #[D E 0,D E 0,D E 0] 34*(aa W.heap.size #[D E a.page,D E a.kind,O a.user] 41*(cy b l root k*R))):=((h.new #[D E a.page,D E a.kind,O a.user] 41).new #[D E 0,D E 0,D E 0] 34).eq (by simp only[ag]);have x1:=((U W).alloc (.cells #[D E a.page,D E a.kind,O a.user] 41)).alloc (.cells #[D E 0,D E 0,D E 0] 34);have HC:=H (fun X=>eU a.page a.kind a.user X);clear h;go_enter func61,ntmps61;go_upto_region 1 with fail;generalize (W.alloc (.cells #[D E a.page,D E a.kind,O a.user] 41)).alloc (.cells #[D E 0,D E 0,D E 0] 34)=W1 at*
 generalize W.heap.size+1=X1 at*
 generalize W.heap.size=X0 at*
 obtain⟨a0,a1,a2⟩:=h1.right.cells3;have al:=h1.right.lt;go_wp2_with fail
 refine(HC.out _).mono ?_;rintro e w2 ⟨rfl,b2⟩;have h2:=h1.below b2;have x2:=x1.below b2;clear h1 x1 a0 a1 a2 al b2 HC;rw[ha'];go_wp2_with fail
 refine(HO.out _ _ h2.right.right).mono ?_;rintro e w3 ⟨rfl,rfl⟩;obtain⟨r0,r1,r2⟩:=h2.cells3;obtain⟨g0,g1,g2⟩:=h2.frees3;have rl:=h2.lt;go_wp2_with fail
 refine ak (fun wz=>J wz (aa X1 #[D E 0,D E 0,D E 0] 34*(aa X0 #[D E a.page,D E a.kind,O a.user] 41*(cy b l root k*R)))∧bb W wz) ⟨h2.set3 _ _ _,ah⟩ ?_;rintro wz ⟨hz,xz⟩;exact N (be results61 rfl rfl rfl (br hz)) rfl ⟨rfl,hz.right.right,xz⟩
def Ln.zero:Ln:=⟨Mp.zero,M⟩
def kZ(x:Ln)(a:Ac):Bool:=x.dirty||(a.kind !=1|| !may x.m.rights a)
set_option maxHeartbeats 4000000 in
theorem jj(b:Nat)(l:List Ln)(root:Int)(k:Ck)(a:Ac)(ha:au a=0)(hon:k.on=M)(hl:Tl.Ok l)(hp:cL a.page)(x:Ln)(ok hit:Bool)(an:An)(q:Bq)
  (hx:Hid (wF (Tl.find l a.page)=x.val∧(Tl.find l a.page).isSome =ok)) (hh:Hid (hit=(ok&&kZ x a))) (hAn:Hid (bJ x.m a=an)) (hq:Hid (q=if hit=T then⟨an,T,0,k⟩ else⟨An.zero,M,0,k.begin root a⟩)) (R:ab) (W:K) (h:J W (cy b l root k*R)):
  Z prog 61 #[.pointer (C (F b 0 z)),.agg #[D E a.page,D E a.kind,O a.user]] W (cI (.tuple #[.agg #[D E q.an.fin,D E q.an.frame,D E q.an.rights],O q.fin,D E q.code]) (cy b l root q.c*R) W):=by
 have HO:=H (fun R X h=>rI b l root k R X h);rw[hon] at HO;have ha':au ⟨a.page,a.kind,a.user⟩=0:=ha;have HF:=H (fun t R X h=>wG t l a.page R X hl.lok hp h);rw[hx.out.1,hx.out.2] at HF;have HB:=H (fun v R X h=>vS v root k a R X h);have hbc:mJ k a=0:=by unfold mJ;rw[if_neg (by rw[ha];simp),if_neg (by rw[hon];simp)]
 have hbs:nS k root a=k.begin root a:=by unfold nS;rw[if_pos hbc]
 rw[hbc,hbs] at HB;have HM:=H (fun X=>kU x.m.rights a.page a.kind a.user X);have HA:=H (fun X=>jZ x.m a.page a.kind a.user X);rw[show bJ x.m ⟨a.page,a.kind,a.user⟩=an from hAn.out] at HA;clear ha hon hl hp hx hbc hbs hAn;have h1:J _ (aa (W.heap.size+1) #[D E 0,D E 0,D E 0] 34*(aa W.heap.size #[D E a.page,D E a.kind,O a.user] 41*(cy b l root k*R))):=((h.new #[D E a.page,D E a.kind,O a.user] 41).new #[D E 0,D E 0,D E 0] 34).eq (by simp only[ag]);have x1:=((U W).alloc (.cells #[D E a.page,D E a.kind,O a.user] 41)).alloc (.cells #[D E 0,D E 0,D E 0] 34);have HC:=H (fun X=>eU a.page a.kind a.user X);clear h;go_enter func61,ntmps61;go_upto_region 1 with fail;generalize (W.alloc (.cells #[D E a.page,D E a.kind,O a.user] 41)).alloc (.cells #[D E 0,D E 0,D E 0] 34)=W1 at*
 generalize W.heap.size+1=X1 at*
 generalize W.heap.size=X0 at*
 obtain⟨a0,a1,a2⟩:=h1.right.cells3;have al:=h1.right.lt;go_wp2_with fail
 refine(HC.out _).mono ?_;rintro e w2 ⟨rfl,b2⟩;have h2:=h1.below b2;have x2:=x1.below b2;clear h1 x1 a0 a1 a2 al b2 HC;rw[ha'];go_wp2_with fail
 refine(HO.out _ _ h2.right.right).mono ?_;rintro e w3 ⟨rfl,rfl⟩;obtain⟨t,v,h3⟩:=fK (h2.eq (show _=cy b l root k*(aa X1 #[D E 0,D E 0,D E 0] 34*(aa X0 #[D E a.page,D E a.kind,O a.user] 41*R)) by ac_rfl));have h4:J _ (bY t l*(aa b #[.pointer (C (F t 0 z)),.pointer (C (F v 0 z))] 126*(aa X0 #[D E a.page,D E a.kind,O a.user] 41*(aa X1 #[D E 0,D E 0,D E 0] 34*(a9 v root k*R))))):=h3.eq (by ac_rfl);have x4:=x2;clear HO ha' h2 h3 x2;obtain⟨c0,c1⟩:=h4.right.cells2;have cl:=h4.right.lt;obtain⟨a0,a1,a2⟩:=h4.right.right.cells3;have al:=h4.right.right.lt;have HK:=H (fun(w':K) (P Q:ab) (h:J w' (P*(aa b #[.pointer (C (F t 0 z)),.pointer (C (F v 0 z))] 126*(aa X0 #[D E a.page,D E a.kind,O a.user] 41*Q))))=>(by
  obtain⟨b0,_⟩:=h.right.cells2;obtain⟨m0,_⟩:=h.right.right.cells3;exact⟨b0,m0⟩:w'.cell? (F b 0 z)=C (.pointer (C (F t 0 z)))∧w'.cell? (F X0 0 z)=C (D E a.page)))
 go_upto_region 6 with fail;go_cut [8,9] from 19 to 29 (fun s8 s9 wx=>∃V:Nat,s8= .pointer (C (F V 0 z))∧s9=O ok∧J wx (aa V #[D E x.m.page,D E x.m.size,D E x.m.frame,D E x.m.rights,O x.dirty] 143*(bY t l*(aa b #[.pointer (C (F t 0 z)),.pointer (C (F v 0 z))] 126*(aa X0 #[D E a.page,D E a.kind,O a.user] 41*(aa X1 #[D E 0,D E 0,D E 0] 34*(a9 v root k*R))))))∧bb W wx)
 case first=>
  have h5:=h4.drew;have x5:=x4.drew;have z5:J (w2.alloc (.cells #[D E 0,D E 0,D E 0,D E 0,O M] 143)).drew (bY t l*(aa b #[.pointer (C (F t 0 z)),.pointer (C (F v 0 z))] 126*(aa X0 #[D E a.page,D E a.kind,O a.user] 41*(aa w2.heap.size #[D E 0,D E 0,D E 0,D E 0,O M] 143*(aa X1 #[D E 0,D E 0,D E 0] 34*(a9 v root k*R)))))):=(h4.new #[D E 0,D E 0,D E 0,D E 0,O M] 143).drew.eq (by ac_rfl);have y5:=(x4.alloc (.cells #[D E 0,D E 0,D E 0,D E 0,O M] 143)).drew;go_region_held3 (fun w'=>w'.cell? (F b 0 z)=C (.pointer (C (F t 0 z)))∧w'.cell? (F X0 0 z)=C (D E a.page)) (first|(with_reducible exact HK.out _ _ _ h5)|(with_reducible exact HK.out _ _ _ z5)|(with_reducible exact HK.out _ _ _ hL)|(with_reducible exact HK.out _ _ _ (hL.alloc _))|(with_reducible exact HK.out _ _ _ gL)|(with_reducible exact HK.out _ _ _ gL.right)|(with_reducible exact HK.out _ _ _ (gL.set5 _ _ _ _ _).right)|go_keep) (first|(go_at_call 102;first|((with_reducible refine(HF.out _ _ _ h5).mono ?_);rintro e w5 ⟨rfl,b5⟩;have hL:=h5.below b5;have xL:=x5.below b5)|((with_reducible refine(HF.out _ _ _ z5).mono ?_);rintro e w5 ⟨rfl,b5⟩;have gL:J w5 (aa w2.heap.size #[D E 0,D E 0,D E 0,D E 0,O M] 143*(bY t l*(aa b #[.pointer (C (F t 0 z)),.pointer (C (F v 0 z))] 126*(aa X0 #[D E a.page,D E a.kind,O a.user] 41*(aa X1 #[D E 0,D E 0,D E 0] 34*(a9 v root k*R)))))):=(z5.below b5).eq (by ac_rfl);have yL:=y5.below b5;obtain⟨z0,z1,z2,z3,z4⟩:=gL.cells5;obtain⟨y0,y1,y2,y3,y4⟩:=gL.frees5;have zl:=gL.lt)))
  all_goals
   go_wp2_with fail
   go_meet
   case rel=>first|exact⟨_,rfl,rfl,hL.new #[D E x.m.page,D E x.m.size,D E x.m.frame,D E x.m.rights,O x.dirty] 143,xL.alloc _⟩|exact⟨_,rfl,rfl,gL.set5 _ _ _ _ _,((((yL.set _ _).set _ _).set _ _).set _ _).set _ _⟩
 case rest=>
  clear h4 x4 c0 c1 cl a0 a1 a2 al HK HF;obtain⟨V,rfl,rfl,h5,x5⟩:=hcut;obtain⟨v0,v1,v2,v3,v4⟩:=h5.cells5;have vl:=h5.lt;obtain⟨c0,c1⟩:=h5.right.right.cells2;have cl:=h5.right.right.lt;obtain⟨a0,a1,a2⟩:=h5.r3.cells3;have al:=h5.r3.lt;go_upto_region 7 with fail;go_cut [46] from 29 to 46 (fun s46 wx=>s46=O hit∧J wx (aa V #[D E x.m.page,D E x.m.size,D E x.m.frame,D E x.m.rights,O x.dirty] 143*(bY t l*(aa b #[.pointer (C (F t 0 z)),.pointer (C (F v 0 z))] 126*(aa X0 #[D E a.page,D E a.kind,O a.user] 41*(aa X1 #[D E 0,D E 0,D E 0] 34*(a9 v root k*R))))))∧bb W wx)
  case first=>
   replace hh:=hh.out;unfold kZ at hh;cases ok with
   |false=>
    replace hh:hit=M:=hh;subst hh;go_wp2_with fail
    go_meet
    case rel=>exact⟨rfl,h5,x5⟩
   |true=>
    cases hd:x.dirty with
    |true=>
     rw[hd] at hh v4;clear hd;replace hh:hit=T:=hh;subst hh;go_wp2_with fail
     go_meet
     case rel=>exact⟨rfl,h5,x5⟩
    |false=>
     rw[hd] at hh v4;clear hd;by_cases hk:a.kind=1
     ·have hk1:(a.kind !=1)=M:=by simpa using hk
      rw[hk1] at hh;replace hh:hit= !may x.m.rights ⟨a.page,a.kind,a.user⟩:=hh;generalize may x.m.rights ⟨a.page,a.kind,a.user⟩=my at*
      subst hh;clear hk;go_wp2_with fail
      refine(HM.out _).mono ?_;rintro e w7 ⟨rfl,b7⟩;have h7:=h5.below b7;have x7:=x5.below b7;cases my
      all_goals
       go_wp2_with fail
       go_meet
       case rel=>exact⟨rfl,h7,x7⟩
     ·have hk1:(a.kind !=1)=T:=by simpa using hk
      rw[hk1] at hh;replace hh:hit=T:=hh;subst hh;clear hk;go_wp2_with fail
      go_meet
      case rel=>exact⟨rfl,h5,x5⟩
  case rest=>
   clear h5 x5 v0 v1 v2 v3 v4 vl c0 c1 cl a0 a1 a2 al hh HM;obtain⟨rfl,h5,x5⟩:=hcut;obtain⟨v0,v1,v2,v3,v4⟩:=h5.cells5;have vl:=h5.lt;obtain⟨c0,c1⟩:=h5.right.right.cells2;have cl:=h5.right.right.lt;obtain⟨a0,a1,a2⟩:=h5.r3.cells3;have al:=h5.r3.lt;have hq:=hq.out;cases hit with
   |true=>
    rw[if_pos rfl] at hq;subst hq;try dsimp only
    go_wp2_with fail
    refine(HA.out _).mono ?_;rintro e w7 ⟨rfl,b7⟩;have h7:J w7 (aa X1 #[D E 0,D E 0,D E 0] 34*(aa V #[D E x.m.page,D E x.m.size,D E x.m.frame,D E x.m.rights,O x.dirty] 143*(bY t l*(aa b #[.pointer (C (F t 0 z)),.pointer (C (F v 0 z))] 126*(aa X0 #[D E a.page,D E a.kind,O a.user] 41*(a9 v root k*R)))))):=(h5.below b7).eq (by ac_rfl);have x7:=x5.below b7;obtain⟨r0,r1,r2⟩:=h7.cells3;obtain⟨g0,g1,g2⟩:=h7.frees3;have rl:=h7.lt;go_wp2_with fail
    refine ak (fun wz=>J wz (aa X1 #[D E an.fin,D E an.frame,D E an.rights] 34*(aa V #[D E x.m.page,D E x.m.size,D E x.m.frame,D E x.m.rights,O x.dirty] 143*(bY t l*(aa b #[.pointer (C (F t 0 z)),.pointer (C (F v 0 z))] 126*(aa X0 #[D E a.page,D E a.kind,O a.user] 41*(a9 v root k*R))))))∧bb W wz) ⟨h7.set3 _ _ _,ah⟩ ?_;rintro wz ⟨hz,xz⟩;exact N (be results61 rfl rfl rfl (br hz)) rfl ⟨rfl,(eC (hz.right.right.eq (show _=aa b #[.pointer (C (F t 0 z)),.pointer (C (F v 0 z))] 126*(bY t l*(a9 v root k*(aa X0 #[D E a.page,D E a.kind,O a.user] 41*R))) by ac_rfl))).p2.right,xz⟩
   |false=>
    rw[if_neg (by simp)] at hq;subst hq;try dsimp only[An.zero]
    have h6:J wc.drew (a9 v root k*(aa b #[.pointer (C (F t 0 z)),.pointer (C (F v 0 z))] 126*(aa X0 #[D E a.page,D E a.kind,O a.user] 41*(aa X1 #[D E 0,D E 0,D E 0] 34*(aa V #[D E x.m.page,D E x.m.size,D E x.m.frame,D E x.m.rights,O x.dirty] 143*(bY t l*R)))))):=h5.drew.eq (by ac_rfl);have x6:=x5.drew;have h6x:J wc (aa X1 #[D E 0,D E 0,D E 0] 34*(a9 v root k*(aa b #[.pointer (C (F t 0 z)),.pointer (C (F v 0 z))] 126*(aa X0 #[D E a.page,D E a.kind,O a.user] 41*(aa V #[D E x.m.page,D E x.m.size,D E x.m.frame,D E x.m.rights,O x.dirty] 143*(bY t l*R)))))):=h5.eq (by ac_rfl);obtain⟨r0,r1,r2⟩:=h6x.cells3;obtain⟨g0,g1,g2⟩:=h6x.frees3;have rl:=h6x.lt;have h6s:=h6x.set3 (D E 0) (D E 0) (D E 0);have h6d:J _ (a9 v root k*(aa b #[.pointer (C (F t 0 z)),.pointer (C (F v 0 z))] 126*(aa X0 #[D E a.page,D E a.kind,O a.user] 41*(aa X1 #[D E 0,D E 0,D E 0] 34*(aa V #[D E x.m.page,D E x.m.size,D E x.m.frame,D E x.m.rights,O x.dirty] 143*(bY t l*R)))))):=h6s.drew.eq (by ac_rfl);have x6d:=(((x5.set (F X1 0 z) (D E 0)).set (F X1 1 z) (D E 0)).set (F X1 2 z) (D E 0)).drew;have HK:=H (fun(w':K) (P Q:ab) (h:J w' (P*(aa b #[.pointer (C (F t 0 z)),.pointer (C (F v 0 z))] 126*(aa X0 #[D E a.page,D E a.kind,O a.user] 41*Q))))=>(by
     obtain⟨_,b0⟩:=h.right.cells2;obtain⟨m0,m1,m2⟩:=h.right.right.cells3;exact⟨b0,m0,m1,m2⟩:w'.cell? (F b 1 z)=C (.pointer (C (F v 0 z)))∧w'.cell? (F X0 0 z)=C (D E a.page)∧w'.cell? (F X0 1 z)=C (D E a.kind)∧w'.cell? (F X0 2 z)=C (O a.user)))
    have HKS:=H (fun(w':K) (P Q S:ab) (h:J w' (P*(Q*(S*(aa X1 #[D E 0,D E 0,D E 0] 34*(aa V #[D E x.m.page,D E x.m.size,D E x.m.frame,D E x.m.rights,O x.dirty] 143*(bY t l*R)))))))=>(by
     have h7:J w' (aa X1 #[D E 0,D E 0,D E 0] 34*(P*(Q*(S*(aa V #[D E x.m.page,D E x.m.size,D E x.m.frame,D E x.m.rights,O x.dirty] 143*(bY t l*R)))))):=h.eq (by ac_rfl);exact(h7.set3 (D E 0) (D E 0) (D E 0)).eq (by ac_rfl):J (((w'.setCell (F X1 0 z) (D E 0)).setCell (F X1 1 z) (D E 0)).setCell (F X1 2 z) (D E 0)) (P*(Q*(S*(aa X1 #[D E 0,D E 0,D E 0] 34*(aa V #[D E x.m.page,D E x.m.size,D E x.m.frame,D E x.m.rights,O x.dirty] 143*(bY t l*R))))))))
    clear h5 x5 HA;go_upto_region 9 with fail;go_region_held3 (fun w'=>w'.cell? (F b 1 z)=C (.pointer (C (F v 0 z)))∧w'.cell? (F X0 0 z)=C (D E a.page)∧w'.cell? (F X0 1 z)=C (D E a.kind)∧w'.cell? (F X0 2 z)=C (O a.user)) (first|(with_reducible exact HK.out _ _ _ h6)|(with_reducible exact HK.out _ _ _ h6d)|(with_reducible exact HK.out _ _ _ hL)|(with_reducible exact HK.out _ _ _ sL)|go_keep) (first|(go_at_call 105;first|((with_reducible refine(HB.out _ _ _ h6).mono ?_);rintro e w7 ⟨rfl,hL,xL⟩;obtain⟨s0,s1,s2⟩:=hL.r3.cells3;obtain⟨t0,t1,t2⟩:=hL.r3.frees3;have sl:=hL.r3.lt;have sL:=HKS.out _ _ _ _ hL)|((with_reducible refine(HB.out _ _ _ h6d).mono ?_);rintro e w7 ⟨rfl,hL,xL⟩;obtain⟨s0,s1,s2⟩:=hL.r3.cells3;obtain⟨t0,t1,t2⟩:=hL.r3.frees3;have sl:=hL.r3.lt;have sL:=HKS.out _ _ _ _ hL)))
    all_goals
     go_wp2_with fail
     refine ak (fun wz=>J wz (aa X1 #[D E 0,D E 0,D E 0] 34*(a9 v root (k.begin root a)*(aa b #[.pointer (C (F t 0 z)),.pointer (C (F v 0 z))] 126*(aa X0 #[D E a.page,D E a.kind,O a.user] 41*(aa V #[D E x.m.page,D E x.m.size,D E x.m.frame,D E x.m.rights,O x.dirty] 143*(bY t l*R))))))∧bb W wz) ⟨by first|exact sL.eq (by ac_rfl)|exact hL.eq (by ac_rfl),ah⟩ ?_;rintro wz ⟨hz,xz⟩;exact N (be results61 rfl rfl rfl (br hz)) rfl ⟨rfl,(eC (hz.right.eq (show _=aa b #[.pointer (C (F t 0 z)),.pointer (C (F v 0 z))] 126*(bY t l*(a9 v root (k.begin root a)*(aa X0 #[D E a.page,D E a.kind,O a.user] 41*(aa V #[D E x.m.page,D E x.m.size,D E x.m.frame,D E x.m.rights,O x.dirty] 143*R)))) by ac_rfl))).p2.right.p2.right,xz⟩
theorem uW(b:Nat)(l:List Ln)(root:Int)(k:Ck)(a:Ac)(hl:Tl.Ok l)(hp:cL a.page)(R:ab)(W:K)(h:J W (cy b l root k*R)):
  Z prog 61 #[.pointer (C (F b 0 z)),.agg #[D E a.page,D E a.kind,O a.user]] W
   (cI (.tuple #[.agg #[D E (cW l root k a).an.fin,D E (cW l root k a).an.frame,D E (cW l root k a).an.rights],O (cW l root k a).fin,D E (cW l root k a).code]) (cy b l root (cW l root k a).c *R) W):=by
 by_cases ha:au a=0
 ·cases hon:k.on with
  |true=>
   have e:cW l root k a=⟨An.zero,M,8,k⟩:=by unfold cW;rw[if_neg (by rw[ha];simp),if_pos hon]
   rw[e];exact nZ b l root k a ha hon R W h
  |false=>
   have e:cW l root k a=match ji l a with|some r=>⟨r,T,0,k⟩|none=>⟨An.zero,M,0,k.begin root a⟩:=by unfold cW;rw[if_neg (by rw[ha];simp),if_neg (by rw[hon];simp)];rfl
   cases hf:Tl.find l a.page with
   |none=>
    have e2:ji l a=z:=by unfold ji;rw[hf]
    rw[e2] at e;exact jj b l root k a ha hon hl hp Ln.zero M M (bJ Ln.zero.m a) _ (H ⟨by rw[hf];rfl,by rw[hf];rfl⟩) (H rfl) (H rfl) (H e) R W h
   |some x=>
    cases hu:kZ x a with
    |true=>
     have e2:ji l a=C (bJ x.m a):=by
      unfold ji;rw[hf];refine if_pos ?_;unfold kZ at hu;simpa using hu
     rw[e2] at e;exact jj b l root k a ha hon hl hp x T T (bJ x.m a) _ (H ⟨by rw[hf];rfl,by rw[hf];rfl⟩) (H (by rw[hu];rfl)) (H rfl) (H e) R W h
    |false=>
     have e2:ji l a=z:=by
      unfold ji;rw[hf];refine if_neg fun h=> ?_;have:kZ x a=T:=by unfold kZ;simpa using h
      rw[this] at hu;cases hu
     rw[e2] at e;exact jj b l root k a ha hon hl hp x T M (bJ x.m a) _ (H ⟨by rw[hf];rfl,by rw[hf];rfl⟩) (H (by rw[hu];rfl)) (H rfl) (H e) R W h
 ·have e:cW l root k a=⟨An.zero,M,au a,k⟩:=by unfold cW;rw[if_pos ha]
  rw[e];exact pd b l root k a ha R W h
def pe(b:Nat):a7:= .pointer (C (F b 0 z))
def cj(v:a7)(l:List Nat):ab:=bZ 115 1 v l.length (l.map pe)
theorem rJ{w:K}{R:ab}{A:Option a5}{n c:Nat}{l:List Nat}(h:J w (cj (.slice A n c) l*R)):n=l.length:=by
 rcases(ax (e:=115) (size:=1) h) with ⟨hv,h0,_⟩|⟨g,cap,cur,hv,_⟩
 ·injection hv with a b
  omega
 ·injection hv
theorem iR{w:K}{R:ab}{A:Option a5}{n c:Nat}{l:List Nat}(h:J w (cj (.slice A n c) l*R)){k p:Nat}(hk:l[k]? =C p):
  ∃b,A=C (F b 0 z)∧b<w.heap.size∧w.cell? (F b k z)=C (.pointer (C (F p 0 z))):=by
 obtain rfl:=rJ h;obtain⟨b,e,hb,hc,_⟩:=a6 (e:=115) (size:=1) h (i:=k) (u:=pe p) (by simp[hk]);exact⟨b,e,hb,hc⟩
theorem uX:jh prog 115 (.pointer z) 1 8:=⟨by kernel_rfl,rfl,by omega⟩
def aU:List Nat→List Cr→ab
 |p::ps,c::cs=>cy p c.l 0 c.k*aU ps cs
 |_,_=>dN True
theorem ke:∀{ps:List Nat} {cs:List Cr} {k p:Nat} {c:Cr},ps[k]? =C p→cs[k]? =C c→∃Q,aU ps cs=cy p c.l 0 c.k*Q∧∀c',aU ps (cs.set k c')=cy p c'.l 0 c'.k*Q
 | [],_,_,_,_,h,_=>by simp at h
 |_::_,[],_,_,_,_,h=>by simp at h
 |q::ps,d::cs,0,p,c,h1,h2=>by
  simp at h1 h2;subst h1;subst h2;exact⟨aU ps cs,rfl,fun c'=>rfl⟩
 |q::ps,d::cs,k+1,p,c,h1,h2=>by
  simp at h1 h2;obtain⟨Q,e1,e2⟩:=ke h1 h2;refine⟨cy q d.l 0 d.k*Q,?_,fun c'=> ?_⟩
  ·show cy q d.l 0 d.k*aU ps cs=_
   rw[e1];ac_rfl
  ·show cy q d.l 0 d.k*aU ps (cs.set k c')=_
   rw[e2];ac_rfl
theorem la:∀(ps:List Nat) (cs:List Cr) (p:Nat) (c:Cr),ps.length=cs.length→aU (ps++[p]) (cs++[c])=cy p c.l 0 c.k*aU ps cs
 | [],[],p,c,_=>rfl
 | [],_::_,_,_,h=>by simp at h
 |_::_,[],_,_,h=>by simp at h
 |q::ps,d::cs,p,c,h=>by
  show cy q d.l 0 d.k*aU (ps++[p]) (cs++[c])=_;rw[la ps cs p c (by simpa using h)];show _=cy p c.l 0 c.k*(cy q d.l 0 d.k*aU ps cs);ac_rfl
structure Sl where
 f:Nat
 sh:Nat
 A:Option a5
 c:Nat
 ps:List Nat
 G:Option a5
 d:Nat
def co(b:Nat)(σ:Sc)(y:Sl)(R:ab):ab:=
 aa b #[.pointer (C (F y.f 0 z)),D E 0,.slice y.A y.ps.length y.c,.pointer (C (F y.sh 0 z)),O σ.busy,.slice y.G σ.gone.length y.d] 114*(cj (.slice y.A y.ps.length y.c) y.ps*(ao (.slice y.G σ.gone.length y.d) σ.gone*
  (aI y.sh σ.told σ.wait*(aU y.ps σ.cs*(dn y.f σ.s*R)))))
def aw(b:Nat)(σ:Sc):ab:=ex fun y=>dN (y.ps.length=σ.cs.length)*co b σ y (dN True)
section
variable {w:K} {b:Nat} {σ:Sc} {R:ab}
theorem dz(h:J w (aw b σ*R)):∃y,y.ps.length=σ.cs.length∧J w (co b σ y R):=by
 unfold aw at h;obtain⟨y,h⟩:=aH.1 h;rw[aG] at h;obtain⟨hy,h⟩:=cH.1 h;refine⟨y,hy,?_⟩;have h2:J w (dN True*co b σ y R):=h.eq (by unfold co;ac_rfl);exact h2.right
theorem dR{y:Sl}(hy:y.ps.length=σ.cs.length)(h:J w (co b σ y R)):J w (aw b σ*R):=by
 unfold aw;refine aH.2 ⟨y,?_⟩;rw[aG];refine cH.2 ⟨hy,?_⟩;have h2:J w (dN True*co b σ y R):=cH.2 ⟨trivial,h⟩;exact h2.eq (by unfold co;ac_rfl)
end
theorem Agree.stepC{s s':Ms}(h:Agree s' s)(r:Int)(k:Ck):(Go.Proofs.YtmfheghbgihdmaaGreat.aR s' r k).c =(Go.Proofs.YtmfheghbgihdmaaGreat.aR s r k).c ∧(Go.Proofs.YtmfheghbgihdmaaGreat.aR s' r k).r =(Go.Proofs.YtmfheghbgihdmaaGreat.aR s r k).r ∧(Go.Proofs.YtmfheghbgihdmaaGreat.aR s' r k).code =(Go.Proofs.YtmfheghbgihdmaaGreat.aR s r k).code ∧
  Agree (Go.Proofs.YtmfheghbgihdmaaGreat.aR s' r k).s (Go.Proofs.YtmfheghbgihdmaaGreat.aR s r k).s :=by
 unfold Go.Proofs.YtmfheghbgihdmaaGreat.aR;by_cases h1:k.on=M
 ·rw[if_pos h1,if_pos h1];exact⟨rfl,rfl,rfl,h⟩
 rw[if_neg h1,if_neg h1,h.has];by_cases h2:s.has k.t=M
 ·rw[if_pos h2,if_pos h2];exact⟨rfl,rfl,rfl,h⟩
 rw[if_neg h2,if_neg h2];have ew:k.word s'=k.word s:=h.word (by rw[h.has];simpa using h2) _;rw[ew];by_cases h3:k.mark=T∧k.word s≠k.w
 ·rw[if_pos h3,if_pos h3];exact⟨rfl,rfl,rfl,h⟩
 rw[if_neg h3,if_neg h3];by_cases h4:bu (k.word s) k.level≠0
 ·rw[if_pos h4,if_pos h4];exact⟨rfl,rfl,rfl,h⟩
 rw[if_neg h4,if_neg h4];by_cases h5:(aE (k.word s) k.level).there =M
 ·rw[if_pos h5,if_pos h5];exact⟨rfl,rfl,rfl,h⟩
 rw[if_neg h5,if_neg h5];by_cases h6:(aE (k.word s) k.level).leaf =M
 ·rw[if_pos h6,if_pos h6];exact⟨rfl,rfl,rfl,h⟩
 rw[if_neg h6,if_neg h6];by_cases h7:may (aE (k.word s) k.level).rights k.a=M
 ·rw[if_pos h7,if_pos h7];exact⟨rfl,rfl,rfl,h⟩
 rw[if_neg h7,if_neg h7];by_cases h8:k.mark=T
 ·rw[if_pos h8,if_pos h8];exact⟨rfl,rfl,rfl,h.setW _ _ _⟩
 rw[if_neg h8,if_neg h8];by_cases h9:dX (aE (k.word s) k.level) k.a=T
 ·rw[if_pos h9,if_pos h9];exact⟨rfl,rfl,rfl,h⟩
 rw[if_neg h9,if_neg h9];exact⟨rfl,rfl,rfl,h⟩
theorem wl(b f:Nat)(c:Cr)(s:Ms)(hc:Tl.Ok c.l∧c.k.Ok)(R:ab)(W:K)(h:J W (cy b c.l 0 c.k*(dn f s*R))):
  Z prog 62 #[.pointer (C (F b 0 z)),.pointer (C (F f 0 z))] W
   (cI (.tuple #[.agg #[D E (aR s 0 c.k).r.an.fin,D E (aR s 0 c.k).r.an.frame,D E (aR s 0 c.k).r.an.rights],O (aR s 0 c.k).r.fin,D E (aR s 0 c.k).code]) (cy b (gY c.l (aR s 0 c.k).r) 0 (aR s 0 c.k).c *(dn f (aR s 0 c.k).s *R)) W):=by
 obtain⟨s',ho,ha,h'⟩:=ga h.p2;obtain⟨a1,a2,a3,a4⟩:=ha.stepC 0 c.k;refine(uV b f c.l 0 c.k s' hc.1 ho hc.2 R W h'.p2).mono ?_;rintro e w' ⟨he,h2,x2⟩;rw[a2,a3] at he;rw[a1,a2] at h2;exact⟨he,(ge h2.p2 (tG ho 0 c.k) a4).p2,x2⟩
theorem fS{P:Program}(w:K)(dT sT ty elem:TypeId)(b o dLen dCap:Nat)(a:a5)(sLen sCap size k:Nat)(cs:List a7)
  (hu:P.underlying dT=C (.slice elem)) (hs:(P.info? elem).map (·.size)=C size) (hk:k=Nat.min sLen dLen) (hn:cs.length=k*size)
  (hsrc:∀j v,cs[j]? =C v→w.cell? (a.add j)=C v) (hc:∀j,j<cs.length→(w.cell? ⟨b,o+j,z⟩).isSome =T) (hf:∀j,j<cs.length→w.frozen? ⟨b,o+j,z⟩=M) (h1:∀v∈cs,v.oneCell'=T):
  (Builtin.copy_ #[dT,sT] ty #[.slice (C (F b o z)) dLen dCap,.slice (C a) sLen sCap]).run P w= .ok (goInt k) (w.setCells b o cs):=by
 have hl:=run_loadCells_list (P:=P) w a cs hsrc;have hst:=run_storeCells_cells (P:=P) b o cs 0 w (by simpa using hc) (by simpa using hf) h1;subst hk;cases hq:P.info? elem with
 |none=>simp[hq] at hs
 |some i=>
  have hi:i.size=size:=by simpa [hq] using hs
  rw[hn] at hl;simp[Builtin.copy_,run_underlying hu,Builtin.lenOf,Builtin.firstCells,sizeOf,typeInfo,hq,hi,hl,hst]
section
variable {w:K} {R:ab} {e size:Nat} {n c:Nat} {xs ys:List a7} {g:Nat}
theorem Has.rowMore(h:J w (bZ e size (.slice (C (F g 0 z)) n c) n xs*R))(m:Nat)(hm:n+m≤c):
  ∃ys:List a7,ys.length=m*size∧J w (bZ e size (.slice (C (F g 0 z)) (n+m) c) (n+m) (xs++ys)*R):=by
 have hl:=h.rowLens.1;rcases h.rowCases with ⟨hv,_⟩|⟨g',cap,cur,hv,h1,h2,h3,h4,hb⟩
 ·injection hv with a;cases a
 ·injection hv with e1 e2 e3
  injection e1 with e1
  injection e1 with e1
  subst e1;subst e3;have e4:(n+m)*size=n*size+m*size:=Nat.add_mul _ _ _;have e5:(n+m)*size≤c*size:=Nat.mul_le_mul_right _ hm;refine⟨(cur.toList.drop (n*size)).take (m*size),by rw[List.length_take,List.length_drop,Array.length_toList];omega,?_⟩;refine hb.rowOf ?_ hm h2 h3 ?_
  ·rw[I,hl,List.length_take,List.length_drop,Array.length_toList];omega
  ·rw[←h4,e4,List.take_add]
theorem Has.rowShift(h:J w (bZ e size (.slice (C (F g 0 z)) n c) n xs*R)){i m:Nat}(hi:i≤n)(hm:n+m≤c)(zs:List a7)(hz:zs.length=m*size):
  J ((w.setCells g ((i+m)*size) (xs.drop (i*size))).setCells g (i*size) zs) (bZ e size (.slice (C (F g 0 z)) (n+m) c) (n+m) (xs.take (i*size)++(zs++xs.drop (i*size)))*R):=by
 have hl:=h.rowLens.1;obtain⟨ys,hy,h1⟩:=h.rowMore m hm;have e1:i*size≤n*size:=Nat.mul_le_mul_right _ hi;have e2:(n+m)*size=n*size+m*size:=Nat.add_mul _ _ _;have e3:(i+m)*size=i*size+m*size:=Nat.add_mul _ _ _;have hd:(xs.drop (i*size)).length =n*size - i*size:=by rw[List.length_drop,hl]
 have h2:=Y (xs.drop (i*size)) ((i+m)*size) h1 (by rw[hd];omega);have h3:=Y zs (i*size) h2 (by omega);refine h3.eq (congrArg (fun t=>bZ e size (.slice (C (F g 0 z)) (n+m) c) (n+m) t*R) ?_);have d1:(xs++ys).drop ((i+m)*size+(xs.drop (i*size)).length)=[]:=List.drop_eq_nil_of_le (by rw[I,hd,hl,hy];omega);rw[d1,List.append_nil];have t1:((xs++ys).take ((i+m)*size)++xs.drop (i*size)).take (i*size)=xs.take (i*size):=by
  rw[List.take_append_of_le_length (by rw[List.length_take,I,hl,hy];omega),List.take_take,Nat.min_eq_left (by omega),List.take_append_of_le_length (by omega)]
 have t2:((xs++ys).take ((i+m)*size)++xs.drop (i*size)).drop (i*size+zs.length)=xs.drop (i*size):=by
  have hlen:((xs++ys).take ((i+m)*size)).length =i*size+zs.length:=by rw[List.length_take,I,hl,hy,hz];omega
  rw[←hlen,List.drop_left]
 rw[t1,t2]
theorem Has.rowGapD{k:Nat}(h:J w (bZ e size (.slice (C (F g 0 z)) n c) n (xs++ys)*R))(hx:xs.length=k*size)(zs ts:List a7)(hzt:ys.length=zs.length+ts.length):
  J (((w.setCells g (k*size) zs).drew).setCells g (k*size+zs.length) ts) (bZ e size (.slice (C (F g 0 z)) n c) n (xs++(zs++ts))*R):=by
 have hl:=h.rowLens.1;rw[I] at hl;have h2:=Y zs (k*size) h (by omega);have h3:=Y ts (k*size+zs.length) h2.drew (by omega);refine h3.eq (congrArg (fun t=>bZ e size (.slice (C (F g 0 z)) n c) n t*R) ?_);have t1:(xs++ys).take (k*size)=xs:=by rw[List.take_append_of_le_length (by omega),List.take_of_length_le (by omega)]
 rw[t1];have t2:(xs++(zs++(xs++ys).drop (k*size+zs.length))).take (k*size+zs.length)=xs++zs:=by
  rw[←List.append_assoc,List.take_append_of_le_length (by rw[I];omega),List.take_of_length_le (by rw[I];omega)]
 have t3:(xs++(zs++(xs++ys).drop (k*size+zs.length))).drop (k*size+zs.length+ts.length)=[]:=
  List.drop_eq_nil_of_le (by rw[I,I,List.length_drop,I];omega)
 rw[t2,t3,List.append_nil,List.append_assoc]
end
theorem Ext.cells{w0:K}(b:Nat):∀(vs:List a7) (o:Nat) {w:K},bb w0 w→bb w0 (w.setCells b o vs)
 | [],_,_,h=>h
 |_::r,o,_,h=>Ext.cells b r (o+1) (h.set _ _)
theorem tL:∀w,(zeroValue 39).run prog w= .ok bf w:=Tryz.zeroValue39
theorem fV{w:K}{R:ab}{A:Option a5}{n c:Nat}{l:List Mp}(h:J w (bO (.slice A n c) l*R)):n≤9223372036854775807∧n≤c:=by
 obtain rfl:=dK h;refine⟨gS h,?_⟩;rcases ax (e:=39) (size:=4) h with ⟨hv,h0,_⟩|⟨g,cap,cur,hv,h1,_⟩
 ·injection hv with a b
  omega
 ·injection hv with a b d
  omega
theorem nq:(prog.info? 39).map (fun i=>(i.zero,i.size,i.bytes))=C (C bf,4,32):=by kernel_rfl
theorem iD{w:K}{R:ab}{g n c:Nat}{l:List Mp}(h:J w (bO (.slice (C (F g 0 z)) n c) l*R))(k:Nat):
  ∀j u,((aY l).drop (k*4))[j]? =C u→w.cell? ⟨g,k*4+j,z⟩=C u:=by
 intro j u hu;rw[List.getElem?_drop] at hu;obtain rfl:=dK h;obtain⟨b,hb,_,hc,_⟩:=a6 (e:=39) (size:=4) h hu;injection hb with hb
 injection hb with hb
 subst hb;exact hc
theorem qx(l:List Mp)(i j g n c:Nat)(R:ab)(w:K)(hij:i<j)(hj:j≤n)(h:J w (bO (.slice (C (F g 0 z)) n c) l*R)):
  Z prog 178 #[.slice (C (F g 0 z)) n c,.int .i64 i,.int .i64 j] w
   (cI (.slice (C (F g 0 z)) (i+(n - j)) c) (bO (.slice (C (F g 0 z)) (i+(n - j)) c) (l.take i++l.drop j)*R) w):=by
 obtain rfl:=dK h;obtain⟨hbig,hnc⟩:=fV h;obtain⟨i0,hi0,hz0,hz1,hz2⟩:=info_parts nq;obtain⟨A,hA,hnews⟩:∃A:a5,(if c=j then C ((F g 0 z):a5) else C ⟨g,j*4,z⟩)=C A∧Hid (∀t u,((aY l).drop (j*4))[t]? =C u→w.drew.cell? (A.add t)=C u):=by
  by_cases hc:c=j
  ·refine⟨(F g 0 z),by simp[hc],fun t u hu=> ?_⟩
   rw[List.drop_eq_nil_of_le (by rw[dE];omega)] at hu;simp at hu
  ·refine⟨⟨g,j*4,z⟩,by simp[hc],fun t u hu=> ?_⟩
   rw[Addr.add_lit];exact iD h j t u hu
 have s1:Hid (((aY l).drop (j*4)).length =(l.length - j)*4):=by rw[List.length_drop,dE];show _=_;omega
 have s2:Hid (∀u∈(aY l).drop (j*4),u.oneCell'=T):=fun u hu=>gR l u (List.mem_of_mem_drop hu);have s3:Hid (∀t,t< ((aY l).drop (j*4)).length →(w.drew.cell? ⟨g,0+i*4+t,z⟩).isSome =T∧w.drew.frozen? ⟨g,0+i*4+t,z⟩=M):=by
  intro t ht;rw[s1.out] at ht;obtain⟨b,hb,_,hc,hf⟩:=a6 (e:=39) (size:=4) h (i:=i*4+t) (u:=(aY l)[i*4+t]'(by rw[dE];omega)) (ad _);injection hb with hb
  injection hb with hb
  subst hb;rw[Nat.zero_add];exact⟨by show(w.cell? _).isSome =T;rw[hc];rfl,hf⟩
 have hic:i≤c:=by omega
 have hne:((i:Int)==(j:Int))=M:=beq_eq_false_iff_ne.2 (by omega);go_enter func178,ntmps178;go_wp2_with fail
 go_region_law (refine step_append_room rfl (.tmp 22) (.tmp 25) 44 rfl 39 i0 4 underlying44 hi0 hz1 g 0 i c (by simp[Act.eval,Act.put]) A (l.length - j) (c - j) ((aY l).drop (j*4)) (by simp[Act.eval,Act.put]) s1.out hnews.out s2.out (by omega) s3.out ?_)
 have hn':i+(l.length - j)<l.length:=by omega
 have h1:=Y (e:=39) (size:=4) ((aY l).drop (j*4)) (i*4) h.drew (by rw[s1.out];omega);have hz:(l.take i++l.drop j).length =i+(l.length - j):=by simp;omega
 obtain⟨zs,hcl⟩:∃zs,∀ty,(Builtin.clear_ #[44] ty #[.slice (C ⟨g,(i+(l.length - j))*4,z⟩) (l.length - (i+(l.length - j))) (c - (i+(l.length - j)))]).run prog (w.drew.setCells g (i*4) ((aY l).drop (j*4)))= .ok (.tuple #[]) ((w.drew.setCells g (i*4) ((aY l).drop (j*4))).setCells g ((i+(l.length - j))*4) zs):=by
  refine⟨_,fun ty=>gm _ _ _ ty bf 4 underlying44 tL rfl (by intro v hv;simp[bf,Value.cells] at hv;subst hv;rfl) g _ _ _ (by omega) (by omega) (fun t ht=> ?_) (fun t ht=> ?_)⟩
  all_goals
   obtain⟨b,hb,_,hc,hf⟩:=a6 (e:=39) (size:=4) h1 (i:=(i+(l.length - j))*4+t) (ad (by rw[h1.rowLens.1];omega));injection hb with hb
   injection hb with hb
   subst hb
  ·rw[hc];rfl
  ·exact hf
 have hfin:J ((w.drew.setCells g (i*4) ((aY l).drop (j*4))).setCells g ((i+(l.length - j))*4) zs) (bO (.slice (C (F g 0 z)) (i+(l.length - j)) c) (l.take i++l.drop j)*R):=by
  have:=Has.rowDelete (e:=39) (size:=4) (i:=i) (j:=j) h.drew (by omega) hj zs;unfold bO;rw[hz,eL];have e1:(aY l).take (i*4)=aY (l.take i):=fM iu l i;have e2:(aY l).drop (j*4)=aY (l.drop j):=fL iu l j;rw[←e1,←e2];exact this
 have hx:bb w ((w.drew.setCells g (i*4) ((aY l).drop (j*4))).setCells g ((i+(l.length - j))*4) zs):=Ext.cells _ _ _ (Ext.cells _ _ _ (U w).drew);clear h1 s1 s2 s3 hnews hA h hz;generalize (w.drew.setCells g (i*4) ((aY l).drop (j*4)))=w1 at*
 generalize i+(l.length - j)=n' at*
 have hcn:¬c≤n':=by omega
 have hnn:(n':Int)≤(l.length:Int):=by omega
 go_wp2_with fail
 go_ret;exact⟨rfl,hfin,hx⟩
def p7(l:List Mp)(w:K)(e:Ending)(w':K):Prop:=∃A n c,e= .returned (.slice A n c)∧J w' (bO (.slice A n c) l*bS w w.heap.size)∧bb w w'
theorem rK(l:List Mp)(A:Option a5)(n c:Nat)(R:ab)(w:K)(hs:l.length≤1000000)(h:J w (bO (.slice A n c) l*R)):
  Z prog 142 #[.slice A n c] w (p7 l w):=by
 have q22:∀(w:K) (a:Option a5) (n c n' c':Nat),(binOp .eql 44 (.slice a n c) (.slice z n' c')).run prog w= .ok (.bool a.isNone) w:=fun w a n c n' c'=>Lib.run_eql_slice_nil w _ _ a n c n' c' underlying44;have hl0:=dK h;subst hl0;cases A with
 |none=>
  have h0:l=[]∧c=0:=by
   rcases ax (e:=39) (size:=4) h with ⟨hv,h0,_⟩|⟨g,cap,cur,hv,_⟩
   ·injection hv with a b d
    exact⟨List.eq_nil_of_length_eq_zero h0,d⟩
   ·injection hv with a
    cases a
  obtain⟨rfl,rfl⟩:=h0;go_enter func142,ntmps142;go_wp2_with fail
  go_ret;exact⟨z,0,0,rfl,Has.rowNil (aT w),U _⟩
 |some a=>
  have h0:∃g,a=(F g 0 z):=by
   rcases ax (e:=39) (size:=4) h with ⟨hv,h0,_⟩|⟨g,cap,cur,hv,_⟩
   ·injection hv with a b d
    cases a
   ·injection hv with a
    injection a with a
    exact⟨g,a⟩
  obtain⟨g,rfl⟩:=h0;have h1:=(aT w).new #[] 39;have hrow:J (w.alloc (.cells #[] 39)) (bZ 39 4 (.slice (C (F w.heap.size 0 z)) 0 0) 0 []*bS w w.heap.size):=h1.rowOf rfl (Nat.le_refl _) (by unfold maxLen;omega) rfl rfl;have hn:=iD (h.alloc (.cells #[] 39)) 0;have hne:Hid (∀j u,(aY l)[j]? =C u→(w.alloc (.cells #[] 39)).cell? (((F g 0 z):a5).add j)=C u):=fun j u hu=>by
   rw[Addr.add_lit];exact hn j u (by simpa using hu)
  have x1:=(U w).alloc (.cells #[] 39);clear hn h1 h;go_enter func142,ntmps142;go_wp2_with(at_builtin;refine aW rfl _ _ 44 rfl underlying44 it _ _ _ rfl hrow (F g 0 z) l.length c (aY l) rfl (dE l) hne.out (gR l) ?c2 ?c3 ?_)
  case c2=>unfold maxLen;omega
  case c3=>omega
  intro v' w2 h' x';obtain⟨A',c',rfl⟩:=h'.rowForm;go_wp2_with fail
  go_ret;exact⟨A',_,c',rfl,h',x1.trans x'⟩
def jW(m:Mp)(p:Int):Int:=if bd m p=T then 0 else wrap64 (m.page - p)
theorem kL(m:Mp)(p:Int)(w:K)(hm:cL m.page)(hp:cL p):
  Z prog 191 #[.agg #[D E m.page,D E m.size,D E m.frame,D E m.rights],.int .i64 p] w (Pure (D E (jW m p)) w):=by
 have h1:=Has.new (aT w) #[D E m.page,D E m.size,D E m.frame,D E m.rights] 39;have x1:=(U w).alloc (.cells #[D E m.page,D E m.size,D E m.frame,D E m.rights] 39);have HO:=H (fun W=>jF m p W hm hp);obtain⟨c0,c1,c2,c3⟩:=h1.cells4;have hlt:=h1.lt;cases ho:bd m p with
 |true=>
  rw[ho] at HO;have hy:Hid (jW m p=0):=H (by unfold jW;rw[if_pos ho]);clear ho;go_enter func191,ntmps191;go_wp2_with(refine(HO.out _).mono ?_;rintro e w2 ⟨rfl,b2⟩)
  go_ret;exact⟨by rw[hy.out];rfl,aq (h1.below b2).right (x1.below b2)⟩
 |false=>
  rw[ho] at HO;have hy:Hid (jW m p=wrap64 (m.page - p)):=H (by unfold jW;rw[if_neg (by rw[ho];simp)]);clear ho;go_enter func191,ntmps191;go_wp2_with(refine(HO.out _).mono ?_;rintro e w2 ⟨rfl,b2⟩;have d0:=((b2.cell (World.block_lt_of_cell? _ _ c0)).trans c0))
  go_ret;exact⟨by rw[hy.out];rfl,aq (h1.below b2).right (x1.below b2)⟩
theorem ph{m:Mp}{p:Int}(hm:MapOk m)(hp:cL p)(h0:0≤p):decide (jW m p<0)=Bk.before p m:=by
 have:=hm.p0;have:=hm.p1;have:=hm.sp;obtain⟨_,h2⟩:=hp;unfold jW Bk.before;cases bd m p with
 |true=>rfl
 |false=>
  rw[if_neg (by simp),Bool.not_false,Bool.true_and];exact decide_eq_decide.2 (by unfold wrap64;omega)
theorem rL{m:Mp}{p:Int}(hm:MapOk m)(hp:cL p):(jW m p==0)=bd m p:=by
 have:=hm.p0;have:=hm.p1;have:=hm.sp;obtain⟨h1,h2⟩:=hp;unfold jW;cases ho:bd m p with
 |true=>rfl
 |false=>
  rw[if_neg (by simp)];have:=dp.1 ho;exact beq_eq_false_iff_ne.2 (by unfold wrap64;omega)
theorem tM{m:Mp}{p:Int}:cL (jW m p):=by
 unfold jW cL wrap64;split<;>omega
theorem tN{l:List Mp}(hl:Bk.Ok l){p:Int}{i:Nat}(hi:0≤p→i=Bk.pos l p):(Bk.find l p).isSome =if h:i<l.length then bd l[i] p else M:=by
 by_cases h0:0≤p
 ·obtain rfl:=hi h0
  rw[Bk.find_head hl];cases hd:l.dropWhile (Bk.before p) with
  |nil=>
   have:=Bk.drop_nil hd;rw[dif_neg (by omega)];rfl
  |cons y r=>
   obtain⟨h1,h2⟩:=Bk.drop_head hd;rw[dif_pos h1,h2];show(if bd y p=T then C y else z).isSome =_;cases bd y p<;>rfl
 ·have hno:∀x∈l,bd x p=M:=fun x hx=>dp.2 (.inl (by have:=(hl.chk x hx).p0;omega))
  have e1:Bk.find l p=z:=List.find?_eq_none.2 fun x hx=>by rw[hno x hx];simp
  rw[e1];split
  ·rename_i h
   rw[hno _ (List.getElem_mem h)];rfl
  ·rfl
theorem qy(l:List Mp)(hl:Bk.Ok l)(p:Int)(hp:cL p)(A:Option a5)(n c:Nat)(R:ab)(w:K)(h:J w (bO (.slice A n c) l*R)):
  Z prog 190 #[.slice A n c,.int .i64 p,.func (.func 191) #[] #[]] w
   (fun e w'=>∃i:Nat,i≤l.length∧e= .returned (.tuple #[D E i,O (Bk.find l p).isSome])∧(0≤p→i=Bk.pos l p)∧Below w.heap.size w w'):=by
 obtain rfl:=dK h;have hbig:=gS h;have hL:=hl.le;have HL:=H hl;clear hl;go_enter func190,ntmps190;go_wp2_with fail
 go_loopw [9,10] (fun s9 s10 wr=>∃i j:Nat,i≤j∧j≤l.length∧s9=D E i∧s10=D E j∧Below w.heap.size w wr∧Hid (0≤p→i≤Bk.pos l p∧Bk.pos l p≤j)) (fun s9 s10 _=>(intOf s10).toNat - (intOf s9).toNat)
 case atStart=>exact⟨0,l.length,Nat.zero_le _,Nat.le_refl _,rfl,rfl,Below.refl _ _,fun _=>⟨Nat.zero_le _,Bk.pos_le l p⟩⟩
 case round=>
  obtain⟨i,j,hij,hj,rfl,rfl,BW,HP⟩:=hrel;have hr:=h.below BW;have BW':=H BW;clear BW h;by_cases hlt:i<j
  ·go_upto_region 5 with fail
   obtain⟨k,hk,hik,hkj⟩:∃k:Nat,((i:Int)+(j:Int)) / 2=k∧i≤k∧k<j:=⟨(i+j) / 2,by omega,by omega,by omega⟩;rw[hk];clear hk;have hkl:k<l.length:=by omega
   obtain⟨b,rfl,hb,c0,c1,c2,c3⟩:=dS hr hkl;have hm:=HL.out.chk l[k] (List.getElem_mem hkl);have hiff:=Bk.pos_iff HL.out p hkl;have hcb:=fun h0=>ph (p:=p) hm hp h0;have HC:=H (fun W=>kL l[k] p W ⟨by have:=hm.p0;omega,by have:=hm.p1;have:=hm.sp;omega⟩ hp);have hci:cL (jW l[k] p):=tM;have HF:=H (show 0≤p→decide (jW l[k] p<0)=decide (k<Bk.pos l p) from fun h0=>(hcb h0).trans hiff);clear hm hiff hcb hr;generalize l[k]=m at*
   generalize jW m p=v at*
   by_cases hv:v<0
   ·go_wp2_with(refine(HC.out _).mono ?_;rintro e w' ⟨rfl,hb'⟩)
    go_roundw
    case rel=>exact⟨k+1,j,by omega,hj,by go_num,rfl,BW'.out.trans (hb'.mono BW'.out.size),fun h0=>⟨by have:=HF.out h0;rw[decide_eq_true hv] at this;have:=of_decide_eq_true this.symm;omega,(HP.out h0).2⟩⟩
    case measure=>simp[intOf];omega
   ·go_wp2_with(refine(HC.out _).mono ?_;rintro e w' ⟨rfl,hb'⟩)
    go_roundw
    case rel=>exact⟨i,k,by omega,by omega,rfl,rfl,BW'.out.trans (hb'.mono BW'.out.size),fun h0=>⟨(HP.out h0).1,by have:=HF.out h0;rw[decide_eq_false (by omega)] at this;have:=of_decide_eq_false this.symm;omega⟩⟩
    case measure=>simp[intOf];omega
  ·have hi:0≤p→i=Bk.pos l p:=fun h0=>by have:=HP.out h0;omega
   have hfa:=tN HL.out hi;have HI:=H hi;clear hi HP;by_cases hil:i<l.length
   ·rw[dif_pos hil] at hfa
    obtain⟨b,rfl,hb,c0,c1,c2,c3⟩:=dS hr hil;have hm:=HL.out.chk l[i] (List.getElem_mem hil);have HC:=H (fun W=>kL l[i] p W ⟨by have:=hm.p0;omega,by have:=hm.p1;have:=hm.sp;omega⟩ hp);have hz:=rL hm hp;rw[←hfa] at hz;have HZ:=H hz;clear hm hr hz hfa;generalize l[i]=m at*
    generalize jW m p=v at*
    go_wp2_with(refine(HC.out _).mono ?_;rintro e w' ⟨rfl,hb'⟩)
    exact N (v:= .tuple #[D E i,O (v==0)]) (by simp[results,results190]) rfl ⟨i,by omega,by rw[HZ.out],HI.out,BW'.out.trans (hb'.mono BW'.out.size)⟩
   ·rw[dif_neg hil] at hfa
    have HZ:=H hfa;clear hfa hr;go_wp2_with fail
    exact N (v:= .tuple #[D E i,O M]) (by simp[results,results190]) rfl ⟨i,by omega,by rw[HZ.out],HI.out,BW'.out⟩
def bq(B:Nat)(l:List Mp):ab:=ex fun A=>ex fun c=>aa B #[.slice A l.length c] 211*bO (.slice A l.length c) l
theorem d9{B:Nat}{l:List Mp}{P:ab}{w:K}(h:J w (bq B l*P)):∃A c,J w (aa B #[.slice A l.length c] 211*(bO (.slice A l.length c) l*P)):=by
 unfold bq at h;obtain⟨A,h⟩:=aH.1 h;obtain⟨c,h⟩:=aH.1 h;exact⟨A,c,h.a1⟩
theorem fW{B c:Nat}{A:Option a5}{l:List Mp}{P:ab}{w:K}(h:J w (aa B #[.slice A l.length c] 211*(bO (.slice A l.length c) l*P))):J w (bq B l*P):=by
 unfold bq;exact aH.2 ⟨A,aH.2 ⟨c,h.a2⟩⟩
theorem nr(l:List Mp)(hl:Bk.Ok l)(p:Int)(hp:cL p)(B:Nat)(R:ab)(w:K)(h:J w (bq B l*R)):
  Z prog 175 #[.pointer (C (F B 0 z)),.int .i64 p] w
   (fun e w'=>∃i:Nat,i≤l.length∧e= .returned (.tuple #[D E i,O (Bk.find l p).isSome])∧(0≤p→i=Bk.pos l p)∧Below w.heap.size w w'):=by
 obtain⟨A,c,h⟩:=d9 h;have c0:=h.cell 0;have hlt:=h.lt;have HS:=H (qy l hl p hp A l.length c R w h.right);clear h;go_enter func175,ntmps175;go_wp2_with(refine HS.out.mono ?_;rintro e w' ⟨i,hi,rfl,hp,hb⟩)
 exact N (v:= .tuple #[D E i,O (Bk.find l p).isSome]) (by simp[results,results175]) rfl ⟨i,hi,rfl,hp,hb⟩
end Go.Proofs.YtmfheghbgihdmaaGreat
