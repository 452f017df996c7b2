/- Contract of core.Begin. -/
import Derived.Test.YtmfheghbgihdmaaGreatDoorTlSl
import Derived.Test.YtmfheghbgihdmaaGreatDoorInsM2
import Derived.Test.YtmfheghbgihdmaaGreatDoorTabF
import Derived.Test.YtmfheghbgihdmaaGreatDoorPage
import Derived.Laws.IdiomCopy
import Derived.Lib.AppendZerosOnto
import Derived.Test.YtmfheghbgihdmaaGreatDoorSep
import Derived.Deep.Cut
import Derived.Test.YtmfheghbgihdmaaGreatDoorWalkM2
import Derived.Test.YtmfheghbgihdmaaGreatDoorEntBits
namespace Go.Proofs.YtmfheghbgihdmaaGreatDoor
open Option renaming none→z,some→E
open Go.Value renaming int→C,bool→T
open Go.IntKind renaming i64→D
open Go.Lib renaming hid→F
open Go.Addr renaming mk→H
open List renaming length_append→I,getElem?_eq_getElem→Z
open Go.Proofs.YtmfheghbgihdmaaGreatDoor renaming Has→J,Ext→ap,over→au,mpZero→a9
open Go renaming bodyPost_ret→K,World→L,Calls→Y,Addr→ag,Value→ak
open Bool renaming false→M,true→U
open Go.Proofs.YtmfheghbgihdmaaGreatDoor.Ext renaming refl→N
open Go.Proofs.YtmfheghbgihdmaaGreatDoor.Bk renaming pos→O,find→af,before→ax,dropR→a5,dropC→a6,dropL→a7,Ok→bb,place→bd
open Go.World renaming size_alloc→ad
open Tryz
open Go.RowKit
set_option maxRecDepth 100000
theorem qF(b:Nat)(l:List Ln)(root:Int)(k:Ck)(a:Ac)(ha:aH a≠0)(R:ab)(W:L)(h:J W (cg b l root k*R)):
  Y prog 147 #[.pointer (E (H b 0 z)),.agg #[C D a.page,C D a.kind,T a.user]] W (cF (.tuple #[.agg #[C D 0,C D 0,C D 0],T M,C D (aH a)]) (cg b l root k*R) W):=by
 have hn:(aH ⟨a.page,a.kind,a.user⟩ !=0)=U:=by simpa using ha
 have h1:J _ (aa (W.heap.size+1) #[C D 0,C D 0,C D 0] 70*(aa W.heap.size #[C D a.page,C D a.kind,T a.user] 77*(cg b l root k*R))):=((h.new #[C D a.page,C D a.kind,T a.user] 77).new #[C D 0,C D 0,C D 0] 70).eq (by simp only[ad]);have x1:=((N W).alloc (.cells #[C D a.page,C D a.kind,T a.user] 77)).alloc (.cells #[C D 0,C D 0,C D 0] 70);have HC:=F (fun X=>eI a.page a.kind a.user X);clear h;go_enter func147,ntmps147;go_upto_region 1 with fail;generalize (W.alloc (.cells #[C D a.page,C D a.kind,T a.user] 77)).alloc (.cells #[C D 0,C D 0,C D 0] 70)=W1 at*
 generalize W.heap.size+1=X1 at*
 generalize W.heap.size=X0 at*
 obtain⟨a0,a1,a2⟩:=h1.right.cells3;have al:=h1.right.lt;go_wp2_with fail
 refine(HC.out _).mono ?_;rintro e w2 ⟨rfl,b2⟩;have h2:=h1.below b2;have x2:=x1.below b2;clear h1 x1 a0 a1 a2 al b2 HC;rw[show aH a=aH ⟨a.page,a.kind,a.user⟩ from rfl];generalize aH ⟨a.page,a.kind,a.user⟩=ca at*
 obtain⟨r0,r1,r2⟩:=h2.cells3;obtain⟨g0,g1,g2⟩:=h2.frees3;have rl:=h2.lt;go_wp2_with fail
 refine ay (fun wz=>J wz (aa X1 #[C D 0,C D 0,C D 0] 70*(aa X0 #[C D a.page,C D a.kind,T a.user] 77*(cg b l root k*R)))∧ap W wz) ⟨h2.set3 _ _ _,aj⟩ ?_;rintro wz ⟨hz,xz⟩;exact K (cP results147 rfl rfl rfl (cZ hz)) rfl ⟨rfl,hz.right.right,xz⟩
theorem pa(b:Nat)(l:List Ln)(root:Int)(k:Ck)(a:Ac)(ha:aH a=0)(hon:k.on=U)(R:ab)(W:L)(h:J W (cg b l root k*R)):
  Y prog 147 #[.pointer (E (H b 0 z)),.agg #[C D a.page,C D a.kind,T a.user]] W (cF (.tuple #[.agg #[C D 0,C D 0,C D 0],T M,C D 8]) (cg b l root k*R) W):=by
 have HO:=F (fun R X h=>vQ b l root k R X h);rw[hon] at HO;have ha':aH ⟨a.page,a.kind,a.user⟩=0:=ha;clear ha;have h1:J _ (aa (W.heap.size+1) #[C D 0,C D 0,C D 0] 70*(aa W.heap.size #[C D a.page,C D a.kind,T a.user] 77*(cg b l root k*R))):=((h.new #[C D a.page,C D a.kind,T a.user] 77).new #[C D 0,C D 0,C D 0] 70).eq (by simp only[ad]);have x1:=((N W).alloc (.cells #[C D a.page,C D a.kind,T a.user] 77)).alloc (.cells #[C D 0,C D 0,C D 0] 70);have HC:=F (fun X=>eI a.page a.kind a.user X);clear h;go_enter func147,ntmps147;go_upto_region 1 with fail;generalize (W.alloc (.cells #[C D a.page,C D a.kind,T a.user] 77)).alloc (.cells #[C D 0,C D 0,C D 0] 70)=W1 at*
 generalize W.heap.size+1=X1 at*
 generalize W.heap.size=X0 at*
 obtain⟨a0,a1,a2⟩:=h1.right.cells3;have al:=h1.right.lt;go_wp2_with fail
 refine(HC.out _).mono ?_;rintro e w2 ⟨rfl,b2⟩;have h2:=h1.below b2;have x2:=x1.below b2;clear h1 x1 a0 a1 a2 al b2 HC;rw[ha'];go_wp2_with fail
 refine(HO.out _ _ h2.right.right).mono ?_;rintro e w3 ⟨rfl,rfl⟩;obtain⟨r0,r1,r2⟩:=h2.cells3;obtain⟨g0,g1,g2⟩:=h2.frees3;have rl:=h2.lt;go_wp2_with fail
 refine ay (fun wz=>J wz (aa X1 #[C D 0,C D 0,C D 0] 70*(aa X0 #[C D a.page,C D a.kind,T a.user] 77*(cg b l root k*R)))∧ap W wz) ⟨h2.set3 _ _ _,aj⟩ ?_;rintro wz ⟨hz,xz⟩;exact K (cP results147 rfl rfl rfl (cZ hz)) rfl ⟨rfl,hz.right.right,xz⟩
def Ln.zero:Ln:=⟨Mp.zero,M⟩
def sj(x:Ln)(a:Ac):Bool:=x.dirty||(a.kind !=1|| !may x.m.rights a)
set_option maxHeartbeats 4000000 in
theorem jb(b:Nat)(l:List Ln)(root:Int)(k:Ck)(a:Ac)(ha:aH a=0)(hon:k.on=M)(hl:Tl.Ok l)(hp:bX a.page)(x:Ln)(ok hit:Bool)(an:An)(q:Bq)
  (hx:Hid (As (Tl.find l a.page)=x.val∧(Tl.find l a.page).isSome =ok)) (hh:Hid (hit=(ok&&sj x a))) (hAn:Hid (cv x.m a=an)) (hq:Hid (q=if hit=U then⟨an,U,0,k⟩ else⟨An.zero,M,0,k.begin root a⟩)) (R:ab) (W:L) (h:J W (cg b l root k*R)):
  Y prog 147 #[.pointer (E (H b 0 z)),.agg #[C D a.page,C D a.kind,T a.user]] W (cF (.tuple #[.agg #[C D q.an.fin,C D q.an.frame,C D q.an.rights],T q.fin,C D q.code]) (cg b l root q.c*R) W):=by
 have HO:=F (fun R X h=>vQ b l root k R X h);rw[hon] at HO;have ha':aH ⟨a.page,a.kind,a.user⟩=0:=ha;have HF:=F (fun t R X h=>At t l a.page R X hl.lok hp h);rw[hx.out.1,hx.out.2] at HF;have HB:=F (fun v R X h=>zv v root k a R X h);have hbc:nv k a=0:=by unfold nv;rw[if_neg (by rw[ha];simp),if_neg (by rw[hon];simp)]
 have hbs:oR k root a=k.begin root a:=by unfold oR;rw[if_pos hbc]
 rw[hbc,hbs] at HB;have HM:=F (fun X=>lr x.m.rights a.page a.kind a.user X);have HA:=F (fun X=>j6 x.m a.page a.kind a.user X);rw[show cv x.m ⟨a.page,a.kind,a.user⟩=an from hAn.out] at HA;clear ha hon hl hp hx hbc hbs hAn;have h1:J _ (aa (W.heap.size+1) #[C D 0,C D 0,C D 0] 70*(aa W.heap.size #[C D a.page,C D a.kind,T a.user] 77*(cg b l root k*R))):=((h.new #[C D a.page,C D a.kind,T a.user] 77).new #[C D 0,C D 0,C D 0] 70).eq (by simp only[ad]);have x1:=((N W).alloc (.cells #[C D a.page,C D a.kind,T a.user] 77)).alloc (.cells #[C D 0,C D 0,C D 0] 70);have HC:=F (fun X=>eI a.page a.kind a.user X);clear h;go_enter func147,ntmps147;go_upto_region 1 with fail;generalize (W.alloc (.cells #[C D a.page,C D a.kind,T a.user] 77)).alloc (.cells #[C D 0,C D 0,C D 0] 70)=W1 at*
 generalize W.heap.size+1=X1 at*
 generalize W.heap.size=X0 at*
 obtain⟨a0,a1,a2⟩:=h1.right.cells3;have al:=h1.right.lt;go_wp2_with fail
 refine(HC.out _).mono ?_;rintro e w2 ⟨rfl,b2⟩;have h2:=h1.below b2;have x2:=x1.below b2;clear h1 x1 a0 a1 a2 al b2 HC;rw[ha'];go_wp2_with fail
 refine(HO.out _ _ h2.right.right).mono ?_;rintro e w3 ⟨rfl,rfl⟩;obtain⟨t,v,h3⟩:=eW (h2.eq (show _=cg b l root k*(aa X1 #[C D 0,C D 0,C D 0] 70*(aa X0 #[C D a.page,C D a.kind,T a.user] 77*R)) by ac_rfl));have h4:J _ (bQ t l*(aa b #[.pointer (E (H t 0 z)),.pointer (E (H v 0 z))] 207*(aa X0 #[C D a.page,C D a.kind,T a.user] 77*(aa X1 #[C D 0,C D 0,C D 0] 70*(aO v root k*R))))):=h3.eq (by ac_rfl);have x4:=x2;clear HO ha' h2 h3 x2;obtain⟨c0,c1⟩:=h4.right.cells2;have cl:=h4.right.lt;obtain⟨a0,a1,a2⟩:=h4.right.right.cells3;have al:=h4.right.right.lt;have HK:=F (fun(w':L) (P Q:ab) (h:J w' (P*(aa b #[.pointer (E (H t 0 z)),.pointer (E (H v 0 z))] 207*(aa X0 #[C D a.page,C D a.kind,T a.user] 77*Q))))=>(by
  obtain⟨b0,_⟩:=h.right.cells2;obtain⟨m0,_⟩:=h.right.right.cells3;exact⟨b0,m0⟩:w'.cell? (H b 0 z)=E (.pointer (E (H t 0 z)))∧w'.cell? (H X0 0 z)=E (C D a.page)))
 go_upto_region 6 with fail;go_cut [8,9] from 19 to 29 (fun s8 s9 wx=>∃V:Nat,s8= .pointer (E (H V 0 z))∧s9=T ok∧J wx (aa V #[C D x.m.page,C D x.m.size,C D x.m.frame,C D x.m.rights,T x.dirty] 150*(bQ t l*(aa b #[.pointer (E (H t 0 z)),.pointer (E (H v 0 z))] 207*(aa X0 #[C D a.page,C D a.kind,T a.user] 77*(aa X1 #[C D 0,C D 0,C D 0] 70*(aO v root k*R))))))∧ap W wx)
 case first=>
  have h5:=h4.drew;have x5:=x4.drew;have z5:J (w2.alloc (.cells #[C D 0,C D 0,C D 0,C D 0,T M] 150)).drew (bQ t l*(aa b #[.pointer (E (H t 0 z)),.pointer (E (H v 0 z))] 207*(aa X0 #[C D a.page,C D a.kind,T a.user] 77*(aa w2.heap.size #[C D 0,C D 0,C D 0,C D 0,T M] 150*(aa X1 #[C D 0,C D 0,C D 0] 70*(aO v root k*R)))))):=(h4.new #[C D 0,C D 0,C D 0,C D 0,T M] 150).drew.eq (by ac_rfl);have y5:=(x4.alloc (.cells #[C D 0,C D 0,C D 0,C D 0,T M] 150)).drew;go_region_held3 (fun w'=>w'.cell? (H b 0 z)=E (.pointer (E (H t 0 z)))∧w'.cell? (H X0 0 z)=E (C D a.page)) (first|(with_reducible exact HK.out _ _ _ h5)|(with_reducible exact HK.out _ _ _ z5)|(with_reducible exact HK.out _ _ _ hL)|(with_reducible exact HK.out _ _ _ (hL.alloc _))|(with_reducible exact HK.out _ _ _ gL)|(with_reducible exact HK.out _ _ _ gL.right)|(with_reducible exact HK.out _ _ _ (gL.set5 _ _ _ _ _).right)|go_keep) (first|(go_at_call 180;first|((with_reducible refine(HF.out _ _ _ h5).mono ?_);rintro e w5 ⟨rfl,b5⟩;have hL:=h5.below b5;have xL:=x5.below b5)|((with_reducible refine(HF.out _ _ _ z5).mono ?_);rintro e w5 ⟨rfl,b5⟩;have gL:J w5 (aa w2.heap.size #[C D 0,C D 0,C D 0,C D 0,T M] 150*(bQ t l*(aa b #[.pointer (E (H t 0 z)),.pointer (E (H v 0 z))] 207*(aa X0 #[C D a.page,C D a.kind,T a.user] 77*(aa X1 #[C D 0,C D 0,C D 0] 70*(aO v root k*R)))))):=(z5.below b5).eq (by ac_rfl);have yL:=y5.below b5;obtain⟨z0,z1,z2,z3,z4⟩:=gL.cells5;obtain⟨y0,y1,y2,y3,y4⟩:=gL.frees5;have zl:=gL.lt)))
  all_goals
   go_wp2_with fail
   go_meet
   case rel=>first|exact⟨_,rfl,rfl,hL.new #[C D x.m.page,C D x.m.size,C D x.m.frame,C D x.m.rights,T x.dirty] 150,xL.alloc _⟩|exact⟨_,rfl,rfl,gL.set5 _ _ _ _ _,((((yL.set _ _).set _ _).set _ _).set _ _).set _ _⟩
 case rest=>
  clear h4 x4 c0 c1 cl a0 a1 a2 al HK HF;obtain⟨V,rfl,rfl,h5,x5⟩:=hcut;obtain⟨v0,v1,v2,v3,v4⟩:=h5.cells5;have vl:=h5.lt;obtain⟨c0,c1⟩:=h5.right.right.cells2;have cl:=h5.right.right.lt;obtain⟨a0,a1,a2⟩:=h5.r3.cells3;have al:=h5.r3.lt;go_upto_region 7 with fail;go_cut [46] from 29 to 46 (fun s46 wx=>s46=T hit∧J wx (aa V #[C D x.m.page,C D x.m.size,C D x.m.frame,C D x.m.rights,T x.dirty] 150*(bQ t l*(aa b #[.pointer (E (H t 0 z)),.pointer (E (H v 0 z))] 207*(aa X0 #[C D a.page,C D a.kind,T a.user] 77*(aa X1 #[C D 0,C D 0,C D 0] 70*(aO v root k*R))))))∧ap W wx)
  case first=>
   replace hh:=hh.out;unfold sj at hh;cases ok with
   |false=>
    replace hh:hit=M:=hh;subst hh;go_wp2_with fail
    go_meet
    case rel=>exact⟨rfl,h5,x5⟩
   |true=>
    cases hd:x.dirty with
    |true=>
     rw[hd] at hh v4;clear hd;replace hh:hit=U:=hh;subst hh;go_wp2_with fail
     go_meet
     case rel=>exact⟨rfl,h5,x5⟩
    |false=>
     rw[hd] at hh v4;clear hd;by_cases hk:a.kind=1
     ·have hk1:(a.kind !=1)=M:=by simpa using hk
      rw[hk1] at hh;replace hh:hit= !may x.m.rights ⟨a.page,a.kind,a.user⟩:=hh;generalize may x.m.rights ⟨a.page,a.kind,a.user⟩=my at*
      subst hh;clear hk;go_wp2_with fail
      refine(HM.out _).mono ?_;rintro e w7 ⟨rfl,b7⟩;have h7:=h5.below b7;have x7:=x5.below b7;cases my
      all_goals
       go_wp2_with fail
       go_meet
       case rel=>exact⟨rfl,h7,x7⟩
     ·have hk1:(a.kind !=1)=U:=by simpa using hk
      rw[hk1] at hh;replace hh:hit=U:=hh;subst hh;clear hk;go_wp2_with fail
      go_meet
      case rel=>exact⟨rfl,h5,x5⟩
  case rest=>
   clear h5 x5 v0 v1 v2 v3 v4 vl c0 c1 cl a0 a1 a2 al hh HM;obtain⟨rfl,h5,x5⟩:=hcut;obtain⟨v0,v1,v2,v3,v4⟩:=h5.cells5;have vl:=h5.lt;obtain⟨c0,c1⟩:=h5.right.right.cells2;have cl:=h5.right.right.lt;obtain⟨a0,a1,a2⟩:=h5.r3.cells3;have al:=h5.r3.lt;have hq:=hq.out;cases hit with
   |true=>
    rw[if_pos rfl] at hq;subst hq;try dsimp only
    go_wp2_with fail
    refine(HA.out _).mono ?_;rintro e w7 ⟨rfl,b7⟩;have h7:J w7 (aa X1 #[C D 0,C D 0,C D 0] 70*(aa V #[C D x.m.page,C D x.m.size,C D x.m.frame,C D x.m.rights,T x.dirty] 150*(bQ t l*(aa b #[.pointer (E (H t 0 z)),.pointer (E (H v 0 z))] 207*(aa X0 #[C D a.page,C D a.kind,T a.user] 77*(aO v root k*R)))))):=(h5.below b7).eq (by ac_rfl);have x7:=x5.below b7;obtain⟨r0,r1,r2⟩:=h7.cells3;obtain⟨g0,g1,g2⟩:=h7.frees3;have rl:=h7.lt;go_wp2_with fail
    refine ay (fun wz=>J wz (aa X1 #[C D an.fin,C D an.frame,C D an.rights] 70*(aa V #[C D x.m.page,C D x.m.size,C D x.m.frame,C D x.m.rights,T x.dirty] 150*(bQ t l*(aa b #[.pointer (E (H t 0 z)),.pointer (E (H v 0 z))] 207*(aa X0 #[C D a.page,C D a.kind,T a.user] 77*(aO v root k*R))))))∧ap W wz) ⟨h7.set3 _ _ _,aj⟩ ?_;rintro wz ⟨hz,xz⟩;exact K (cP results147 rfl rfl rfl (cZ hz)) rfl ⟨rfl,(ei (hz.right.right.eq (show _=aa b #[.pointer (E (H t 0 z)),.pointer (E (H v 0 z))] 207*(bQ t l*(aO v root k*(aa X0 #[C D a.page,C D a.kind,T a.user] 77*R))) by ac_rfl))).p2.right,xz⟩
   |false=>
    rw[if_neg (by simp)] at hq;subst hq;try dsimp only[An.zero]
    have h6:J wc.drew (aO v root k*(aa b #[.pointer (E (H t 0 z)),.pointer (E (H v 0 z))] 207*(aa X0 #[C D a.page,C D a.kind,T a.user] 77*(aa X1 #[C D 0,C D 0,C D 0] 70*(aa V #[C D x.m.page,C D x.m.size,C D x.m.frame,C D x.m.rights,T x.dirty] 150*(bQ t l*R)))))):=h5.drew.eq (by ac_rfl);have x6:=x5.drew;have h6x:J wc (aa X1 #[C D 0,C D 0,C D 0] 70*(aO v root k*(aa b #[.pointer (E (H t 0 z)),.pointer (E (H v 0 z))] 207*(aa X0 #[C D a.page,C D a.kind,T a.user] 77*(aa V #[C D x.m.page,C D x.m.size,C D x.m.frame,C D x.m.rights,T x.dirty] 150*(bQ t l*R)))))):=h5.eq (by ac_rfl);obtain⟨r0,r1,r2⟩:=h6x.cells3;obtain⟨g0,g1,g2⟩:=h6x.frees3;have rl:=h6x.lt;have h6s:=h6x.set3 (C D 0) (C D 0) (C D 0);have h6d:J _ (aO v root k*(aa b #[.pointer (E (H t 0 z)),.pointer (E (H v 0 z))] 207*(aa X0 #[C D a.page,C D a.kind,T a.user] 77*(aa X1 #[C D 0,C D 0,C D 0] 70*(aa V #[C D x.m.page,C D x.m.size,C D x.m.frame,C D x.m.rights,T x.dirty] 150*(bQ t l*R)))))):=h6s.drew.eq (by ac_rfl);have x6d:=(((x5.set (H X1 0 z) (C D 0)).set (H X1 1 z) (C D 0)).set (H X1 2 z) (C D 0)).drew;have HK:=F (fun(w':L) (P Q:ab) (h:J w' (P*(aa b #[.pointer (E (H t 0 z)),.pointer (E (H v 0 z))] 207*(aa X0 #[C D a.page,C D a.kind,T a.user] 77*Q))))=>(by
     obtain⟨_,b0⟩:=h.right.cells2;obtain⟨m0,m1,m2⟩:=h.right.right.cells3;exact⟨b0,m0,m1,m2⟩:w'.cell? (H b 1 z)=E (.pointer (E (H v 0 z)))∧w'.cell? (H X0 0 z)=E (C D a.page)∧w'.cell? (H X0 1 z)=E (C D a.kind)∧w'.cell? (H X0 2 z)=E (T a.user)))
    have HKS:=F (fun(w':L) (P Q S:ab) (h:J w' (P*(Q*(S*(aa X1 #[C D 0,C D 0,C D 0] 70*(aa V #[C D x.m.page,C D x.m.size,C D x.m.frame,C D x.m.rights,T x.dirty] 150*(bQ t l*R)))))))=>(by
     have h7:J w' (aa X1 #[C D 0,C D 0,C D 0] 70*(P*(Q*(S*(aa V #[C D x.m.page,C D x.m.size,C D x.m.frame,C D x.m.rights,T x.dirty] 150*(bQ t l*R)))))):=h.eq (by ac_rfl);exact(h7.set3 (C D 0) (C D 0) (C D 0)).eq (by ac_rfl):J (((w'.setCell (H X1 0 z) (C D 0)).setCell (H X1 1 z) (C D 0)).setCell (H X1 2 z) (C D 0)) (P*(Q*(S*(aa X1 #[C D 0,C D 0,C D 0] 70*(aa V #[C D x.m.page,C D x.m.size,C D x.m.frame,C D x.m.rights,T x.dirty] 150*(bQ t l*R))))))))
    clear h5 x5 HA;go_upto_region 9 with fail;go_region_held3 (fun w'=>w'.cell? (H b 1 z)=E (.pointer (E (H v 0 z)))∧w'.cell? (H X0 0 z)=E (C D a.page)∧w'.cell? (H X0 1 z)=E (C D a.kind)∧w'.cell? (H X0 2 z)=E (T a.user)) (first|(with_reducible exact HK.out _ _ _ h6)|(with_reducible exact HK.out _ _ _ h6d)|(with_reducible exact HK.out _ _ _ hL)|(with_reducible exact HK.out _ _ _ sL)|go_keep) (first|(go_at_call 183;first|((with_reducible refine(HB.out _ _ _ h6).mono ?_);rintro e w7 ⟨rfl,hL,xL⟩;obtain⟨s0,s1,s2⟩:=hL.r3.cells3;obtain⟨t0,t1,t2⟩:=hL.r3.frees3;have sl:=hL.r3.lt;have sL:=HKS.out _ _ _ _ hL)|((with_reducible refine(HB.out _ _ _ h6d).mono ?_);rintro e w7 ⟨rfl,hL,xL⟩;obtain⟨s0,s1,s2⟩:=hL.r3.cells3;obtain⟨t0,t1,t2⟩:=hL.r3.frees3;have sl:=hL.r3.lt;have sL:=HKS.out _ _ _ _ hL)))
    all_goals
     go_wp2_with fail
     refine ay (fun wz=>J wz (aa X1 #[C D 0,C D 0,C D 0] 70*(aO v root (k.begin root a)*(aa b #[.pointer (E (H t 0 z)),.pointer (E (H v 0 z))] 207*(aa X0 #[C D a.page,C D a.kind,T a.user] 77*(aa V #[C D x.m.page,C D x.m.size,C D x.m.frame,C D x.m.rights,T x.dirty] 150*(bQ t l*R))))))∧ap W wz) ⟨by first|exact sL.eq (by ac_rfl)|exact hL.eq (by ac_rfl),aj⟩ ?_;rintro wz ⟨hz,xz⟩;exact K (cP results147 rfl rfl rfl (cZ hz)) rfl ⟨rfl,(ei (hz.right.eq (show _=aa b #[.pointer (E (H t 0 z)),.pointer (E (H v 0 z))] 207*(bQ t l*(aO v root (k.begin root a)*(aa X0 #[C D a.page,C D a.kind,T a.user] 77*(aa V #[C D x.m.page,C D x.m.size,C D x.m.frame,C D x.m.rights,T x.dirty] 150*R)))) by ac_rfl))).p2.right.p2.right,xz⟩
theorem yy(b:Nat)(l:List Ln)(root:Int)(k:Ck)(a:Ac)(hl:Tl.Ok l)(hp:bX a.page)(R:ab)(W:L)(h:J W (cg b l root k*R)):
  Y prog 147 #[.pointer (E (H b 0 z)),.agg #[C D a.page,C D a.kind,T a.user]] W
   (cF (.tuple #[.agg #[C D (dv l root k a).an.fin,C D (dv l root k a).an.frame,C D (dv l root k a).an.rights],T (dv l root k a).fin,C D (dv l root k a).code]) (cg b l root (dv l root k a).c *R) W):=by
 by_cases ha:aH a=0
 ·cases hon:k.on with
  |true=>
   have e:dv l root k a=⟨An.zero,M,8,k⟩:=by unfold dv;rw[if_neg (by rw[ha];simp),if_pos hon]
   rw[e];exact pa b l root k a ha hon R W h
  |false=>
   have e:dv l root k a=match mS l a with|some r=>⟨r,U,0,k⟩|none=>⟨An.zero,M,0,k.begin root a⟩:=by unfold dv;rw[if_neg (by rw[ha];simp),if_neg (by rw[hon];simp)];rfl
   cases hf:Tl.find l a.page with
   |none=>
    have e2:mS l a=z:=by unfold mS;rw[hf]
    rw[e2] at e;exact jb b l root k a ha hon hl hp Ln.zero M M (cv Ln.zero.m a) _ (F ⟨by rw[hf];rfl,by rw[hf];rfl⟩) (F rfl) (F rfl) (F e) R W h
   |some x=>
    cases hu:sj x a with
    |true=>
     have e2:mS l a=E (cv x.m a):=by
      unfold mS;rw[hf];refine if_pos ?_;unfold sj at hu;simpa using hu
     rw[e2] at e;exact jb b l root k a ha hon hl hp x U U (cv x.m a) _ (F ⟨by rw[hf];rfl,by rw[hf];rfl⟩) (F (by rw[hu];rfl)) (F rfl) (F e) R W h
    |false=>
     have e2:mS l a=z:=by
      unfold mS;rw[hf];refine if_neg fun h=> ?_;have:sj x a=U:=by unfold sj;simpa using h
      rw[this] at hu;cases hu
     rw[e2] at e;exact jb b l root k a ha hon hl hp x U M (cv x.m a) _ (F ⟨by rw[hf];rfl,by rw[hf];rfl⟩) (F (by rw[hu];rfl)) (F rfl) (F e) R W h
 ·have e:dv l root k a=⟨An.zero,M,aH a,k⟩:=by unfold dv;rw[if_pos ha]
  rw[e];exact qF b l root k a ha R W h
def jK(b:Nat):ak:= .pointer (E (H b 0 z))
def bT(v:ak)(l:List Nat):ab:=bt 194 1 v l.length (l.map jK)
theorem tU{w:L}{R:ab}{A:Option ag}{n c:Nat}{l:List Nat}(h:J w (bT (.slice A n c) l*R)):n=l.length:=by
 rcases(Has.rowCases (e:=194) (size:=1) h) with ⟨hv,h0,_⟩|⟨g,cap,cur,hv,_⟩
 ·injection hv with a b
  omega
 ·injection hv
theorem gW{w:L}{R:ab}{A:Option ag}{n c:Nat}{l:List Nat}(h:J w (bT (.slice A n c) l*R)){k p:Nat}(hk:l[k]? =E p):
  ∃b,A=E (H b 0 z)∧b<w.heap.size∧w.cell? (H b k z)=E (.pointer (E (H p 0 z))):=by
 obtain rfl:=tU h;obtain⟨b,e,hb,hc,_⟩:=Has.rowGet (e:=194) (size:=1) h (i:=k) (u:=jK p) (by simp[hk]);exact⟨b,e,hb,hc⟩
theorem yB:kL prog 194 (.pointer z) 1 8:=⟨by kernel_rfl,rfl,by omega⟩
def aL:List Nat→List Cr→ab
 |p::ps,c::cs=>cg p c.l 0 c.k*aL ps cs
 |_,_=>eZ True
theorem jc:∀{ps:List Nat} {cs:List Cr} {k p:Nat} {c:Cr},ps[k]? =E p→cs[k]? =E c→∃Q,aL ps cs=cg p c.l 0 c.k*Q∧∀c',aL ps (cs.set k c')=cg p c'.l 0 c'.k*Q
 | [],_,_,_,_,h,_=>by simp at h
 |_::_,[],_,_,_,_,h=>by simp at h
 |q::ps,d::cs,0,p,c,h1,h2=>by
  simp at h1 h2;subst h1;subst h2;exact⟨aL ps cs,rfl,fun c'=>rfl⟩
 |q::ps,d::cs,k+1,p,c,h1,h2=>by
  simp at h1 h2;obtain⟨Q,e1,e2⟩:=jc h1 h2;refine⟨cg q d.l 0 d.k*Q,?_,fun c'=> ?_⟩
  ·show cg q d.l 0 d.k*aL ps cs=_
   rw[e1];ac_rfl
  ·show cg q d.l 0 d.k*aL ps (cs.set k c')=_
   rw[e2];ac_rfl
theorem lO:∀(ps:List Nat) (cs:List Cr) (p:Nat) (c:Cr),ps.length=cs.length→aL (ps++[p]) (cs++[c])=cg p c.l 0 c.k*aL ps cs
 | [],[],p,c,_=>rfl
 | [],_::_,_,_,h=>by simp at h
 |_::_,[],_,_,h=>by simp at h
 |q::ps,d::cs,p,c,h=>by
  show cg q d.l 0 d.k*aL (ps++[p]) (cs++[c])=_;rw[lO ps cs p c (by simpa using h)];show _=cg p c.l 0 c.k*(cg q d.l 0 d.k*aL ps cs);ac_rfl
structure Sl where
 f:Nat
 sh:Nat
 A:Option ag
 c:Nat
 ps:List Nat
 G:Option ag
 d:Nat
def bq(b:Nat)(σ:Sc)(y:Sl)(R:ab):ab:=
 aa b #[.pointer (E (H y.f 0 z)),C D 0,.slice y.A y.ps.length y.c,.pointer (E (H y.sh 0 z)),T σ.busy,.slice y.G σ.gone.length y.d] 193*(bT (.slice y.A y.ps.length y.c) y.ps*(aq (.slice y.G σ.gone.length y.d) σ.gone*
  (aD y.sh σ.told σ.wait*(aL y.ps σ.cs*(cO y.f σ.s*R)))))
def ah(b:Nat)(σ:Sc):ab:=ex fun y=>eZ (y.ps.length=σ.cs.length)*bq b σ y (eZ True)
section
variable {w:L} {b:Nat} {σ:Sc} {R:ab}
theorem cj(h:J w (ah b σ*R)):∃y,y.ps.length=σ.cs.length∧J w (bq b σ y R):=by
 unfold ah at h;obtain⟨y,h⟩:=aw.1 h;rw[aN] at h;obtain⟨hy,h⟩:=bZ.1 h;refine⟨y,hy,?_⟩;have h2:J w (eZ True*bq b σ y R):=h.eq (by unfold bq;ac_rfl);exact h2.right
theorem cY{y:Sl}(hy:y.ps.length=σ.cs.length)(h:J w (bq b σ y R)):J w (ah b σ*R):=by
 unfold ah;refine aw.2 ⟨y,?_⟩;rw[aN];refine bZ.2 ⟨hy,?_⟩;have h2:J w (eZ True*bq b σ y R):=bZ.2 ⟨trivial,h⟩;exact h2.eq (by unfold bq;ac_rfl)
end
theorem Agree.stepC{s s':Ms}(h:Agree s' s)(r:Int)(k:Ck):(Go.Proofs.YtmfheghbgihdmaaGreatDoor.be s' r k).c =(Go.Proofs.YtmfheghbgihdmaaGreatDoor.be s r k).c ∧(Go.Proofs.YtmfheghbgihdmaaGreatDoor.be s' r k).r =(Go.Proofs.YtmfheghbgihdmaaGreatDoor.be s r k).r ∧(Go.Proofs.YtmfheghbgihdmaaGreatDoor.be s' r k).code =(Go.Proofs.YtmfheghbgihdmaaGreatDoor.be s r k).code ∧
  Agree (Go.Proofs.YtmfheghbgihdmaaGreatDoor.be s' r k).s (Go.Proofs.YtmfheghbgihdmaaGreatDoor.be s r k).s :=by
 unfold Go.Proofs.YtmfheghbgihdmaaGreatDoor.be;by_cases h1:k.on=M
 ·rw[if_pos h1,if_pos h1];exact⟨rfl,rfl,rfl,h⟩
 rw[if_neg h1,if_neg h1,h.has];by_cases h2:s.has k.t=M
 ·rw[if_pos h2,if_pos h2];exact⟨rfl,rfl,rfl,h⟩
 rw[if_neg h2,if_neg h2];have ew:k.word s'=k.word s:=h.word (by rw[h.has];simpa using h2) _;rw[ew];by_cases h3:k.mark=U∧k.word s≠k.w
 ·rw[if_pos h3,if_pos h3];exact⟨rfl,rfl,rfl,h⟩
 rw[if_neg h3,if_neg h3];by_cases h4:bv (k.word s) k.level≠0
 ·rw[if_pos h4,if_pos h4];exact⟨rfl,rfl,rfl,h⟩
 rw[if_neg h4,if_neg h4];by_cases h5:(aC (k.word s) k.level).there =M
 ·rw[if_pos h5,if_pos h5];exact⟨rfl,rfl,rfl,h⟩
 rw[if_neg h5,if_neg h5];by_cases h6:(aC (k.word s) k.level).leaf =M
 ·rw[if_pos h6,if_pos h6];exact⟨rfl,rfl,rfl,h⟩
 rw[if_neg h6,if_neg h6];by_cases h7:may (aC (k.word s) k.level).rights k.a=M
 ·rw[if_pos h7,if_pos h7];exact⟨rfl,rfl,rfl,h⟩
 rw[if_neg h7,if_neg h7];by_cases h8:k.mark=U
 ·rw[if_pos h8,if_pos h8];exact⟨rfl,rfl,rfl,h.setW _ _ _⟩
 rw[if_neg h8,if_neg h8];by_cases h9:fI (aC (k.word s) k.level) k.a=U
 ·rw[if_pos h9,if_pos h9];exact⟨rfl,rfl,rfl,h⟩
 rw[if_neg h9,if_neg h9];exact⟨rfl,rfl,rfl,h⟩
theorem zD(b f:Nat)(c:Cr)(s:Ms)(hc:Tl.Ok c.l∧c.k.Ok)(R:ab)(W:L)(h:J W (cg b c.l 0 c.k*(cO f s*R))):
  Y prog 148 #[.pointer (E (H b 0 z)),.pointer (E (H f 0 z))] W
   (cF (.tuple #[.agg #[C D (be s 0 c.k).r.an.fin,C D (be s 0 c.k).r.an.frame,C D (be s 0 c.k).r.an.rights],T (be s 0 c.k).r.fin,C D (be s 0 c.k).code]) (cg b (iz c.l (be s 0 c.k).r) 0 (be s 0 c.k).c *(cO f (be s 0 c.k).s *R)) W):=by
 obtain⟨s',ho,ha,h'⟩:=eF h.p2;obtain⟨a1,a2,a3,a4⟩:=ha.stepC 0 c.k;refine(zq b f c.l 0 c.k s' hc.1 ho hc.2 R W h'.p2).mono ?_;rintro e w' ⟨he,h2,x2⟩;rw[a2,a3] at he;rw[a1,a2] at h2;exact⟨he,(fo h2.p2 (vZ ho 0 c.k) a4).p2,x2⟩
theorem fM{P:Program}(w:L)(dT sT ty elem:TypeId)(b o dLen dCap:Nat)(a:ag)(sLen sCap size k:Nat)(cs:List ak)
  (hu:P.underlying dT=E (.slice elem)) (hs:(P.info? elem).map (·.size)=E size) (hk:k=Nat.min sLen dLen) (hn:cs.length=k*size)
  (hsrc:∀j v,cs[j]? =E v→w.cell? (a.add j)=E v) (hc:∀j,j<cs.length→(w.cell? ⟨b,o+j,z⟩).isSome =U) (hf:∀j,j<cs.length→w.frozen? ⟨b,o+j,z⟩=M) (h1:∀v∈cs,v.oneCell'=U):
  (Builtin.copy_ #[dT,sT] ty #[.slice (E (H b o z)) dLen dCap,.slice (E a) sLen sCap]).run P w= .ok (goInt k) (w.setCells b o cs):=by
 have hl:=run_loadCells_list (P:=P) w a cs hsrc;have hst:=run_storeCells_cells (P:=P) b o cs 0 w (by simpa using hc) (by simpa using hf) h1;subst hk;cases hq:P.info? elem with
 |none=>simp[hq] at hs
 |some i=>
  have hi:i.size=size:=by simpa [hq] using hs
  rw[hn] at hl;simp[Builtin.copy_,run_underlying hu,Builtin.lenOf,Builtin.firstCells,sizeOf,typeInfo,hq,hi,hl,hst]
section
variable {w:L} {R:ab} {e size:Nat} {n c:Nat} {xs ys:List ak} {g:Nat}
theorem Has.rowMore(h:J w (bt e size (.slice (E (H g 0 z)) n c) n xs*R))(m:Nat)(hm:n+m≤c):
  ∃ys:List ak,ys.length=m*size∧J w (bt e size (.slice (E (H g 0 z)) (n+m) c) (n+m) (xs++ys)*R):=by
 have hl:=h.rowLens.1;rcases h.rowCases with ⟨hv,_⟩|⟨g',cap,cur,hv,h1,h2,h3,h4,hb⟩
 ·injection hv with a;cases a
 ·injection hv with e1 e2 e3
  injection e1 with e1
  injection e1 with e1
  subst e1;subst e3;have e4:(n+m)*size=n*size+m*size:=Nat.add_mul _ _ _;have e5:(n+m)*size≤c*size:=Nat.mul_le_mul_right _ hm;refine⟨(cur.toList.drop (n*size)).take (m*size),by rw[List.length_take,List.length_drop,Array.length_toList];omega,?_⟩;refine hb.rowOf ?_ hm h2 h3 ?_
  ·rw[I,hl,List.length_take,List.length_drop,Array.length_toList];omega
  ·rw[←h4,e4,List.take_add]
theorem Has.rowShift(h:J w (bt e size (.slice (E (H g 0 z)) n c) n xs*R)){i m:Nat}(hi:i≤n)(hm:n+m≤c)(zs:List ak)(hz:zs.length=m*size):
  J ((w.setCells g ((i+m)*size) (xs.drop (i*size))).setCells g (i*size) zs) (bt e size (.slice (E (H g 0 z)) (n+m) c) (n+m) (xs.take (i*size)++(zs++xs.drop (i*size)))*R):=by
 have hl:=h.rowLens.1;obtain⟨ys,hy,h1⟩:=h.rowMore m hm;have e1:i*size≤n*size:=Nat.mul_le_mul_right _ hi;have e2:(n+m)*size=n*size+m*size:=Nat.add_mul _ _ _;have e3:(i+m)*size=i*size+m*size:=Nat.add_mul _ _ _;have hd:(xs.drop (i*size)).length =n*size - i*size:=by rw[List.length_drop,hl]
 have h2:=Has.rowSetCells (xs.drop (i*size)) ((i+m)*size) h1 (by rw[hd];omega);have h3:=Has.rowSetCells zs (i*size) h2 (by omega);refine h3.eq (congrArg (fun t=>bt e size (.slice (E (H g 0 z)) (n+m) c) (n+m) t*R) ?_);have d1:(xs++ys).drop ((i+m)*size+(xs.drop (i*size)).length)=[]:=List.drop_eq_nil_of_le (by rw[I,hd,hl,hy];omega);rw[d1,List.append_nil];have t1:((xs++ys).take ((i+m)*size)++xs.drop (i*size)).take (i*size)=xs.take (i*size):=by
  rw[List.take_append_of_le_length (by rw[List.length_take,I,hl,hy];omega),List.take_take,Nat.min_eq_left (by omega),List.take_append_of_le_length (by omega)]
 have t2:((xs++ys).take ((i+m)*size)++xs.drop (i*size)).drop (i*size+zs.length)=xs.drop (i*size):=by
  have hlen:((xs++ys).take ((i+m)*size)).length =i*size+zs.length:=by rw[List.length_take,I,hl,hy,hz];omega
  rw[←hlen,List.drop_left]
 rw[t1,t2]
theorem Has.rowGapD{k:Nat}(h:J w (bt e size (.slice (E (H g 0 z)) n c) n (xs++ys)*R))(hx:xs.length=k*size)(zs ts:List ak)(hzt:ys.length=zs.length+ts.length):
  J (((w.setCells g (k*size) zs).drew).setCells g (k*size+zs.length) ts) (bt e size (.slice (E (H g 0 z)) n c) n (xs++(zs++ts))*R):=by
 have hl:=h.rowLens.1;rw[I] at hl;have h2:=Has.rowSetCells zs (k*size) h (by omega);have h3:=Has.rowSetCells ts (k*size+zs.length) h2.drew (by omega);refine h3.eq (congrArg (fun t=>bt e size (.slice (E (H g 0 z)) n c) n t*R) ?_);have t1:(xs++ys).take (k*size)=xs:=by rw[List.take_append_of_le_length (by omega),List.take_of_length_le (by omega)]
 rw[t1];have t2:(xs++(zs++(xs++ys).drop (k*size+zs.length))).take (k*size+zs.length)=xs++zs:=by
  rw[←List.append_assoc,List.take_append_of_le_length (by rw[I];omega),List.take_of_length_le (by rw[I];omega)]
 have t3:(xs++(zs++(xs++ys).drop (k*size+zs.length))).drop (k*size+zs.length+ts.length)=[]:=
  List.drop_eq_nil_of_le (by rw[I,I,List.length_drop,I];omega)
 rw[t2,t3,List.append_nil,List.append_assoc]
end
theorem Ext.cells{w0:L}(b:Nat):∀(vs:List ak) (o:Nat) {w:L},ap w0 w→ap w0 (w.setCells b o vs)
 | [],_,_,h=>h
 |_::r,o,_,h=>Ext.cells b r (o+1) (h.set _ _)
theorem wu:∀w,(zeroValue 75).run prog w= .ok a9 w:=Tryz.zeroValue75
theorem fP{w:L}{R:ab}{A:Option ag}{n c:Nat}{l:List Mp}(h:J w (cz (.slice A n c) l*R)):n≤9223372036854775807∧n≤c:=by
 obtain rfl:=dt h;refine⟨gH h,?_⟩;rcases Has.rowCases (e:=75) (size:=4) h with ⟨hv,h0,_⟩|⟨g,cap,cur,hv,h1,_⟩
 ·injection hv with a b
  omega
 ·injection hv with a b d
  omega
theorem om:(prog.info? 75).map (fun i=>(i.zero,i.size,i.bytes))=E (E a9,4,32):=by kernel_rfl
theorem ip{w:L}{R:ab}{g n c:Nat}{l:List Mp}(h:J w (cz (.slice (E (H g 0 z)) n c) l*R))(k:Nat):
  ∀j u,((aP l).drop (k*4))[j]? =E u→w.cell? ⟨g,k*4+j,z⟩=E u:=by
 intro j u hu;rw[List.getElem?_drop] at hu;obtain rfl:=dt h;obtain⟨b,hb,_,hc,_⟩:=Has.rowGet (e:=75) (size:=4) h hu;injection hb with hb
 injection hb with hb
 subst hb;exact hc
theorem sk(l:List Mp)(i j g n c:Nat)(R:ab)(w:L)(hij:i<j)(hj:j≤n)(h:J w (cz (.slice (E (H g 0 z)) n c) l*R)):
  Y prog 196 #[.slice (E (H g 0 z)) n c,.int .i64 i,.int .i64 j] w
   (cF (.slice (E (H g 0 z)) (i+(n - j)) c) (cz (.slice (E (H g 0 z)) (i+(n - j)) c) (l.take i++l.drop j)*R) w):=by
 obtain rfl:=dt h;obtain⟨hbig,hnc⟩:=fP h;obtain⟨i0,hi0,hz0,hz1,hz2⟩:=info_parts om;obtain⟨A,hA,hnews⟩:∃A:ag,(if c=j then E ((H g 0 z):ag) else E ⟨g,j*4,z⟩)=E A∧Hid (∀t u,((aP l).drop (j*4))[t]? =E u→w.drew.cell? (A.add t)=E u):=by
  by_cases hc:c=j
  ·refine⟨(H g 0 z),by simp[hc],fun t u hu=> ?_⟩
   rw[List.drop_eq_nil_of_le (by rw[de];omega)] at hu;simp at hu
  ·refine⟨⟨g,j*4,z⟩,by simp[hc],fun t u hu=> ?_⟩
   rw[Addr.add_lit];exact ip h j t u hu
 have s1:Hid (((aP l).drop (j*4)).length =(l.length - j)*4):=by rw[List.length_drop,de];show _=_;omega
 have s2:Hid (∀u∈(aP l).drop (j*4),u.oneCell'=U):=fun u hu=>iN l u (List.mem_of_mem_drop hu);have s3:Hid (∀t,t< ((aP l).drop (j*4)).length →(w.drew.cell? ⟨g,0+i*4+t,z⟩).isSome =U∧w.drew.frozen? ⟨g,0+i*4+t,z⟩=M):=by
  intro t ht;rw[s1.out] at ht;obtain⟨b,hb,_,hc,hf⟩:=Has.rowGet (e:=75) (size:=4) h (i:=i*4+t) (u:=(aP l)[i*4+t]'(by rw[de];omega)) (Z _);injection hb with hb
  injection hb with hb
  subst hb;rw[Nat.zero_add];exact⟨by show(w.cell? _).isSome =U;rw[hc];rfl,hf⟩
 have hic:i≤c:=by omega
 have hne:((i:Int)==(j:Int))=M:=beq_eq_false_iff_ne.2 (by omega);go_enter func196,ntmps196;go_wp2_with fail
 go_region_law (refine step_append_room rfl (.tmp 22) (.tmp 25) 98 rfl 75 i0 4 underlying98 hi0 hz1 g 0 i c (by simp[Act.eval,Act.put]) A (l.length - j) (c - j) ((aP l).drop (j*4)) (by simp[Act.eval,Act.put]) s1.out hnews.out s2.out (by omega) s3.out ?_)
 have hn':i+(l.length - j)<l.length:=by omega
 have h1:=Has.rowSetCells (e:=75) (size:=4) ((aP l).drop (j*4)) (i*4) h.drew (by rw[s1.out];omega);have hz:(l.take i++l.drop j).length =i+(l.length - j):=by simp;omega
 obtain⟨zs,hcl⟩:∃zs,∀ty,(Builtin.clear_ #[98] ty #[.slice (E ⟨g,(i+(l.length - j))*4,z⟩) (l.length - (i+(l.length - j))) (c - (i+(l.length - j)))]).run prog (w.drew.setCells g (i*4) ((aP l).drop (j*4)))= .ok (.tuple #[]) ((w.drew.setCells g (i*4) ((aP l).drop (j*4))).setCells g ((i+(l.length - j))*4) zs):=by
  refine⟨_,fun ty=>fY _ _ _ ty a9 4 underlying98 wu rfl (by intro v hv;simp[a9,Value.cells] at hv;subst hv;rfl) g _ _ _ (by omega) (by omega) (fun t ht=> ?_) (fun t ht=> ?_)⟩
  all_goals
   obtain⟨b,hb,_,hc,hf⟩:=Has.rowGet (e:=75) (size:=4) h1 (i:=(i+(l.length - j))*4+t) (Z (by rw[h1.rowLens.1];omega));injection hb with hb
   injection hb with hb
   subst hb
  ·rw[hc];rfl
  ·exact hf
 have hfin:J ((w.drew.setCells g (i*4) ((aP l).drop (j*4))).setCells g ((i+(l.length - j))*4) zs) (cz (.slice (E (H g 0 z)) (i+(l.length - j)) c) (l.take i++l.drop j)*R):=by
  have:=Has.rowDelete (e:=75) (size:=4) (i:=i) (j:=j) h.drew (by omega) hj zs;unfold cz;rw[hz,eD];have e1:(aP l).take (i*4)=aP (l.take i):=fG il l i;have e2:(aP l).drop (j*4)=aP (l.drop j):=fF il l j;rw[←e1,←e2];exact this
 have hx:ap w ((w.drew.setCells g (i*4) ((aP l).drop (j*4))).setCells g ((i+(l.length - j))*4) zs):=Ext.cells _ _ _ (Ext.cells _ _ _ (N w).drew);clear h1 s1 s2 s3 hnews hA h hz;generalize (w.drew.setCells g (i*4) ((aP l).drop (j*4)))=w1 at*
 generalize i+(l.length - j)=n' at*
 have hcn:¬c≤n':=by omega
 have hnn:(n':Int)≤(l.length:Int):=by omega
 go_wp2_with fail
 go_ret;exact⟨rfl,hfin,hx⟩
def rE(l:List Mp)(w:L)(e:Ending)(w':L):Prop:=∃A n c,e= .returned (.slice A n c)∧J w' (cz (.slice A n c) l*cr w w.heap.size)∧ap w w'
theorem tV(l:List Mp)(A:Option ag)(n c:Nat)(R:ab)(w:L)(hs:l.length≤1000000)(h:J w (cz (.slice A n c) l*R)):
  Y prog 155 #[.slice A n c] w (rE l w):=by
 have q22:∀(w:L) (a:Option ag) (n c n' c':Nat),(binOp .eql 98 (.slice a n c) (.slice z n' c')).run prog w= .ok (.bool a.isNone) w:=fun w a n c n' c'=>Lib.run_eql_slice_nil w _ _ a n c n' c' underlying98;have hl0:=dt h;subst hl0;cases A with
 |none=>
  have h0:l=[]∧c=0:=by
   rcases Has.rowCases (e:=75) (size:=4) h with ⟨hv,h0,_⟩|⟨g,cap,cur,hv,_⟩
   ·injection hv with a b d
    exact⟨List.eq_nil_of_length_eq_zero h0,d⟩
   ·injection hv with a
    cases a
  obtain⟨rfl,rfl⟩:=h0;go_enter func155,ntmps155;go_wp2_with fail
  go_ret;exact⟨z,0,0,rfl,Has.rowNil (bc w),N _⟩
 |some a=>
  have h0:∃g,a=(H g 0 z):=by
   rcases Has.rowCases (e:=75) (size:=4) h with ⟨hv,h0,_⟩|⟨g,cap,cur,hv,_⟩
   ·injection hv with a b d
    cases a
   ·injection hv with a
    injection a with a
    exact⟨g,a⟩
  obtain⟨g,rfl⟩:=h0;have h1:=(bc w).new #[] 75;have hrow:J (w.alloc (.cells #[] 75)) (bt 75 4 (.slice (E (H w.heap.size 0 z)) 0 0) 0 []*cr w w.heap.size):=h1.rowOf rfl (Nat.le_refl _) (by unfold maxLen;omega) rfl rfl;have hn:=ip (h.alloc (.cells #[] 75)) 0;have hne:Hid (∀j u,(aP l)[j]? =E u→(w.alloc (.cells #[] 75)).cell? (((H g 0 z):ag).add j)=E u):=fun j u hu=>by
   rw[Addr.add_lit];exact hn j u (by simpa using hu)
  have x1:=(N w).alloc (.cells #[] 75);clear hn h1 h;go_enter func155,ntmps155;go_wp2_with(at_builtin;refine a8 rfl _ _ 98 rfl underlying98 rk _ _ _ rfl hrow (H g 0 z) l.length c (aP l) rfl (de l) hne.out (iN l) ?c2 ?c3 ?_)
  case c2=>unfold maxLen;omega
  case c3=>omega
  intro v' w2 h' x';obtain⟨A',c',rfl⟩:=h'.rowForm;go_wp2_with fail
  go_ret;exact⟨A',_,c',rfl,h',x1.trans x'⟩
def jV(m:Mp)(p:Int):Int:=if au m p=U then 0 else wrap64 (m.page - p)
theorem kU(m:Mp)(p:Int)(w:L)(hm:bX m.page)(hp:bX p):
  Y prog 226 #[.agg #[C D m.page,C D m.size,C D m.frame,C D m.rights],.int .i64 p] w (Pure (C D (jV m p)) w):=by
 have h1:=Has.new (bc w) #[C D m.page,C D m.size,C D m.frame,C D m.rights] 75;have x1:=(N w).alloc (.cells #[C D m.page,C D m.size,C D m.frame,C D m.rights] 75);have HO:=F (fun W=>jC m p W hm hp);obtain⟨c0,c1,c2,c3⟩:=h1.cells4;have hlt:=h1.lt;cases ho:au m p with
 |true=>
  rw[ho] at HO;have hy:Hid (jV m p=0):=F (by unfold jV;rw[if_pos ho]);clear ho;go_enter func226,ntmps226;go_wp2_with(refine(HO.out _).mono ?_;rintro e w2 ⟨rfl,b2⟩)
  go_ret;exact⟨by rw[hy.out];rfl,aA (h1.below b2).right (x1.below b2)⟩
 |false=>
  rw[ho] at HO;have hy:Hid (jV m p=wrap64 (m.page - p)):=F (by unfold jV;rw[if_neg (by rw[ho];simp)]);clear ho;go_enter func226,ntmps226;go_wp2_with(refine(HO.out _).mono ?_;rintro e w2 ⟨rfl,b2⟩;have d0:=((b2.cell (World.block_lt_of_cell? _ _ c0)).trans c0))
  go_ret;exact⟨by rw[hy.out];rfl,aA (h1.below b2).right (x1.below b2)⟩
theorem qG{m:Mp}{p:Int}(hm:MapOk m)(hp:bX p)(h0:0≤p):decide (jV m p<0)=ax p m:=by
 have:=hm.p0;have:=hm.p1;have:=hm.sp;obtain⟨_,h2⟩:=hp;unfold jV ax;cases au m p with
 |true=>rfl
 |false=>
  rw[if_neg (by simp),Bool.not_false,Bool.true_and];exact decide_eq_decide.2 (by unfold wrap64;omega)
theorem tW{m:Mp}{p:Int}(hm:MapOk m)(hp:bX p):(jV m p==0)=au m p:=by
 have:=hm.p0;have:=hm.p1;have:=hm.sp;obtain⟨h1,h2⟩:=hp;unfold jV;cases ho:au m p with
 |true=>rfl
 |false=>
  rw[if_neg (by simp)];have:=cT.1 ho;exact beq_eq_false_iff_ne.2 (by unfold wrap64;omega)
theorem wv{m:Mp}{p:Int}:bX (jV m p):=by
 unfold jV bX wrap64;split<;>omega
theorem ww{l:List Mp}(hl:bb l){p:Int}{i:Nat}(hi:0≤p→i=O l p):(af l p).isSome =if h:i<l.length then au l[i] p else M:=by
 by_cases h0:0≤p
 ·obtain rfl:=hi h0
  rw[Bk.find_head hl];cases hd:l.dropWhile (ax p) with
  |nil=>
   have:=Bk.drop_nil hd;rw[dif_neg (by omega)];rfl
  |cons y r=>
   obtain⟨h1,h2⟩:=Bk.drop_head hd;rw[dif_pos h1,h2];show(if au y p=U then E y else z).isSome =_;cases au y p<;>rfl
 ·have hno:∀x∈l,au x p=M:=fun x hx=>cT.2 (.inl (by have:=(hl.chk x hx).p0;omega))
  have e1:af l p=z:=List.find?_eq_none.2 fun x hx=>by rw[hno x hx];simp
  rw[e1];split
  ·rename_i h
   rw[hno _ (List.getElem_mem h)];rfl
  ·rfl
theorem sm(l:List Mp)(hl:bb l)(p:Int)(hp:bX p)(A:Option ag)(n c:Nat)(R:ab)(w:L)(h:J w (cz (.slice A n c) l*R)):
  Y prog 225 #[.slice A n c,.int .i64 p,.func (.func 226) #[] #[]] w
   (fun e w'=>∃i:Nat,i≤l.length∧e= .returned (.tuple #[C D i,T (af l p).isSome])∧(0≤p→i=O l p)∧Below w.heap.size w w'):=by
 obtain rfl:=dt h;have hbig:=gH h;have hL:=hl.le;have HL:=F hl;clear hl;go_enter func225,ntmps225;go_wp2_with fail
 go_loopw [9,10] (fun s9 s10 wr=>∃i j:Nat,i≤j∧j≤l.length∧s9=C D i∧s10=C D j∧Below w.heap.size w wr∧Hid (0≤p→i≤O l p∧O l p≤j)) (fun s9 s10 _=>(intOf s10).toNat - (intOf s9).toNat)
 case atStart=>exact⟨0,l.length,Nat.zero_le _,Nat.le_refl _,rfl,rfl,Below.refl _ _,fun _=>⟨Nat.zero_le _,Bk.pos_le l p⟩⟩
 case round=>
  obtain⟨i,j,hij,hj,rfl,rfl,BW,HP⟩:=hrel;have hr:=h.below BW;have BW':=F BW;clear BW h;by_cases hlt:i<j
  ·go_upto_region 5 with fail
   obtain⟨k,hk,hik,hkj⟩:∃k:Nat,((i:Int)+(j:Int)) / 2=k∧i≤k∧k<j:=⟨(i+j) / 2,by omega,by omega,by omega⟩;rw[hk];clear hk;have hkl:k<l.length:=by omega
   obtain⟨b,rfl,hb,c0,c1,c2,c3⟩:=fk hr hkl;have hm:=HL.out.chk l[k] (List.getElem_mem hkl);have hiff:=Bk.pos_iff HL.out p hkl;have hcb:=fun h0=>qG (p:=p) hm hp h0;have HC:=F (fun W=>kU l[k] p W ⟨by have:=hm.p0;omega,by have:=hm.p1;have:=hm.sp;omega⟩ hp);have hci:bX (jV l[k] p):=wv;have HF:=F (show 0≤p→decide (jV l[k] p<0)=decide (k<O l p) from fun h0=>(hcb h0).trans hiff);clear hm hiff hcb hr;generalize l[k]=m at*
   generalize jV m p=v at*
   by_cases hv:v<0
   ·go_wp2_with(refine(HC.out _).mono ?_;rintro e w' ⟨rfl,hb'⟩)
    go_roundw
    case rel=>exact⟨k+1,j,by omega,hj,by go_num,rfl,BW'.out.trans (hb'.mono BW'.out.size),fun h0=>⟨by have:=HF.out h0;rw[decide_eq_true hv] at this;have:=of_decide_eq_true this.symm;omega,(HP.out h0).2⟩⟩
    case measure=>simp[intOf];omega
   ·go_wp2_with(refine(HC.out _).mono ?_;rintro e w' ⟨rfl,hb'⟩)
    go_roundw
    case rel=>exact⟨i,k,by omega,by omega,rfl,rfl,BW'.out.trans (hb'.mono BW'.out.size),fun h0=>⟨(HP.out h0).1,by have:=HF.out h0;rw[decide_eq_false (by omega)] at this;have:=of_decide_eq_false this.symm;omega⟩⟩
    case measure=>simp[intOf];omega
  ·have hi:0≤p→i=O l p:=fun h0=>by have:=HP.out h0;omega
   have hfa:=ww HL.out hi;have HI:=F hi;clear hi HP;by_cases hil:i<l.length
   ·rw[dif_pos hil] at hfa
    obtain⟨b,rfl,hb,c0,c1,c2,c3⟩:=fk hr hil;have hm:=HL.out.chk l[i] (List.getElem_mem hil);have HC:=F (fun W=>kU l[i] p W ⟨by have:=hm.p0;omega,by have:=hm.p1;have:=hm.sp;omega⟩ hp);have hz:=tW hm hp;rw[←hfa] at hz;have HZ:=F hz;clear hm hr hz hfa;generalize l[i]=m at*
    generalize jV m p=v at*
    go_wp2_with(refine(HC.out _).mono ?_;rintro e w' ⟨rfl,hb'⟩)
    exact K (v:= .tuple #[C D i,T (v==0)]) (by simp[results,results225]) rfl ⟨i,by omega,by rw[HZ.out],HI.out,BW'.out.trans (hb'.mono BW'.out.size)⟩
   ·rw[dif_neg hil] at hfa
    have HZ:=F hfa;clear hfa hr;go_wp2_with fail
    exact K (v:= .tuple #[C D i,T M]) (by simp[results,results225]) rfl ⟨i,by omega,by rw[HZ.out],HI.out,BW'.out⟩
def aX(B:Nat)(l:List Mp):ab:=ex fun A=>ex fun c=>aa B #[.slice A l.length c] 197*cz (.slice A l.length c) l
theorem dH{B:Nat}{l:List Mp}{P:ab}{w:L}(h:J w (aX B l*P)):∃A c,J w (aa B #[.slice A l.length c] 197*(cz (.slice A l.length c) l*P)):=by
 unfold aX at h;obtain⟨A,h⟩:=aw.1 h;obtain⟨c,h⟩:=aw.1 h;exact⟨A,c,h.a1⟩
theorem fQ{B c:Nat}{A:Option ag}{l:List Mp}{P:ab}{w:L}(h:J w (aa B #[.slice A l.length c] 197*(cz (.slice A l.length c) l*P))):J w (aX B l*P):=by
 unfold aX;exact aw.2 ⟨A,aw.2 ⟨c,h.a2⟩⟩
theorem oo(l:List Mp)(hl:bb l)(p:Int)(hp:bX p)(B:Nat)(R:ab)(w:L)(h:J w (aX B l*R)):
  Y prog 192 #[.pointer (E (H B 0 z)),.int .i64 p] w
   (fun e w'=>∃i:Nat,i≤l.length∧e= .returned (.tuple #[C D i,T (af l p).isSome])∧(0≤p→i=O l p)∧Below w.heap.size w w'):=by
 obtain⟨A,c,h⟩:=dH h;have c0:=h.cell 0;have hlt:=h.lt;have HS:=F (sm l hl p hp A l.length c R w h.right);clear h;go_enter func192,ntmps192;go_wp2_with(refine HS.out.mono ?_;rintro e w' ⟨i,hi,rfl,hp,hb⟩)
 exact K (v:= .tuple #[C D i,T (af l p).isSome]) (by simp[results,results192]) rfl ⟨i,hi,rfl,hp,hb⟩
theorem AG(R:ab)(w:L)(h:J w R):Y prog 71 #[] w fun e w'=>∃p,cF (.pointer (E (H p 0 z))) (aX p []*R) w e w':=by
 have h1:=h.new #[.slice z 0 0] 197;have h2:J (w.alloc (.cells #[.slice z 0 0] 197)) (aa w.heap.size #[.slice z 0 0] 197*(cz (.slice z ([]:List Mp).length 0) []*R)):=(Has.rowNil h1).p2;go_enter func71,ntmps71;go_wp2;go_ret;exact⟨_,rfl,fQ h2,(N w).alloc _⟩
theorem xK(p:Nat)(l:List Mp)(R:ab)(w:L)(hs:l.length≤1000000)(h:J w (aX p l*R)):
  Y prog 119 #[.pointer (E (H p 0 z))] w (rE l w):=by
 obtain⟨A,c,h⟩:=dH h;have hC:=tV l A l.length c _ w hs h.p2;have c0:=h.cell 0;have hp:=h.lt;go_enter func119,ntmps119;go_wp2_with(refine hC.mono ?_;rintro e w2 ⟨A',n',c',rfl,h2,x2⟩)
 go_ret;exact⟨A',n',c',rfl,h2,x2⟩
theorem zE(p:Nat)(l:List Mp)(R:ab)(w:L)(hs:l.length≤1000000)(h:J w (aX p l*R)):
  Y prog 151 #[.pointer (E (H p 0 z))] w fun e w'=>∃q,cF (.pointer (E (H q 0 z))) (aX q l*(aX p l*R)) w e w':=by
 have hC:=xK p l R w hs h;go_enter func151,ntmps151;go_wp2_with fail
 refine hC.mono ?_;rintro e w2 ⟨A',n',c',rfl,h2,x2⟩;obtain rfl:=dt h2;have h3:=(h.onto' h2).new #[.slice A' l.length c'] 197;have x3:=x2.alloc (.cells #[.slice A' l.length c'] 197);go_wp2_with fail
 go_ret;exact⟨_,rfl,fQ h3,x3⟩
theorem zF(p:Nat)(l:List Mp)(k:Int)(R:ab)(w:L)(hl:bb l)(hk:bX k)(h:J w (aX p l*R)):
  Y prog 198 #[.pointer (E (H p 0 z)),.int .i64 k] w (Pure (.tuple #[rz (af l k),T (af l k).isSome]) w):=by
 have h1:=h.new #[C D 0,C D 0,C D 0,C D 0] 75;have H1:=(bc w).new #[C D 0,C D 0,C D 0,C D 0] 75;have x1:=(N w).alloc (.cells #[C D 0,C D 0,C D 0,C D 0] 75);have hB:=oo l hl k hk p _ _ h1.p2;have hpl:=bd hl k;rcases hpl with ⟨hf,_⟩|⟨hi,ho,hf,h0,_⟩
 ·rw[hf] at hB⊢
  clear h h1 hf hl;go_enter func198,ntmps198;go_wp2_with(refine hB.mono ?_;rintro e w2 ⟨i,_,rfl,_,b2⟩;have H3:=H1.below b2;have x3:=x1.below b2;obtain⟨d0,d1,d2,d3⟩:=H3.cells4;obtain⟨f0,f1,f2,f3⟩:=H3.frees4;have fl:=H3.lt)
  refine ay (fun wz=>J wz (aa w.heap.size #[C D 0,C D 0,C D 0,C D 0] 75*(cr w w.heap.size))∧ap w wz) ⟨H3.set4 _ _ _ _,aj⟩ ?_;rintro wz ⟨hz,xz⟩;exact K (aF results198 rfl rfl (br hz)) rfl ⟨rfl,aA hz.right xz⟩
 ·rw[hf] at hB⊢
  have hq:=fun i (e:0≤k→i=O l k)=>e h0;generalize O l k=q at*
  clear h hf hl ho;go_enter func198,ntmps198;go_wp2_with(refine hB.mono ?_;rintro e w2 ⟨i,_,rfl,hiq,b2⟩;obtain rfl:=hq _ hiq;clear hiq hq;have H3:=H1.below b2;have x3:=x1.below b2;obtain⟨A,c,h3⟩:=dH (h1.below b2).p2;obtain⟨d0,d1,d2,d3⟩:=H3.cells4;obtain⟨f0,f1,f2,f3⟩:=H3.frees4;have fl:=H3.lt;have k0:=h3.cell 0;have kl:=h3.lt;obtain⟨g,rfl,gb,g0,g1,g2,g3⟩:=fk h3.right hi)
  generalize l[i]=x at*
  refine ay (fun wz=>J wz (aa w.heap.size #[C D x.page,C D x.size,C D x.frame,C D x.rights] 75*(cr w w.heap.size))∧ap w wz) ⟨H3.set4 _ _ _ _,aj⟩ ?_;rintro wz ⟨hz,xz⟩;exact K (aF results198 rfl rfl (br hz)) rfl ⟨rfl,aA hz.right xz⟩
set_option maxHeartbeats 2000000 in
theorem zG(p:Nat)(l:List Mp)(k:Int)(R:ab)(w:L)(hl:bb l)(hk:bX k)(h:J w (aX p l*R)):
  Y prog 153 #[.pointer (E (H p 0 z)),.int .i64 k] w (cF (.tuple #[rz (a5 l k),C D (a6 l k)]) (aX p (a7 l k)*R) w):=by
 have H1:=h.new #[C D 0,C D 0,C D 0,C D 0] 75;have x1:=(N w).alloc (.cells #[C D 0,C D 0,C D 0,C D 0] 75);have HH:=cL k;have e0:=H1.p2;cases hb:cN k with
 |false=>
  rw[hb] at HH;unfold a5 a6 a7;rw[hb];clear hb e0;go_enter func153,ntmps153;go_wp2_with(refine(HH _).mono ?_;rintro e w2 ⟨rfl,hw⟩;have H3:=hw.symm▸H1;have x3:=hw.symm▸x1;clear hw;obtain⟨d0,d1,d2,d3⟩:=H3.cells4;obtain⟨f0,f1,f2,f3⟩:=H3.frees4;have fl:=H3.lt)
  refine ay (fun wz=>J wz (aa w.heap.size #[C D 0,C D 0,C D 0,C D 0] 75*(aX p l*R))∧ap w wz) ⟨H3.set4 _ _ _ _,aj⟩ ?_;rintro wz ⟨hz,xz⟩;exact K (aF results153 rfl rfl (br hz)) rfl ⟨rfl,hz.right,xz⟩
 |true=>
  rw[hb] at HH;unfold a5 a6 a7;rw[hb];have hB:=oo l hl k hk p _ _ e0;rcases bd hl k with ⟨hf,hd,_⟩|⟨hi,ho,hf,h0,_,hd,_⟩
  ·rw[hf] at hB
   rw[if_pos rfl,if_pos rfl,if_pos rfl,hf,hd];clear h e0 hf hl hd hb;go_enter func153,ntmps153;go_wp2_with(first|(go_at_call 195;refine(HH _).mono ?_;rintro e w2 ⟨rfl,rfl⟩)|(go_at_call 192;refine hB.mono ?_;rintro e w2 ⟨i,_,rfl,_,b2⟩;have H3:=H1.below b2;have x3:=x1.below b2;obtain⟨d0,d1,d2,d3⟩:=H3.cells4;obtain⟨f0,f1,f2,f3⟩:=H3.frees4;have fl:=H3.lt))
   refine ay (fun wz=>J wz (aa w.heap.size #[C D 0,C D 0,C D 0,C D 0] 75*(aX p l*R))∧ap w wz) ⟨H3.set4 _ _ _ _,aj⟩ ?_;rintro wz ⟨hz,xz⟩;exact K (aF results153 rfl rfl (br hz)) rfl ⟨rfl,hz.right,xz⟩
  ·rw[hf] at hB
   rw[if_pos rfl,if_pos rfl,if_pos rfl,hf,hd];change Y _ _ _ w (cF (.tuple #[rz (E l[O l k]),C D 0]) _ w);have hq:=fun i (e:0≤k→i=O l k)=>e h0;have HL:=F hl.le;have hhi:=hi;generalize hxq:l[O l k]=x at*
   have HX:=F (show∀h,l[O l k]'h=x from fun _=>hxq);generalize O l k=q at*
   clear h hf hl ho hb hd e0 hxq;go_enter func153,ntmps153;go_wp2_with(first|(go_at_call 195;refine(HH _).mono ?_;rintro e w2 ⟨rfl,rfl⟩)|(go_at_call 192;refine hB.mono ?_;rintro e w2 ⟨i,_,rfl,hiq,b2⟩;obtain rfl:=hq _ hiq;clear hiq hq hB;have H3:=H1.below b2;have x3:=x1.below b2;clear H1 x1;obtain⟨A,c,h3⟩:=dH H3.p2;have k0:=h3.cell 0;have kl:=h3.lt;obtain⟨g,rfl,gb,g0,g1,g2,g3⟩:=fk h3.right hi;rw[HX.out hi] at g0 g1 g2 g3;have hbig:=gH h3.right;have hw1:wrap64 ((i:Int)+1)=((i+1:Nat):Int):=(by have:=HL.out;unfold wrap64;omega)))
   have h4:=h3.new #[C D x.page,C D x.size,C D x.frame,C D x.rights] 75;have h5:J (w2.alloc (.cells #[C D x.page,C D x.size,C D x.frame,C D x.rights] 75)) (cz (.slice (E (H g 0 z)) l.length c) l*(aa p #[.slice (E (H g 0 z)) l.length c] 197*(aa w2.heap.size #[C D x.page,C D x.size,C D x.frame,C D x.rights] 75*(aa w.heap.size #[C D 0,C D 0,C D 0,C D 0] 75*R)))):=h4.eq (by(simp only[aN,av,cy]));have x5:=x3.alloc (.cells #[C D x.page,C D x.size,C D x.frame,C D x.rights] 75);have hD:=sk l i (i+1) g l.length c _ _ (by omega) (by omega) h5;have hdl:i+(l.length - (i+1))=(l.take i++l.drop (i+1)).length :=by simp;omega
   rw[hdl] at hD;clear hdl h4 h5 h3 H3 x3 k0 kl g0 g1 g2 g3 hi hhi HX HL;generalize l.take i++l.drop (i+1)=l' at*
   go_wp2_with fail
   refine hD.mono ?_;rintro e w6 ⟨rfl,h6,x6⟩;have x7:=x5.trans x6;clear x5 x6 hD;have c0:=h6.right.cell 0;have cf:=h6.right.free 0;have cl:=h6.right.lt;have hne:=h6.right.ne;have hne':=hne.symm;have h7:J (w6.setCell (H p 0 z) (.slice (E (H g 0 z)) l'.length c)) (aa p #[.slice (E (H g 0 z)) l'.length c] 197*_):=h6.p2.set 0 (.slice (E (H g 0 z)) l'.length c);obtain⟨m0,m1,m2,m3⟩:=h6.right.right.cells4;have ml:=h6.right.right.lt;have h8:J _ (aa w.heap.size #[C D 0,C D 0,C D 0,C D 0] 75*(aa p #[.slice (E (H g 0 z)) l'.length c] 197*(cz (.slice (E (H g 0 z)) l'.length c) l'*(aa w2.heap.size #[C D x.page,C D x.size,C D x.frame,C D x.rights] 75*R)))):=h7.eq (by(simp only[aN,av,cy]));have h9:J w6 (aa p #[.slice (E (H g 0 z)) l.length c] 197*(aa w.heap.size #[C D 0,C D 0,C D 0,C D 0] 75*(cz (.slice (E (H g 0 z)) l'.length c) l'*(aa w2.heap.size #[C D x.page,C D x.size,C D x.frame,C D x.rights] 75*R)))):=h6.eq (by(simp only[aN,av,cy]));have hnr:=h9.ne;have hnr':=hnr.symm;obtain⟨d0,d1,d2,d3⟩:=h9.right.cells4;obtain⟨f0,f1,f2,f3⟩:=h9.right.frees4;have fl:=h9.right.lt;clear h9;go_wp2_with fail
   refine ay (fun wz=>J wz (aa w.heap.size #[C D x.page,C D x.size,C D x.frame,C D x.rights] 75*(aa p #[.slice (E (H g 0 z)) l'.length c] 197*(cz (.slice (E (H g 0 z)) l'.length c) l'*(aa w2.heap.size #[C D x.page,C D x.size,C D x.frame,C D x.rights] 75*R))))∧ap w wz) ⟨h8.set4 _ _ _ _,aj⟩ ?_;rintro wz ⟨hz,xz⟩;exact K (aF results153 rfl rfl (br hz)) rfl ⟨rfl,fQ hz.right.drop3,xz⟩
end Go.Proofs.YtmfheghbgihdmaaGreatDoor
