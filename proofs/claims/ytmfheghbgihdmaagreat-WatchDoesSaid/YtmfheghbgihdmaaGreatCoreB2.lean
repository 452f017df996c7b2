/- Contract of the document's Core.Begin. -/
import Derived.Test.YtmfheghbgihdmaaGreatCoreS4
import Derived.Test.YtmfheghbgihdmaaGreatTblM3
import Derived.Test.YtmfheghbgihdmaaGreatCoreP
namespace Go.Proofs.YtmfheghbgihdmaaGreat
open Go.Value renaming int→d,bool→u
open Go.IntKind renaming i64→f
open Go.Lib renaming hid→i
open Option renaming none→n,some→o
open Go.World renaming size_alloc→p
open Go renaming bodyPost_ret→s,World→y,Calls→z
open Go.Addr renaming mk→t
open Bool renaming false→v,true→w
open Tryz
open Go.RowKit
set_option maxRecDepth 100000
theorem pb(q:Nat)(l:List Ln)(root:Int)(k:Ck)(a:Ac)(ha:au a≠0)(R:ab)(W:y)(h:Has W (aQ q l k*R)):
  z prog 66 #[.pointer (o (t q 0 n)),d f root,.agg #[d f a.page,d f a.kind,u a.user]] W (cI (.tuple #[.agg #[d f 0,d f 0,d f 0],u v,d f (au a)]) (aQ q l k*R) W):=by
 have hn:(au ⟨a.page,a.kind,a.user⟩ !=0)=w:=by simpa using ha
 have h1:Has _ (aQ q l k*(aa (W.heap.size+1) #[d f 0,d f 0,d f 0] 34*(aa W.heap.size #[d f a.page,d f a.kind,u a.user] 41*R))):=((h.new #[d f a.page,d f a.kind,u a.user] 41).new #[d f 0,d f 0,d f 0] 34).eq (by simp only[p];ac_rfl);have x1:=((Ext.refl W).alloc (.cells #[d f a.page,d f a.kind,u a.user] 41)).alloc (.cells #[d f 0,d f 0,d f 0] 34);have HC:=i (fun X=>eW a.page a.kind a.user X);clear h;go_enter func66,ntmps66;go_upto_region 1 with fail;generalize (W.alloc (.cells #[d f a.page,d f a.kind,u a.user] 41)).alloc (.cells #[d f 0,d f 0,d f 0] 34)=W1 at*
 generalize W.heap.size+1=X1 at*
 generalize W.heap.size=X0 at*
 obtain⟨a0,a1,a2⟩:=h1.right.right.cells3;have al:=h1.right.right.lt;go_wp2_with fail
 refine(HC.out _).mono ?_;rintro e w2 ⟨rfl,b2⟩;have h2:=h1.below b2;have x2:=x1.below b2;clear h1 x1 a0 a1 a2 al b2 HC;rw[show au a=au ⟨a.page,a.kind,a.user⟩ from rfl];generalize au ⟨a.page,a.kind,a.user⟩=ca at*
 have hA:=h2.p2;obtain⟨r0,r1,r2⟩:=hA.cells3;obtain⟨g0,g1,g2⟩:=hA.frees3;have rl:=hA.lt;go_wp2_with fail
 refine ak (fun wz=>Has wz (aa X1 #[d f 0,d f 0,d f 0] 34*(aQ q l k*(aa X0 #[d f a.page,d f a.kind,u a.user] 41*R)))∧Ext W wz) ⟨hA.set3 _ _ _,ah⟩ ?_;rintro wz ⟨hz,xz⟩;exact s (be results66 rfl rfl rfl (br hz)) rfl ⟨rfl,hz.right.p2.right,xz⟩
theorem nX(q:Nat)(l:List Ln)(root:Int)(k:Ck)(a:Ac)(ha:au a=0)(hon:k.on=w)(R:ab)(W:y)(h:Has W (aQ q l k*R)):
  z prog 66 #[.pointer (o (t q 0 n)),d f root,.agg #[d f a.page,d f a.kind,u a.user]] W (cI (.tuple #[.agg #[d f 0,d f 0,d f 0],u v,d f 8]) (aQ q l k*R) W):=by
 have ha':au ⟨a.page,a.kind,a.user⟩=0:=ha;clear ha;have h1:Has _ (aQ q l k*(aa (W.heap.size+1) #[d f 0,d f 0,d f 0] 34*(aa W.heap.size #[d f a.page,d f a.kind,u a.user] 41*R))):=((h.new #[d f a.page,d f a.kind,u a.user] 41).new #[d f 0,d f 0,d f 0] 34).eq (by simp only[p];ac_rfl);have x1:=((Ext.refl W).alloc (.cells #[d f a.page,d f a.kind,u a.user] 41)).alloc (.cells #[d f 0,d f 0,d f 0] 34);have HC:=i (fun X=>eW a.page a.kind a.user X);clear h;go_enter func66,ntmps66;go_upto_region 1 with fail;generalize (W.alloc (.cells #[d f a.page,d f a.kind,u a.user] 41)).alloc (.cells #[d f 0,d f 0,d f 0] 34)=W1 at*
 generalize W.heap.size+1=X1 at*
 generalize W.heap.size=X0 at*
 obtain⟨a0,a1,a2⟩:=h1.right.right.cells3;have al:=h1.right.right.lt;go_wp2_with fail
 refine(HC.out _).mono ?_;rintro e w2 ⟨rfl,b2⟩;have h2:=h1.below b2;have x2:=x1.below b2;clear h1 x1 a0 a1 a2 al b2 HC;rw[ha'];obtain⟨A,c,h3⟩:=cY h2;obtain⟨q1,q2,q3,q4,q5,q6,q7,q8,ql⟩:=aJ h3;rw[hon] at q1;have hA:=h2.p2;obtain⟨r0,r1,r2⟩:=hA.cells3;obtain⟨g0,g1,g2⟩:=hA.frees3;have rl:=hA.lt;clear h3 hon q2 q3 q4 q5 q6 q7 q8;go_wp2_with fail
 refine ak (fun wz=>Has wz (aa X1 #[d f 0,d f 0,d f 0] 34*(aQ q l k*(aa X0 #[d f a.page,d f a.kind,u a.user] 41*R)))∧Ext W wz) ⟨hA.set3 _ _ _,ah⟩ ?_;rintro wz ⟨hz,xz⟩;exact s (be results66 rfl rfl rfl (br hz)) rfl ⟨rfl,hz.right.p2.right,xz⟩
set_option maxHeartbeats 4000000 in
theorem nY(q:Nat)(l:List Ln)(root:Int)(k:Ck)(a:Ac)(hl:Tl.Ok l)(ha:au a=0)(hp:cL a.page)(hon:k.on=v)(hi:Tl.idx l a.page= -1)(R:ab)(W:y)(h:Has W (aQ q l k*R)):
  z prog 66 #[.pointer (o (t q 0 n)),d f root,.agg #[d f a.page,d f a.kind,u a.user]] W (cI (.tuple #[.agg #[d f 0,d f 0,d f 0],u v,d f 0]) (aQ q l (k.begin root a)*R) W):=by
 have ha':au ⟨a.page,a.kind,a.user⟩=0:=ha;have HKP:=i (fun R X h=>tD q l k a.page R X hl hp h);have HAG:=i (fun R X h=>nL q root l {k with on:=w,a:=a} R X h);have hag:({k with on:=w,a:=a}:Ck).again root=k.begin root a:=by unfold Ck.again Ck.begin;rw[if_pos rfl]
 rw[hag] at HAG;rw[hi] at HKP;clear hi hl;clear ha hp hag;have h1:Has _ (aQ q l k*(aa (W.heap.size+1) #[d f 0,d f 0,d f 0] 34*(aa W.heap.size #[d f a.page,d f a.kind,u a.user] 41*R))):=((h.new #[d f a.page,d f a.kind,u a.user] 41).new #[d f 0,d f 0,d f 0] 34).eq (by simp only[p];ac_rfl);have x1:=((Ext.refl W).alloc (.cells #[d f a.page,d f a.kind,u a.user] 41)).alloc (.cells #[d f 0,d f 0,d f 0] 34);have HC:=i (fun X=>eW a.page a.kind a.user X);clear h;go_enter func66,ntmps66;go_upto_region 1 with fail;generalize (W.alloc (.cells #[d f a.page,d f a.kind,u a.user] 41)).alloc (.cells #[d f 0,d f 0,d f 0] 34)=W1 at*
 generalize W.heap.size+1=X1 at*
 generalize W.heap.size=X0 at*
 obtain⟨a0,a1,a2⟩:=h1.right.right.cells3;have al:=h1.right.right.lt;go_wp2_with fail
 refine(HC.out _).mono ?_;rintro e w2 ⟨rfl,b2⟩;have h2:=h1.below b2;have x2:=x1.below b2;clear h1 x1 a0 a1 a2 al b2 HC;rw[ha'];obtain⟨a0,a1,a2⟩:=h2.right.right.cells3;have al:=h2.right.right.lt;obtain⟨A,c,h3⟩:=cY h2;obtain⟨q1,q2,q3,q4,q5,q6,q7,q8,ql⟩:=aJ h3;rw[hon] at q1;go_wp2_with fail
 refine(HKP.out _ _ h2).mono ?_;rintro e w4 ⟨rfl,b4⟩;have h5:=h3.below b4;have x5:=x2.below b4;clear h2 h3 x2 a0 a1 a2 al b4 HKP q1 q2 q3 q4 q5 q6 q7 q8 ql ha' hon;go_upto_region 11 with fail;go_cut [] from 58 to 64 (fun wx=>Has wx (aM q A c l {k with on:=w,a:=a} (aa X1 #[d f 0,d f 0,d f 0] 34*(aa X0 #[d f a.page,d f a.kind,u a.user] 41*R)))∧Ext W wx)
 case first=>
  have h6:Has _ (cv q (.slice A l.length c) k*(aa X0 #[d f a.page,d f a.kind,u a.user] 41*(gk (.slice A l.length c) l*(aa X1 #[d f 0,d f 0,d f 0] 34*R)))):=h5.eq (by unfold aM;ac_rfl);unfold cv at h6;have n1:=h6.ne;have n2:=n1.symm;obtain⟨a0,a1,a2⟩:=h6.right.cells3;have al:=h6.right.lt;have f1:=h6.free 1;have f2:=h6.free 2;have f3:=h6.free 3;have f4:=h6.free 4;obtain⟨q1,q2,q3,q4,q5,q6,q7,q8,ql⟩:=aJ h5;go_region
  all_goals
   go_wp2_with fail
   go_meet
   case rel=>first|exact⟨(iS h5 a).drew,((((x5.set _ _).set _ _).set _ _).set _ _).drew⟩|exact⟨iS h5.drew a,(((x5.drew.set _ _).set _ _).set _ _).set _ _⟩
 case rest=>
  clear h5 x5;obtain⟨h6,x6⟩:=hcut;go_wp2_with fail
  refine(HAG.out _ _ (bE h6)).mono ?_;rintro e w7 ⟨rfl,h7,x7⟩;have hA:=h7.p2;have xA:=x6.trans x7;obtain⟨r0,r1,r2⟩:=hA.cells3;obtain⟨g0,g1,g2⟩:=hA.frees3;have rl:=hA.lt;clear h6 x6 h7 x7;go_wp2_with fail
  refine ak (fun wz=>Has wz (aa X1 #[d f 0,d f 0,d f 0] 34*(aQ q l (k.begin root a)*(aa X0 #[d f a.page,d f a.kind,u a.user] 41*R)))∧Ext W wz) ⟨hA.set3 _ _ _,ah⟩ ?_;rintro wz ⟨hz,xz⟩;exact s (be results66 rfl rfl rfl (br hz)) rfl ⟨rfl,hz.right.p2.right,xz⟩
set_option maxHeartbeats 8000000 in
theorem kK(q:Nat)(l:List Ln)(root:Int)(k:Ck)(a:Ac)(hl:Tl.Ok l)(ha:au a=0)(hp:cL a.page)(hon:k.on=v)(j:Nat)(hj:j<l.length)(hi:Tl.idx l a.page=j)(x:Ln)(hx:Hid (l[j]=x))(an:An)(hAn:Hid (bJ x.m a=an))(hit:Bool)(hh:Hid (hit=kZ x a))(b:Bq)(hb:Hid (b=if hit=w then⟨an,w,0,k⟩ else⟨An.zero,v,0,k.begin root a⟩))
  (R:ab) (W:y) (h:Has W (aQ q l k*R)):
  z prog 66 #[.pointer (o (t q 0 n)),d f root,.agg #[d f a.page,d f a.kind,u a.user]] W (cI (.tuple #[.agg #[d f b.an.fin,d f b.an.frame,d f b.an.rights],u b.fin,d f b.code]) (aQ q l b.c*R) W):=by
 have ha':au ⟨a.page,a.kind,a.user⟩=0:=ha;have HKP:=i (fun R X h=>tD q l k a.page R X hl hp h);have HAG:=i (fun R X h=>nL q root l {k with on:=w,a:=a} R X h);have hag:({k with on:=w,a:=a}:Ck).again root=k.begin root a:=by unfold Ck.again Ck.begin;rw[if_pos rfl]
 rw[hag] at HAG;rw[hi] at HKP;have hsm:l.length≤6:=hl.len;have HAN:=i (fun X=>iX x.m a.page a.kind a.user X);rw[show bJ x.m ⟨a.page,a.kind,a.user⟩=an from hAn.out] at HAN;have hfin:Hid ((an.fin !=0)= !may x.m.rights a):=i (by rw[←hAn.out];unfold bJ;split<;>simp_all);clear hi hl hAn;clear ha hp hag;have h1:Has _ (aQ q l k*(aa (W.heap.size+1) #[d f 0,d f 0,d f 0] 34*(aa W.heap.size #[d f a.page,d f a.kind,u a.user] 41*R))):=((h.new #[d f a.page,d f a.kind,u a.user] 41).new #[d f 0,d f 0,d f 0] 34).eq (by simp only[p];ac_rfl);have x1:=((Ext.refl W).alloc (.cells #[d f a.page,d f a.kind,u a.user] 41)).alloc (.cells #[d f 0,d f 0,d f 0] 34);have HC:=i (fun X=>eW a.page a.kind a.user X);clear h;go_enter func66,ntmps66;go_upto_region 1 with fail;generalize (W.alloc (.cells #[d f a.page,d f a.kind,u a.user] 41)).alloc (.cells #[d f 0,d f 0,d f 0] 34)=W1 at*
 generalize W.heap.size+1=X1 at*
 generalize W.heap.size=X0 at*
 obtain⟨a0,a1,a2⟩:=h1.right.right.cells3;have al:=h1.right.right.lt;go_wp2_with fail
 refine(HC.out _).mono ?_;rintro e w2 ⟨rfl,b2⟩;have h2:=h1.below b2;have x2:=x1.below b2;clear h1 x1 a0 a1 a2 al b2 HC;rw[ha'];obtain⟨a0,a1,a2⟩:=h2.right.right.cells3;have al:=h2.right.right.lt;obtain⟨A,c,h3⟩:=cY h2;obtain⟨q1,q2,q3,q4,q5,q6,q7,q8,ql⟩:=aJ h3;rw[hon] at q1;go_wp2_with fail
 refine(HKP.out _ _ h2).mono ?_;rintro e w4 ⟨rfl,b4⟩;have h5:=h3.below b4;have x5:=x2.below b4;clear h2 h3 x2 a0 a1 a2 al b4 HKP q1 q2 q3 q4 q5 q6 q7 q8 ql ha' hon;obtain⟨g,off,rfl,gl,d0,d1,d2,d3,d4⟩:=ir h5.right hj;rw[hx.out] at d0 d1 d2 d3 d4;have hji:(j:Int)<l.length:=by omega
 have hj0:¬((j:Int)<0):=by omega
 have HK:=i (fun(w':y) (P Q:ab) (h:Has w' (aM q (o (t g off n)) c l k (P*(aa X0 #[d f a.page,d f a.kind,u a.user] 41*Q))))=>(by
  obtain⟨g',off',e,_,d0,d1,d2,d3,d4⟩:=ir h.right hj;injection e with e
  injection e with e1 e2
  subst e1;subst e2;rw[hx.out] at d0 d1 d2 d3 d4;obtain⟨a0,a1,a2⟩:=h.r3.cells3;have q0:=h;unfold aM cv at q0;exact⟨q0.cell 0,d0,d1,d2,d3,d4,a0,a1,a2⟩:w'.cell? (t q 0 n)=o (.slice (o (t g off n)) l.length c)∧w'.cell? ⟨g,off+j*5,n⟩=o (d f x.m.page)∧w'.cell? ⟨g,off+j*5+1,n⟩=o (d f x.m.size)∧w'.cell? ⟨g,off+j*5+2,n⟩=o (d f x.m.frame)∧w'.cell? ⟨g,off+j*5+3,n⟩=o (d f x.m.rights)∧w'.cell? ⟨g,off+j*5+4,n⟩=o (u x.dirty)∧w'.cell? (t X0 0 n)=o (d f a.page)∧w'.cell? (t X0 1 n)=o (d f a.kind)∧w'.cell? (t X0 2 n)=o (u a.user)))
 obtain⟨q0,_,_,_,_,_,a0,a1,a2⟩:=HK.out _ _ _ h5;have ql:=(aJ h5).2.2.2.2.2.2.2.2;have al:=h5.r3.lt;go_upto_region 8 with fail;go_cut [11] from 29 to 39 (fun s11 wx=>∃V:Nat,s11= .pointer (o (t V 0 n))∧Has wx (aM q (o (t g off n)) c l k (aa X1 #[d f 0,d f 0,d f 0] 34*(aa X0 #[d f a.page,d f a.kind,u a.user] 41*(aa V #[d f an.fin,d f an.frame,d f an.rights] 34*R))))∧Ext W wx)
 case first=>
  have h6:=h5.drew;have x6:=x5.drew;have z6:Has (w4.alloc (.cells #[d f 0,d f 0,d f 0] 34)).drew (aM q (o (t g off n)) c l k (aa X1 #[d f 0,d f 0,d f 0] 34*(aa X0 #[d f a.page,d f a.kind,u a.user] 41*(aa w4.heap.size #[d f 0,d f 0,d f 0] 34*R)))):=(h5.new #[d f 0,d f 0,d f 0] 34).drew.eq (by unfold aM;ac_rfl);have y6:=(x5.alloc (.cells #[d f 0,d f 0,d f 0] 34)).drew;go_region_held3 (fun w'=>w'.cell? (t q 0 n)=o (.slice (o (t g off n)) l.length c)∧w'.cell? ⟨g,off+j*5,n⟩=o (d f x.m.page)∧w'.cell? ⟨g,off+j*5+1,n⟩=o (d f x.m.size)∧w'.cell? ⟨g,off+j*5+2,n⟩=o (d f x.m.frame)∧w'.cell? ⟨g,off+j*5+3,n⟩=o (d f x.m.rights)∧w'.cell? ⟨g,off+j*5+4,n⟩=o (u x.dirty)∧w'.cell? (t X0 0 n)=o (d f a.page)∧w'.cell? (t X0 1 n)=o (d f a.kind)∧w'.cell? (t X0 2 n)=o (u a.user)) (first|(with_reducible exact HK.out _ _ _ h6)|(with_reducible exact HK.out _ _ _ z6)|(with_reducible exact HK.out _ _ _ hL)|(with_reducible exact HK.out _ _ _ gL)|(with_reducible exact HK.out _ _ _ hN)|(with_reducible exact HK.out _ _ _ gN)|go_keep) (first|(go_at_call 92;first|((with_reducible refine(HAN.out _).mono ?_);rintro e w7 ⟨rfl,b7⟩;first|(have hL:=h6.below b7;have xL:=x6.below b7;have hN:Has _ (aM q (o (t g off n)) c l k (aa X1 #[d f 0,d f 0,d f 0] 34*(aa X0 #[d f a.page,d f a.kind,u a.user] 41*(aa w7.heap.size #[d f an.fin,d f an.frame,d f an.rights] 34*R)))):=(hL.new #[d f an.fin,d f an.frame,d f an.rights] 34).eq (by unfold aM;ac_rfl))|(have gL:=z6.below b7;have yL:=y6.below b7;have gM:Has _ (aa w4.heap.size #[d f 0,d f 0,d f 0] 34*aM q (o (t g off n)) c l k (aa X1 #[d f 0,d f 0,d f 0] 34*(aa X0 #[d f a.page,d f a.kind,u a.user] 41*R))):=gL.eq (by unfold aM;ac_rfl);obtain⟨z0,z1,z2⟩:=gM.cells3;obtain⟨y0,y1,y2⟩:=gM.frees3;have zl:=gM.lt;have gN:Has _ (aM q (o (t g off n)) c l k (aa X1 #[d f 0,d f 0,d f 0] 34*(aa X0 #[d f a.page,d f a.kind,u a.user] 41*(aa w4.heap.size #[d f an.fin,d f an.frame,d f an.rights] 34*R)))):=(gM.set3 (d f an.fin) (d f an.frame) (d f an.rights)).eq (by unfold aM;ac_rfl)))))
  all_goals
   go_wp2_with fail
   go_meet
   case rel=>first|exact⟨_,rfl,hN,xL.alloc _⟩|exact⟨_,rfl,gN,((yL.set _ _).set _ _).set _ _⟩
 case rest=>
  clear h5 x5 q0 d0 d1 d2 d3 d4 a0 a1 a2 ql al gl HAN;obtain⟨V,rfl,h5,x5⟩:=hcut;obtain⟨q0,_,_,_,_,d4,a0,a1,a2⟩:=HK.out _ _ _ h5;obtain⟨r0,r1,r2⟩:=h5.right.r3.cells3;have rl:=h5.right.r3.lt;have ql:=(aJ h5).2.2.2.2.2.2.2.2;have al:=h5.r3.lt;have gl:g<wc.heap.size:=by
   obtain⟨g',off',e,gl,_⟩:=ir h5.right hj;injection e with e
   injection e with e1 e2
   rw[e1];exact gl
  go_upto_region 9 with fail;go_cut [56] from 39 to 56 (fun s56 wx=>s56=u hit∧wx=wc)
  case first=>
   have hh:=i (show hit=(x.dirty||(a.kind !=1||(an.fin !=0))) by rw[hh.out,hfin.out];rfl);cases hf:(an.fin !=0) with
   |true=>
    rw[hf] at hh;go_wp2_with fail
    go_meet
    case rel=>exact⟨by rw[hh.out];simp,rfl⟩
   |false=>
    rw[hf] at hh;cases hk1:(a.kind !=1) with
    |true=>
     rw[hk1] at hh;go_wp2_with fail
     go_meet
     case rel=>exact⟨by rw[hh.out];simp,rfl⟩
    |false=>
     rw[hk1] at hh;go_wp2_with fail
     go_meet
     case rel=>exact⟨by rw[hh.out];simp,rfl⟩
  case rest=>
   obtain⟨rfl,rfl⟩:=hcut;have hb:=hb.out;cases hit with
   |true=>
    rw[if_pos rfl] at hb;subst hb;try dsimp only
    have h7:Has _ (aa X1 #[d f 0,d f 0,d f 0] 34*(aa V #[d f an.fin,d f an.frame,d f an.rights] 34*(aM q (o (t g off n)) c l k (aa X0 #[d f a.page,d f a.kind,u a.user] 41*R)))):=h5.eq (by unfold aM;ac_rfl);obtain⟨s0,s1,s2⟩:=h7.cells3;obtain⟨g0,g1,g2⟩:=h7.frees3;have sl:=h7.lt;have vn:=h7.ne;have vn':=vn.symm;clear HK;go_wp2_with fail
    refine ak (fun wz=>Has wz (aa X1 #[d f an.fin,d f an.frame,d f an.rights] 34*(aa V #[d f an.fin,d f an.frame,d f an.rights] 34*(aM q (o (t g off n)) c l k (aa X0 #[d f a.page,d f a.kind,u a.user] 41*R))))∧Ext W wz) ⟨h7.set3 _ _ _,ah⟩ ?_;rintro wz ⟨hz,xz⟩;exact s (be results66 rfl rfl rfl (br hz)) rfl ⟨rfl,(bE hz.right.right).p2.right,xz⟩
   |false=>
    rw[if_neg (by simp)] at hb;subst hb;try dsimp only[An.zero]
    clear HK hh;generalize hA':o ((t g off n):Addr)=A at h5;clear hA' q0 d4 a0 a1 a2 r0 r1 r2 rl ql al gl;go_upto_region 11 with fail;go_cut [] from 58 to 64 (fun wx=>Has wx (aM q A c l {k with on:=w,a:=a} (aa X1 #[d f 0,d f 0,d f 0] 34*(aa X0 #[d f a.page,d f a.kind,u a.user] 41*(aa V #[d f an.fin,d f an.frame,d f an.rights] 34*R))))∧Ext W wx)
    case first=>
     have h6:Has _ (cv q (.slice A l.length c) k*(aa X0 #[d f a.page,d f a.kind,u a.user] 41*(gk (.slice A l.length c) l*(aa X1 #[d f 0,d f 0,d f 0] 34*(aa V #[d f an.fin,d f an.frame,d f an.rights] 34*R))))):=h5.eq (by unfold aM;ac_rfl);unfold cv at h6;have n1:=h6.ne;have n2:=n1.symm;obtain⟨a0,a1,a2⟩:=h6.right.cells3;have al:=h6.right.lt;have f1:=h6.free 1;have f2:=h6.free 2;have f3:=h6.free 3;have f4:=h6.free 4;obtain⟨q1,q2,q3,q4,q5,q6,q7,q8,ql⟩:=aJ h5;go_region
     all_goals
      go_wp2_with fail
      go_meet
      case rel=>first|exact⟨(iS h5 a).drew,((((x5.set _ _).set _ _).set _ _).set _ _).drew⟩|exact⟨iS h5.drew a,(((x5.drew.set _ _).set _ _).set _ _).set _ _⟩
    case rest=>
     clear h5 x5;obtain⟨h6,x6⟩:=hcut;go_wp2_with fail
     refine(HAG.out _ _ (bE h6)).mono ?_;rintro e w7 ⟨rfl,h7,x7⟩;have hA:=h7.p2;have xA:=x6.trans x7;obtain⟨r0,r1,r2⟩:=hA.cells3;obtain⟨g0,g1,g2⟩:=hA.frees3;have rl:=hA.lt;clear h6 x6 h7 x7;go_wp2_with fail
     refine ak (fun wz=>Has wz (aa X1 #[d f 0,d f 0,d f 0] 34*(aQ q l (k.begin root a)*(aa X0 #[d f a.page,d f a.kind,u a.user] 41*(aa V #[d f an.fin,d f an.frame,d f an.rights] 34*R))))∧Ext W wz) ⟨hA.set3 _ _ _,ah⟩ ?_;rintro wz ⟨hz,xz⟩;exact s (be results66 rfl rfl rfl (br hz)) rfl ⟨rfl,hz.right.p2.right.p2.right,xz⟩
theorem uU(q:Nat)(l:List Ln)(root:Int)(k:Ck)(a:Ac)(hl:Tl.Ok l)(hp:cL a.page)(R:ab)(W:y)(h:Has W (aQ q l k*R)):
  z prog 66 #[.pointer (o (t q 0 n)),d f root,.agg #[d f a.page,d f a.kind,u a.user]] W
   (cI (.tuple #[.agg #[d f (cW l root k a).an.fin,d f (cW l root k a).an.frame,d f (cW l root k a).an.rights],u (cW l root k a).fin,d f (cW l root k a).code]) (aQ q l (cW l root k a).c *R) W):=by
 by_cases ha:au a=0
 ·cases hon:k.on with
  |true=>
   have e:cW l root k a=⟨An.zero,v,8,k⟩:=by unfold cW;rw[if_neg (by rw[ha];simp),if_pos hon]
   rw[e];exact nX q l root k a ha hon R W h
  |false=>
   have e:cW l root k a=match ji l a with|some r=>⟨r,w,0,k⟩|none=>⟨An.zero,v,0,k.begin root a⟩:=by unfold cW;rw[if_neg (by rw[ha];simp),if_neg (by rw[hon];simp)];rfl
   rcases Tl.idx_find l a.page with ⟨hf,hi⟩|⟨j,hj,hi,hf,_⟩
   ·have e2:ji l a=n:=by unfold ji;rw[hf]
    rw[e2] at e;rw[e];exact nY q l root k a hl ha hp hon hi R W h
   ·cases hu:kZ l[j] a with
    |true=>
     have e2:ji l a=o (bJ l[j].m a):=by
      unfold ji;rw[hf];refine if_pos ?_;unfold kZ at hu;simpa using hu
     rw[e2] at e;exact kK q l root k a hl ha hp hon j hj hi _ (i rfl) _ (i rfl) w (i hu.symm) _ (i e) R W h
    |false=>
     have e2:ji l a=n:=by
      unfold ji;rw[hf];refine if_neg fun h=> ?_;have:kZ l[j] a=w:=by unfold kZ;simpa using h
      rw[this] at hu;cases hu
     rw[e2] at e;exact kK q l root k a hl ha hp hon j hj hi _ (i rfl) _ (i rfl) v (i hu.symm) _ (i e) R W h
 ·have e:cW l root k a=⟨An.zero,v,au a,k⟩:=by unfold cW;rw[if_pos ha]
  rw[e];exact pb q l root k a ha R W h
end Go.Proofs.YtmfheghbgihdmaaGreat
