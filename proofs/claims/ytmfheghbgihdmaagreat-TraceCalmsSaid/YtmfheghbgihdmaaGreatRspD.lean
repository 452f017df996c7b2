/- Contract of the document's Space: Do. -/
import Derived.Deep.MidRow
import Derived.Test.YtmfheghbgihdmaaGreatCoreR2
import Derived.Test.YtmfheghbgihdmaaGreatRspA
import Derived.Test.YtmfheghbgihdmaaGreatBkSl
namespace Go.Proofs.YtmfheghbgihdmaaGreat
open Go.Value renaming int→n,bool→v
open Go.IntKind renaming i64→o
open Bool renaming false→u,true→N
open Option renaming none→B,some→C
open Go renaming bodyPost_ret→D,World→K
open Go.Addr renaming mk→F
open Go.Lib renaming hid→H
open Go.Proofs.YtmfheghbgihdmaaGreat renaming Has→I,Ext→L,dl→O
open List renaming getElem?_eq_getElem→J
open Tryz
open Go.RowKit
set_option maxRecDepth 100000
theorem sR{cs:List Cr}{k:Nat}{c:Cr}(h:cs[k]? =C c):cs.set k c=cs:=by
 refine List.ext_getElem? fun i=> ?_;rw[List.getElem?_set];split
 ·rename_i hki
  subst hki;split
  ·exact h.symm
  ·rename_i hn
   exact absurd (List.getElem?_eq_some_iff.1 h).1 hn
 ·rfl
theorem uB{w:K}{R:ab}{b:Nat}{v0 v1 v2 v3 v4 v5:Value}{t:TypeId}(h:I w (aa b #[v0,v1,v2,v3,v4,v5] t*R)):w.there b 0 6:=by
 intro j hj;have c:=h.cell j;have f:=h.free j;rw[Nat.zero_add];refine⟨?_,f⟩;rw[c];rw[Array.getElem?_eq_getElem (by exact hj)];rfl
set_option maxHeartbeats 40000000 in
theorem Ax(b:Nat)(σ:Sc)(x:Stp)(hok:σ.Ok)(hx:x.ok)(R:ab)(w:K)(h:I w (cj b σ*R)):
  Calls prog 17 #[.pointer (C (F b 0 B)),.agg #[n o x.kind,n o x.core,n o x.m.page,n o x.m.size,n o x.m.frame,n o x.m.rights,n o x.a.page,n o x.a.kind,v x.a.user]] w (cR (σ.act x).2.val (cj b (σ.act x).1*R) w):=by
 have HCH:=H (fun R w h=>wo b σ x hok R w h);have HAC:=H (fun k (hk:k<σ.cs.length) R w h=>Aw b σ k hok hk R w h);have hact:σ.act x=if 1≤x.kind∧x.kind≤3 then σ.change x else if x.kind<1∨7<x.kind then(σ,.no 2) else if x.core<0∨(σ.cs.length:Int)≤x.core then(σ,.no 1)
  else if x.kind=4 then σ.access x.core.toNat x.a else if x.kind=5 then σ.walk x.core.toNat else if x.kind=6 then σ.ack x.core.toNat else σ.evict x.core.toNat:=rfl
 obtain⟨hop,_,hMo,hAo⟩:=hx;obtain⟨kx,cx,mx,ax⟩:=x;dsimp only at*
 have h0:I _ (cj b σ*(aa w.heap.size #[n o kx,n o cx,n o mx.page,n o mx.size,n o mx.frame,n o mx.rights,n o ax.page,n o ax.kind,v ax.user] 43*(aa (w.heap.size+1) #[n o 0,v u,n o 0,n o 0,n o 0,v u] 36*R))):=((h.new #[n o kx,n o cx,n o mx.page,n o mx.size,n o mx.frame,n o mx.rights,n o ax.page,n o ax.kind,v ax.user] 43).new #[n o 0,v u,n o 0,n o 0,n o 0,v u] 36).eq (by simp only[World.size_alloc];ac_rfl);have x0:=((Ext.refl w).alloc (.cells #[n o kx,n o cx,n o mx.page,n o mx.size,n o mx.frame,n o mx.rights,n o ax.page,n o ax.kind,v ax.user] 43)).alloc (.cells #[n o 0,v u,n o 0,n o 0,n o 0,v u] 36);clear h;by_cases hc:1≤kx∧kx≤3
 ·rw[if_pos hc] at hact
  rw[hact];unfold Ev.val at HCH⊢;generalize σ.change ⟨kx,cx,mx,ax⟩=q at*
  obtain⟨σ',⟨ec,ef,⟨ea,eb,er⟩,ek⟩⟩:=q;dsimp only at*
  clear HAC hact hok;obtain⟨d0,d1,d2,d3,d4,d5,d6,d7,d8⟩:=h0.right.cells9;have O:=h0.right.lt;go_enter func17,ntmps17;go_upto_region 1 with fail;generalize (w.alloc (.cells #[n o kx,n o cx,n o mx.page,n o mx.size,n o mx.frame,n o mx.rights,n o ax.page,n o ax.kind,v ax.user] 43)).alloc (.cells #[n o 0,v u,n o 0,n o 0,n o 0,v u] 36)=w1 at*
  generalize w.heap.size=X at*
  generalize X+1=E at*
  go_cut [25] from 13 to 25 (fun s25 wx=>s25=v N∧wx=w1)
  case first=>
   have hk3:kx=1∨kx=2∨kx=3:=by omega
   clear HCH h0 x0;rcases hk3 with rfl|rfl|rfl
   ·go_wp2_with fail
    go_meet
    case rel=>exact⟨rfl,rfl⟩
   ·go_wp2_with fail
    go_meet
    case rel=>exact⟨rfl,rfl⟩
   ·go_wp2_with fail
    go_meet
    case rel=>exact⟨rfl,rfl⟩
  case rest=>
   obtain⟨rfl,hw⟩:=hcut;replace hw:=hw.symm;subst hw;go_wp2_with fail
   refine(HCH.out _ _ h0).mono ?_;rintro e w2 ⟨rfl,h2,x2⟩;have h3:I _ (aa E #[n o 0,v u,n o 0,n o 0,n o 0,v u] 36*(cj b σ'*(aa X #[n o kx,n o cx,n o mx.page,n o mx.size,n o mx.frame,n o mx.rights,n o ax.page,n o ax.kind,v ax.user] 43*R))):=h2.eq (by ac_rfl);have x3:=x0.trans x2;clear h0 x0 h2 x2 d0 d1 d2 d3 d4 d5 d6 d7 d8 O HCH;obtain⟨e0,e1,e2,e3,e4,e5⟩:=h3.cells6;obtain⟨f0,f1,f2,f3,f4,f5⟩:=h3.frees6;have el:=h3.lt;go_wp2_with fail
   refine am (fun wz=>I wz (aa E #[n o ec,v ef,n o ea,n o eb,n o er,v ek] 36*(cj b σ'*(aa X #[n o kx,n o cx,n o mx.page,n o mx.size,n o mx.frame,n o mx.rights,n o ax.page,n o ax.kind,v ax.user] 43*R)))∧L w wz) ⟨h3.set6 _ _ _ _ _ _,ah⟩ ?_;rintro wz ⟨hz,xz⟩;exact D (aG results17 rfl (aM hz)) rfl ⟨rfl,hz.right.p2.right,xz⟩
 rw[if_neg hc] at hact;have n1:(kx==1)=u:=by simp;omega
 have n2:(kx==2)=u:=by simp;omega
 have n3:(kx==3)=u:=by simp;omega
 have d0:=h0.right.cell 0;have O:=h0.right.lt;by_cases hc2:kx<1∨7<kx
 ·rw[if_pos hc2] at hact
  rw[hact];clear HCH HAC hact hok hc;have h3:I _ (aa (w.heap.size+1) #[n o 0,v u,n o 0,n o 0,n o 0,v u] 36*(cj b σ*(aa w.heap.size #[n o kx,n o cx,n o mx.page,n o mx.size,n o mx.frame,n o mx.rights,n o ax.page,n o ax.kind,v ax.user] 43*R))):=h0.eq (by ac_rfl);rcases hc2 with k1|k7
  ·go_enter func17,ntmps17
   go_upto_region 4 with fail;generalize (w.alloc (.cells #[n o kx,n o cx,n o mx.page,n o mx.size,n o mx.frame,n o mx.rights,n o ax.page,n o ax.kind,v ax.user] 43)).alloc (.cells #[n o 0,v u,n o 0,n o 0,n o 0,v u] 36)=w1 at*
   generalize w.heap.size+1=E at*
   obtain⟨e0,e1,e2,e3,e4,e5⟩:=h3.cells6;obtain⟨f0,f1,f2,f3,f4,f5⟩:=h3.frees6;have el:=h3.lt;go_wp2_with fail
   refine am (fun wz=>I wz (aa E #[n o 2,v u,n o 0,n o 0,n o 0,v u] 36*(cj b σ*(aa w.heap.size #[n o kx,n o cx,n o mx.page,n o mx.size,n o mx.frame,n o mx.rights,n o ax.page,n o ax.kind,v ax.user] 43*R)))∧L w wz) ⟨h3.set6 _ _ _ _ _ _,ah⟩ ?_;rintro wz ⟨hz,xz⟩;exact D (aG results17 rfl (aM hz)) rfl ⟨rfl,hz.right.p2.right,xz⟩
  ·have k1:¬kx<1:=by omega
   go_enter func17,ntmps17;go_upto_region 4 with fail;generalize (w.alloc (.cells #[n o kx,n o cx,n o mx.page,n o mx.size,n o mx.frame,n o mx.rights,n o ax.page,n o ax.kind,v ax.user] 43)).alloc (.cells #[n o 0,v u,n o 0,n o 0,n o 0,v u] 36)=w1 at*
   generalize w.heap.size+1=E at*
   obtain⟨e0,e1,e2,e3,e4,e5⟩:=h3.cells6;obtain⟨f0,f1,f2,f3,f4,f5⟩:=h3.frees6;have el:=h3.lt;go_wp2_with fail
   refine am (fun wz=>I wz (aa E #[n o 2,v u,n o 0,n o 0,n o 0,v u] 36*(cj b σ*(aa w.heap.size #[n o kx,n o cx,n o mx.page,n o mx.size,n o mx.frame,n o mx.rights,n o ax.page,n o ax.kind,v ax.user] 43*R)))∧L w wz) ⟨h3.set6 _ _ _ _ _ _,ah⟩ ?_;rintro wz ⟨hz,xz⟩;exact D (aG results17 rfl (aM hz)) rfl ⟨rfl,hz.right.p2.right,xz⟩
 rw[if_neg hc2] at hact;have k1:¬kx<1:=by omega
 have k7:¬7<kx:=by omega
 have d1:=h0.right.cell 1;by_cases hc3:cx<0∨(σ.cs.length:Int)≤cx
 ·rw[if_pos hc3] at hact
  rw[hact];have h3:I _ (aa (w.heap.size+1) #[n o 0,v u,n o 0,n o 0,n o 0,v u] 36*(cj b σ*(aa w.heap.size #[n o kx,n o cx,n o mx.page,n o mx.size,n o mx.frame,n o mx.rights,n o ax.page,n o ax.kind,v ax.user] 43*R))):=h0.eq (by ac_rfl);obtain⟨y,hy,h4⟩:=fu h0;unfold fC at h4;obtain⟨b0,b1,b2,b3,b4,b5,b6,b7,b8,b9⟩:=h4.cells10;have bl:=h4.lt;rw[←hy] at hc3;clear HCH HAC hact hok hc hc2 h0 h4 hy b0 b1 b3 b4 b5 b6 b7 b8 b9;rcases hc3 with n0|n1'
  ·go_enter func17,ntmps17
   go_upto_region 5 with fail;go_region
   all_goals
    go_upto_region 6 with fail;generalize (w.alloc (.cells #[n o kx,n o cx,n o mx.page,n o mx.size,n o mx.frame,n o mx.rights,n o ax.page,n o ax.kind,v ax.user] 43)).alloc (.cells #[n o 0,v u,n o 0,n o 0,n o 0,v u] 36)=w1 at*
    generalize w.heap.size+1=E at*
    have g3:=h3.drew;have y0:=x0.drew;generalize w1.drew=w5 at*
    obtain⟨e0,e1,e2,e3,e4,e5⟩:=g3.cells6;obtain⟨f0,f1,f2,f3,f4,f5⟩:=g3.frees6;have el:=g3.lt;go_wp2_with fail
    refine am (fun wz=>I wz (aa E #[n o 1,v u,n o 0,n o 0,n o 0,v u] 36*(cj b σ*(aa w.heap.size #[n o kx,n o cx,n o mx.page,n o mx.size,n o mx.frame,n o mx.rights,n o ax.page,n o ax.kind,v ax.user] 43*R)))∧L w wz) ⟨g3.set6 _ _ _ _ _ _,ah⟩ ?_;rintro wz ⟨hz,xz⟩;exact D (aG results17 rfl (aM hz)) rfl ⟨rfl,hz.right.p2.right,xz⟩
  ·have n0:¬cx<0:=by omega
   go_enter func17,ntmps17;go_upto_region 5 with fail;go_region
   all_goals
    go_upto_region 6 with fail;generalize (w.alloc (.cells #[n o kx,n o cx,n o mx.page,n o mx.size,n o mx.frame,n o mx.rights,n o ax.page,n o ax.kind,v ax.user] 43)).alloc (.cells #[n o 0,v u,n o 0,n o 0,n o 0,v u] 36)=w1 at*
    generalize w.heap.size+1=E at*
    have g3:=h3.drew;have y0:=x0.drew;generalize w1.drew=w5 at*
    obtain⟨e0,e1,e2,e3,e4,e5⟩:=g3.cells6;obtain⟨f0,f1,f2,f3,f4,f5⟩:=g3.frees6;have el:=g3.lt;go_wp2_with fail
    refine am (fun wz=>I wz (aa E #[n o 1,v u,n o 0,n o 0,n o 0,v u] 36*(cj b σ*(aa w.heap.size #[n o kx,n o cx,n o mx.page,n o mx.size,n o mx.frame,n o mx.rights,n o ax.page,n o ax.kind,v ax.user] 43*R)))∧L w wz) ⟨g3.set6 _ _ _ _ _ _,ah⟩ ?_;rintro wz ⟨hz,xz⟩;exact D (aG results17 rfl (aM hz)) rfl ⟨rfl,hz.right.p2.right,xz⟩
 rw[if_neg hc3] at hact;obtain⟨k,hk⟩:=Int.eq_ofNat_of_zero_le (show 0≤cx by omega);subst hk;rw[show((k:Int)).toNat =k from rfl] at hact;have hkl:k<σ.cs.length:=by omega
 have hcr:=Sc.core_ok hok k;have hat:=Safe.at_core hkl;have hso:=hok.s;have HACK:=H (fun R w h=>HAC.out k hkl R w h);unfold Ev.val at HACK;have ho7:kx≠4→kx≠5→kx≠6→kx=7:=by omega
 clear HCH HAC hc hc2 hc3 hop hok;obtain⟨y,hy,h4⟩:=fu h0;have hkp:k<y.ps.length:=by omega
 have hkl':(k:Int)<y.ps.length:=by omega
 obtain⟨Q,eQ,eS⟩:=jU (J hkp) hat;have HS:=H (fun(s':Ms) (c':Cr) (w':K) (R':ab) (h:I w' (fC b {σ.put k c' with s:=s'} y R'))=>il (σ:={σ.put k c' with s:=s'}) (by rw[hy];exact(Sc.put_len σ k c').symm) h);unfold fC at h4;unfold fC Sc.put at HS;dsimp only at HS;obtain⟨bA,hA,lA,cA⟩:=jx h4.right (J hkp);rw[eQ] at h4;have HS2:=H (fun(s':Ms) (c':Cr) (w':K) (R':ab) h=>HS.out s' c' w' R' (by rw[eS c'];exact h));have hset:σ.cs.set k (σ.core k)=σ.cs:=sR hat;clear HS eS eQ hy hat;obtain⟨b0,b1,b2,-⟩:=h4.cells10;have bl:=h4.lt;rw[hA] at b2;generalize y.ps[k]=p at*
 have h5:I _ (aQ p (σ.core k).l (σ.core k).k *(az y.m σ.s*((aa b #[.pointer (C (F y.m 0 B)),n o 0,.slice y.A y.ps.length y.c,v σ.busy,.slice y.G σ.gone.length y.d,n o σ.told.page,n o σ.told.size,n o σ.told.frame,n o σ.told.rights,.slice (C (F y.gw 0 B)) y.ps.length y.ps.length] 52*(bH (.slice y.A y.ps.length y.c) y.ps*(ao (.slice y.G σ.gone.length y.d) σ.gone*(aa y.gw (bo y.ps.length (bJ σ.wait)) 4*Q))))*(aa w.heap.size #[n o kx,n o k,n o mx.page,n o mx.size,n o mx.frame,n o mx.rights,n o ax.page,n o ax.kind,v ax.user] 43*(aa (w.heap.size+1) #[n o 0,v u,n o 0,n o 0,n o 0,v u] 36*R))))):=h4.drew.eq (by ac_rfl);have HS3:=H (fun(s':Ms) (c':Cr) (w':K) (R':ab) (h:I w' (aQ p c'.l c'.k*(az y.m s'*((aa b #[.pointer (C (F y.m 0 B)),n o 0,.slice y.A y.ps.length y.c,v σ.busy,.slice y.G σ.gone.length y.d,n o σ.told.page,n o σ.told.size,n o σ.told.frame,n o σ.told.rights,.slice (C (F y.gw 0 B)) y.ps.length y.ps.length] 52*(bH (.slice y.A y.ps.length y.c) y.ps*(ao (.slice y.G σ.gone.length y.d) σ.gone*(aa y.gw (bo y.ps.length (bJ σ.wait)) 4*Q))))*R'))))=>HS2.out s' c' w' R' (h.eq (by ac_rfl)));have HB:=H (fun(w':K) (P Q' R':ab) (h:I w' (P*(Q'*((aa b #[.pointer (C (F y.m 0 B)),n o 0,.slice y.A y.ps.length y.c,v σ.busy,.slice y.G σ.gone.length y.d,n o σ.told.page,n o σ.told.size,n o σ.told.frame,n o σ.told.rights,.slice (C (F y.gw 0 B)) y.ps.length y.ps.length] 52*(bH (.slice y.A y.ps.length y.c) y.ps*(ao (.slice y.G σ.gone.length y.d) σ.gone*(aa y.gw (bo y.ps.length (bJ σ.wait)) 4*Q))))*(aa w.heap.size #[n o kx,n o k,n o mx.page,n o mx.size,n o mx.frame,n o mx.rights,n o ax.page,n o ax.kind,v ax.user] 43*R')))))=>(by
  have h1:I w' (aa b #[.pointer (C (F y.m 0 B)),n o 0,.slice y.A y.ps.length y.c,v σ.busy,.slice y.G σ.gone.length y.d,n o σ.told.page,n o σ.told.size,n o σ.told.frame,n o σ.told.rights,.slice (C (F y.gw 0 B)) y.ps.length y.ps.length] 52*((bH (.slice y.A y.ps.length y.c) y.ps*(ao (.slice y.G σ.gone.length y.d) σ.gone*(aa y.gw (bo y.ps.length (bJ σ.wait)) 4*Q)))*(aa w.heap.size #[n o kx,n o k,n o mx.page,n o mx.size,n o mx.frame,n o mx.rights,n o ax.page,n o ax.kind,v ax.user] 43*R'))):=(h.right.right).a1;exact⟨h1.cell 0,h1.cell 1,h.r3.cell 6,h.r3.cell 7,h.r3.cell 8⟩:w'.cell? (F b 0 B)=C (.pointer (C (F y.m 0 B)))∧w'.cell? (F b 1 B)=C (n o 0)∧w'.cell? (F w.heap.size 6 B)=C (n o ax.page)∧w'.cell? (F w.heap.size 7 B)=C (n o ax.kind)∧w'.cell? (F w.heap.size 8 B)=C (v ax.user)))
 have HBL:=H (fun(w':K) (P Q' R':ab) (h:I w' (P*(Q'*((aa b #[.pointer (C (F y.m 0 B)),n o 0,.slice y.A y.ps.length y.c,v σ.busy,.slice y.G σ.gone.length y.d,n o σ.told.page,n o σ.told.size,n o σ.told.frame,n o σ.told.rights,.slice (C (F y.gw 0 B)) y.ps.length y.ps.length] 52*(bH (.slice y.A y.ps.length y.c) y.ps*(ao (.slice y.G σ.gone.length y.d) σ.gone*(aa y.gw (bo y.ps.length (bJ σ.wait)) 4*Q))))*(aa w.heap.size #[n o kx,n o k,n o mx.page,n o mx.size,n o mx.frame,n o mx.rights,n o ax.page,n o ax.kind,v ax.user] 43*R')))))=>(by
  have h1:I w' (aa b #[.pointer (C (F y.m 0 B)),n o 0,.slice y.A y.ps.length y.c,v σ.busy,.slice y.G σ.gone.length y.d,n o σ.told.page,n o σ.told.size,n o σ.told.frame,n o σ.told.rights,.slice (C (F y.gw 0 B)) y.ps.length y.ps.length] 52*((bH (.slice y.A y.ps.length y.c) y.ps*(ao (.slice y.G σ.gone.length y.d) σ.gone*(aa y.gw (bo y.ps.length (bJ σ.wait)) 4*Q)))*(aa w.heap.size #[n o kx,n o k,n o mx.page,n o mx.size,n o mx.frame,n o mx.rights,n o ax.page,n o ax.kind,v ax.user] 43*R'))):=(h.right.right).a1;exact⟨h1.lt,h.r3.lt⟩:b<w'.heap.size∧w.heap.size<w'.heap.size))
 generalize (aa b #[.pointer (C (F y.m 0 B)),n o 0,.slice y.A y.ps.length y.c,v σ.busy,.slice y.G σ.gone.length y.d,n o σ.told.page,n o σ.told.size,n o σ.told.frame,n o σ.told.rights,.slice (C (F y.gw 0 B)) y.ps.length y.ps.length] 52*(bH (.slice y.A y.ps.length y.c) y.ps*(ao (.slice y.G σ.gone.length y.d) σ.gone*(aa y.gw (bo y.ps.length (bJ σ.wait)) 4*Q))))=Z at*
 have h0d:=h0.drew;have x0d:=x0.drew;clear h0 h4 HS2;have hk0:¬(k:Int)<0:=by omega
 have hdk:=H (show decide (y.ps.length≤k)=u from decide_eq_false (by omega));by_cases o4:kx=4
 ·as_aux_lemma=>
  rw[hact,if_pos o4];unfold Sc.access;have HBG:=H (fun R w h=>yp p (σ.core k).l 0 (σ.core k).k ax hcr.1 hAo.1 R w h);generalize σ.core k=cc at*
  generalize ce cc.l 0 cc.k ax=q at*
  obtain⟨⟨qa,qf,qr⟩,fin,code,ck'⟩:=q;have HS4:=H (HS3.out σ.s ⟨cc.l,ck'⟩);unfold Ev.val;dsimp only at*
  subst o4;clear HACK h0d hact hcr HS3 hset;go_enter func17,ntmps17;go_upto_region 5 with fail;go_region;go_upto_region 7 with fail;go_region;go_upto_region 10 with fail;rw[hdk.out];generalize (w.alloc (.cells #[n o 4,n o k,n o mx.page,n o mx.size,n o mx.frame,n o mx.rights,n o ax.page,n o ax.kind,v ax.user] 43)).alloc (.cells #[n o 0,v u,n o 0,n o 0,n o 0,v u] 36)=w1 at*
  generalize w.heap.size=X at*
  generalize X+1=E at*
  have g5:=h5.drew;have y5:=x0d.drew;clear h5 x0d b0 b1 b2 bl cA lA d0 d1 O;generalize w1.drew.drew=w2 at*
  obtain⟨cl,xl⟩:=HBL.out _ _ _ _ g5;go_cut [6,7,8] from 64 to 75 (fun s6 s7 s8 wx=>∃M:Nat,s6= .pointer (C (F M 0 B))∧s7=v fin∧s8=n o code∧I wx (aa M #[n o qa,n o qf,n o qr] 34*(aQ p cc.l ck'*(az y.m σ.s*(Z*(aa X #[n o 4,n o k,n o mx.page,n o mx.size,n o mx.frame,n o mx.rights,n o ax.page,n o ax.kind,v ax.user] 43*(aa E #[n o 0,v u,n o 0,n o 0,n o 0,v u] 36*R))))))∧L w wx)
  case first=>
   clear HS4 HBL;have hd:=g5.drew;have xd:=y5.drew;have zd:I (w2.alloc (.cells #[n o 0,n o 0,n o 0] 34)).drew (aQ p cc.l cc.k*(az y.m σ.s*(Z*(aa X #[n o 4,n o k,n o mx.page,n o mx.size,n o mx.frame,n o mx.rights,n o ax.page,n o ax.kind,v ax.user] 43*(aa E #[n o 0,v u,n o 0,n o 0,n o 0,v u] 36*(aa w2.heap.size #[n o 0,n o 0,n o 0] 34*R)))))):=(g5.new #[n o 0,n o 0,n o 0] 34).drew.eq (by ac_rfl);have yd:=(y5.alloc (.cells #[n o 0,n o 0,n o 0] 34)).drew;go_region_held3 (fun w'=>w'.cell? (F b 0 B)=C (.pointer (C (F y.m 0 B)))∧w'.cell? (F b 1 B)=C (n o 0)∧w'.cell? (F X 6 B)=C (n o ax.page)∧w'.cell? (F X 7 B)=C (n o ax.kind)∧w'.cell? (F X 8 B)=C (v ax.user)) (first|(with_reducible exact HB.out _ _ _ _ hd)|(with_reducible exact HB.out _ _ _ _ zd)|(with_reducible exact HB.out _ _ _ _ hL)|(with_reducible exact HB.out _ _ _ _ (hL.alloc _))|(with_reducible exact HB.out _ _ _ _ gL.right)|(with_reducible exact HB.out _ _ _ _ gM.right)|go_keep) (first|(go_at_call 66;first|((with_reducible refine(HBG.out _ _ hd).mono ?_);rintro e w5 ⟨rfl,hL,x6⟩;have xL:=xd.trans x6)|((with_reducible refine(HBG.out _ _ zd).mono ?_);rintro e w5 ⟨rfl,g6,y6⟩;have gL:I w5 (aa w2.heap.size #[n o 0,n o 0,n o 0] 34*(aQ p cc.l ck'*(az y.m σ.s*(Z*(aa X #[n o 4,n o k,n o mx.page,n o mx.size,n o mx.frame,n o mx.rights,n o ax.page,n o ax.kind,v ax.user] 43*(aa E #[n o 0,v u,n o 0,n o 0,n o 0,v u] 36*R)))))):=g6.eq (by ac_rfl);have yL:=yd.trans y6;obtain⟨y0,y1,y2⟩:=gL.frees3;obtain⟨z0,z1,z2⟩:=gL.cells3;have zl:=gL.lt;have gM:=gL.set3 (n o qa) (n o qf) (n o qr))))
   all_goals
    go_wp2_with fail
    go_meet
    case rel=>first|exact⟨_,rfl,rfl,rfl,hL.new #[n o qa,n o qf,n o qr] 34,xL.alloc _⟩|exact⟨_,rfl,rfl,rfl,gM,((yL.set _ _).set _ _).set _ _⟩
  case rest=>
   obtain⟨M,rfl,rfl,rfl,h7,x7⟩:=hcut;clear g5 y5 HBG HB HBL cl xl;have h8:I _ (aa E #[n o 0,v u,n o 0,n o 0,n o 0,v u] 36*(aa M #[n o qa,n o qf,n o qr] 34*(aQ p cc.l ck'*(az y.m σ.s*(Z*(aa X #[n o 4,n o k,n o mx.page,n o mx.size,n o mx.frame,n o mx.rights,n o ax.page,n o ax.kind,v ax.user] 43*R)))))):=h7.eq (by ac_rfl);obtain⟨m0,m1,m2⟩:=h7.cells3;have ml:=h7.lt;obtain⟨e0,e1,e2,e3,e4,e5⟩:=h8.cells6;obtain⟨f0,f1,f2,f3,f4,f5⟩:=h8.frees6;have el:=h8.lt;clear h7;go_wp2_with fail
   refine am (fun wz=>I wz (aa E #[n o code,v fin,n o qa,n o qf,n o qr,v u] 36*(aa M #[n o qa,n o qf,n o qr] 34*(aQ p cc.l ck'*(az y.m σ.s*(Z*(aa X #[n o 4,n o k,n o mx.page,n o mx.size,n o mx.frame,n o mx.rights,n o ax.page,n o ax.kind,v ax.user] 43*R))))))∧L w wz) ⟨h8.set6 _ _ _ _ _ _,ah⟩ ?_;rintro wz ⟨hz,xz⟩;exact D (aG results17 rfl (aM hz)) rfl ⟨rfl,((HS4.out _ (aa M #[n o qa,n o qf,n o qr] 34*(aa X #[n o 4,n o k,n o mx.page,n o mx.size,n o mx.frame,n o mx.rights,n o ax.page,n o ax.kind,v ax.user] 43*R)) (hz.right.eq (by ac_rfl))).eq (show _=aa M #[n o qa,n o qf,n o qr] 34*(aa X #[n o 4,n o k,n o mx.page,n o mx.size,n o mx.frame,n o mx.rights,n o ax.page,n o ax.kind,v ax.user] 43*_) by ac_rfl)).right.right,xz⟩
 by_cases o5:kx=5
 ·as_aux_lemma=>
  rw[hact,if_neg o4,if_pos o5];unfold Sc.walk;have HST:=H (fun XL R w h=>zt p y.m XL 0 (σ.core k).l (σ.core k).k σ.s hso hcr.2 R w h);have HPT:=H (fun ck R w h=>ze p (σ.core k).l ck (aL σ.s 0 (σ.core k).k).r.ln R w hcr.1 (mZ σ.s 0 (σ.core k).k) h);generalize σ.core k=cc at*
  generalize aL σ.s 0 cc.k=q at*
  obtain⟨ck',s',⟨fin,⟨qa,qf,qr⟩,ln⟩,code⟩:=q;obtain⟨l',hl'⟩:∃l',gQ cc.l ⟨fin,⟨qa,qf,qr⟩,ln⟩=l':=⟨_,rfl⟩;have HS4:=H (HS3.out s' ⟨l',ck'⟩);unfold Ev.val;dsimp only at*
  rw[hl'];have HL:=H hl';subst o5;clear HACK h0d hact hcr HS3 hset o4 hl' hso;go_enter func17,ntmps17;go_upto_region 5 with fail;go_region;go_upto_region 7 with fail;go_region;go_upto_region 13 with fail;rw[hdk.out];generalize (w.alloc (.cells #[n o 5,n o k,n o mx.page,n o mx.size,n o mx.frame,n o mx.rights,n o ax.page,n o ax.kind,v ax.user] 43)).alloc (.cells #[n o 0,v u,n o 0,n o 0,n o 0,v u] 36)=w1 at*
  generalize w.heap.size=X at*
  generalize X+1=E at*
  have g5:=h5.drew;have y5:=x0d.drew;clear h5 x0d b0 b1 b2 bl cA lA d0 d1 O;generalize w1.drew.drew=w2 at*
  have g6:I _ (aQ p cc.l cc.k*(az y.m σ.s*(Z*(aa X #[n o 5,n o k,n o mx.page,n o mx.size,n o mx.frame,n o mx.rights,n o ax.page,n o ax.kind,v ax.user] 43*(aa w2.heap.size #[n o 0,n o 0,n o 0,n o 0,v u] 129*(aa E #[n o 0,v u,n o 0,n o 0,n o 0,v u] 36*R)))))):=(g5.new #[n o 0,n o 0,n o 0,n o 0,v u] 129).eq (by ac_rfl);have y6:=y5.alloc (.cells #[n o 0,n o 0,n o 0,n o 0,v u] 129);clear g5 y5;go_upto_region 14 with fail;generalize w2.alloc _=w3 at*
  generalize w2.heap.size=XL at*
  obtain⟨cl,xl⟩:=HBL.out _ _ _ _ g6;go_cut [10,11,12] from 82 to 95 (fun s6 s7 s8 wx=>∃M:Nat,s6= .pointer (C (F M 0 B))∧s7=v fin∧s8=n o code∧I wx (aa M #[n o qa,n o qf,n o qr] 34*(aQ p cc.l ck'*(az y.m s'*(Z*(aa X #[n o 5,n o k,n o mx.page,n o mx.size,n o mx.frame,n o mx.rights,n o ax.page,n o ax.kind,v ax.user] 43*(aa XL #[n o ln.m.page,n o ln.m.size,n o ln.m.frame,n o ln.m.rights,v ln.dirty] 129*(aa E #[n o 0,v u,n o 0,n o 0,n o 0,v u] 36*R)))))))∧L w wx)
  case first=>
   clear HS4 HBL HPT HL;have hd:=g6.drew;have xd:=y6.drew;have hd':I _ (aQ p cc.l cc.k*(az y.m σ.s*(aa XL #[n o 0,n o 0,n o 0,n o 0,v u] 129*(Z*(aa X #[n o 5,n o k,n o mx.page,n o mx.size,n o mx.frame,n o mx.rights,n o ax.page,n o ax.kind,v ax.user] 43*(aa E #[n o 0,v u,n o 0,n o 0,n o 0,v u] 36*R)))))):=hd.eq (by ac_rfl);have zd:I (w3.alloc (.cells #[n o 0,n o 0,n o 0] 34)).drew (aQ p cc.l cc.k*(az y.m σ.s*(Z*(aa X #[n o 5,n o k,n o mx.page,n o mx.size,n o mx.frame,n o mx.rights,n o ax.page,n o ax.kind,v ax.user] 43*(aa XL #[n o 0,n o 0,n o 0,n o 0,v u] 129*(aa E #[n o 0,v u,n o 0,n o 0,n o 0,v u] 36*(aa w3.heap.size #[n o 0,n o 0,n o 0] 34*R))))))):=(g6.new #[n o 0,n o 0,n o 0] 34).drew.eq (by ac_rfl);have zd':I _ (aQ p cc.l cc.k*(az y.m σ.s*(aa XL #[n o 0,n o 0,n o 0,n o 0,v u] 129*(Z*(aa X #[n o 5,n o k,n o mx.page,n o mx.size,n o mx.frame,n o mx.rights,n o ax.page,n o ax.kind,v ax.user] 43*(aa E #[n o 0,v u,n o 0,n o 0,n o 0,v u] 36*(aa w3.heap.size #[n o 0,n o 0,n o 0] 34*R))))))):=zd.eq (by ac_rfl);have yd:=(y6.alloc (.cells #[n o 0,n o 0,n o 0] 34)).drew;go_region_held3 (fun w'=>w'.cell? (F b 0 B)=C (.pointer (C (F y.m 0 B)))∧w'.cell? (F b 1 B)=C (n o 0)∧w'.cell? (F X 6 B)=C (n o ax.page)∧w'.cell? (F X 7 B)=C (n o ax.kind)∧w'.cell? (F X 8 B)=C (v ax.user)) (first|(with_reducible exact HB.out _ _ _ _ hd)|(with_reducible exact HB.out _ _ _ _ zd)|(with_reducible exact HB.out _ _ _ _ hL)|(with_reducible exact HB.out _ _ _ _ (hL.alloc _))|(with_reducible exact HB.out _ _ _ _ gL.right)|(with_reducible exact HB.out _ _ _ _ gM.right)|go_keep) (first|(go_at_call 67;first|((with_reducible refine(HST.out XL _ _ hd').mono ?_);rintro e w5 ⟨rfl,h6,x6⟩;have hL:I w5 (aQ p cc.l ck'*(az y.m s'*(Z*(aa X #[n o 5,n o k,n o mx.page,n o mx.size,n o mx.frame,n o mx.rights,n o ax.page,n o ax.kind,v ax.user] 43*(aa XL #[n o ln.m.page,n o ln.m.size,n o ln.m.frame,n o ln.m.rights,v ln.dirty] 129*(aa E #[n o 0,v u,n o 0,n o 0,n o 0,v u] 36*R)))))):=h6.eq (by ac_rfl);have xL:=xd.trans x6)|((with_reducible refine(HST.out XL _ _ zd').mono ?_);rintro e w5 ⟨rfl,k6,y7⟩;have gL:I w5 (aa w3.heap.size #[n o 0,n o 0,n o 0] 34*(aQ p cc.l ck'*(az y.m s'*(Z*(aa X #[n o 5,n o k,n o mx.page,n o mx.size,n o mx.frame,n o mx.rights,n o ax.page,n o ax.kind,v ax.user] 43*(aa XL #[n o ln.m.page,n o ln.m.size,n o ln.m.frame,n o ln.m.rights,v ln.dirty] 129*(aa E #[n o 0,v u,n o 0,n o 0,n o 0,v u] 36*R))))))):=k6.eq (by ac_rfl);have yL:=yd.trans y7;obtain⟨y0,y1,y2⟩:=gL.frees3;obtain⟨z0,z1,z2⟩:=gL.cells3;have zl:=gL.lt;have gM:=gL.set3 (n o qa) (n o qf) (n o qr))))
   all_goals
    go_wp2_with fail
    go_meet
    case rel=>first|exact⟨_,rfl,rfl,rfl,hL.new #[n o qa,n o qf,n o qr] 34,xL.alloc _⟩|exact⟨_,rfl,rfl,rfl,gM,((yL.set _ _).set _ _).set _ _⟩
  case rest=>
   obtain⟨M,rfl,rfl,rfl,h7,x7⟩:=hcut;clear g6 y6 HST HB HBL cl xl;obtain⟨m0,m1,m2⟩:=h7.cells3;have ml:=h7.lt;have HS4':=H (fun(w':K) (a0 a1 a2:Value) (h:I w' (aa M #[a0,a1,a2] 34*(aQ p l' ck'*(az y.m s'*(Z*(aa X #[n o 5,n o k,n o mx.page,n o mx.size,n o mx.frame,n o mx.rights,n o ax.page,n o ax.kind,v ax.user] 43*(aa XL #[n o ln.m.page,n o ln.m.size,n o ln.m.frame,n o ln.m.rights,v ln.dirty] 129*R)))))))=>HS4.out w' (aa M #[a0,a1,a2] 34*(aa X #[n o 5,n o k,n o mx.page,n o mx.size,n o mx.frame,n o mx.rights,n o ax.page,n o ax.kind,v ax.user] 43*(aa XL #[n o ln.m.page,n o ln.m.size,n o ln.m.frame,n o ln.m.rights,v ln.dirty] 129*R))) (h.eq (by ac_rfl)));by_cases hk:fin=N∧qa=0
   ·obtain⟨rfl,rfl⟩:=hk
    have hl2:Tl.put cc.l ln=l':=by have:=HL.out;unfold gQ at this;rw[if_pos ⟨rfl,rfl⟩] at this;exact this
    rw[hl2] at HPT;clear hl2 HL HS4;have h8:I _ (aQ p cc.l ck'*(aa M #[n o 0,n o qf,n o qr] 34*(az y.m s'*(Z*(aa X #[n o 5,n o k,n o mx.page,n o mx.size,n o mx.frame,n o mx.rights,n o ax.page,n o ax.kind,v ax.user] 43*(aa XL #[n o ln.m.page,n o ln.m.size,n o ln.m.frame,n o ln.m.rights,v ln.dirty] 129*(aa E #[n o 0,v u,n o 0,n o 0,n o 0,v u] 36*R))))))):=h7.p2;obtain⟨q0,q1,q2,q3,q4⟩:=h8.right.right.r3.cells5;have ql:=h8.right.right.r3.lt;clear h7;go_wp2_with fail
    refine(HPT.out ck' _ _ h8).mono ?_;rintro e w9 ⟨rfl,h9,x9⟩;have h10:I w9 (aa E #[n o 0,v u,n o 0,n o 0,n o 0,v u] 36*(aa M #[n o 0,n o qf,n o qr] 34*(aQ p l' ck'*(az y.m s'*(Z*(aa X #[n o 5,n o k,n o mx.page,n o mx.size,n o mx.frame,n o mx.rights,n o ax.page,n o ax.kind,v ax.user] 43*(aa XL #[n o ln.m.page,n o ln.m.size,n o ln.m.frame,n o ln.m.rights,v ln.dirty] 129*R))))))):=h9.eq (by ac_rfl);have x10:=x7.trans x9;clear h8 h9 x7 x9 HPT m0 m1 m2 ml q0 q1 q2 q3 q4 ql;obtain⟨m0,m1,m2⟩:=h10.right.cells3;have ml:=h10.right.lt;obtain⟨e0,e1,e2,e3,e4,e5⟩:=h10.cells6;obtain⟨f0,f1,f2,f3,f4,f5⟩:=h10.frees6;have el:=h10.lt;go_wp2_with fail
    refine am (fun wz=>I wz (aa E #[n o code,v N,n o 0,n o qf,n o qr,v u] 36*(aa M #[n o 0,n o qf,n o qr] 34*(aQ p l' ck'*(az y.m s'*(Z*(aa X #[n o 5,n o k,n o mx.page,n o mx.size,n o mx.frame,n o mx.rights,n o ax.page,n o ax.kind,v ax.user] 43*(aa XL #[n o ln.m.page,n o ln.m.size,n o ln.m.frame,n o ln.m.rights,v ln.dirty] 129*R)))))))∧L w wz) ⟨h10.set6 _ _ _ _ _ _,ah⟩ ?_;rintro wz ⟨hz,xz⟩;exact D (aG results17 rfl (aM hz)) rfl ⟨rfl,((HS4'.out _ _ _ _ hz.right).eq (show _=aa M #[n o 0,n o qf,n o qr] 34*(aa X #[n o 5,n o k,n o mx.page,n o mx.size,n o mx.frame,n o mx.rights,n o ax.page,n o ax.kind,v ax.user] 43*(aa XL #[n o ln.m.page,n o ln.m.size,n o ln.m.frame,n o ln.m.rights,v ln.dirty] 129*_)) by ac_rfl)).r3,xz⟩
   ·have hl2:cc.l=l':=by have:=HL.out;unfold gQ at this;rw[if_neg hk] at this;exact this
    have h8:I _ (aa E #[n o 0,v u,n o 0,n o 0,n o 0,v u] 36*(aa M #[n o qa,n o qf,n o qr] 34*(aQ p cc.l ck'*(az y.m s'*(Z*(aa X #[n o 5,n o k,n o mx.page,n o mx.size,n o mx.frame,n o mx.rights,n o ax.page,n o ax.kind,v ax.user] 43*(aa XL #[n o ln.m.page,n o ln.m.size,n o ln.m.frame,n o ln.m.rights,v ln.dirty] 129*R))))))):=h7.eq (by ac_rfl);rw[hl2] at h8;clear hl2 HL HS4 h7 HPT;obtain⟨e0,e1,e2,e3,e4,e5⟩:=h8.cells6;obtain⟨f0,f1,f2,f3,f4,f5⟩:=h8.frees6;have el:=h8.lt;cases fin with
    |false=>
     clear hk;go_wp2_with fail
     refine am (fun wz=>I wz (aa E #[n o code,v u,n o qa,n o qf,n o qr,v u] 36*(aa M #[n o qa,n o qf,n o qr] 34*(aQ p l' ck'*(az y.m s'*(Z*(aa X #[n o 5,n o k,n o mx.page,n o mx.size,n o mx.frame,n o mx.rights,n o ax.page,n o ax.kind,v ax.user] 43*(aa XL #[n o ln.m.page,n o ln.m.size,n o ln.m.frame,n o ln.m.rights,v ln.dirty] 129*R)))))))∧L w wz) ⟨h8.set6 _ _ _ _ _ _,ah⟩ ?_;rintro wz ⟨hz,xz⟩;exact D (aG results17 rfl (aM hz)) rfl ⟨rfl,((HS4'.out _ _ _ _ hz.right).eq (show _=aa M #[n o qa,n o qf,n o qr] 34*(aa X #[n o 5,n o k,n o mx.page,n o mx.size,n o mx.frame,n o mx.rights,n o ax.page,n o ax.kind,v ax.user] 43*(aa XL #[n o ln.m.page,n o ln.m.size,n o ln.m.frame,n o ln.m.rights,v ln.dirty] 129*_)) by ac_rfl)).r3,xz⟩
    |true=>
     have hqa:(qa==0)=u:=by simpa using hk
     clear hk;go_wp2_with fail
     refine am (fun wz=>I wz (aa E #[n o code,v N,n o qa,n o qf,n o qr,v u] 36*(aa M #[n o qa,n o qf,n o qr] 34*(aQ p l' ck'*(az y.m s'*(Z*(aa X #[n o 5,n o k,n o mx.page,n o mx.size,n o mx.frame,n o mx.rights,n o ax.page,n o ax.kind,v ax.user] 43*(aa XL #[n o ln.m.page,n o ln.m.size,n o ln.m.frame,n o ln.m.rights,v ln.dirty] 129*R)))))))∧L w wz) ⟨h8.set6 _ _ _ _ _ _,ah⟩ ?_;rintro wz ⟨hz,xz⟩;exact D (aG results17 rfl (aM hz)) rfl ⟨rfl,((HS4'.out _ _ _ _ hz.right).eq (show _=aa M #[n o qa,n o qf,n o qr] 34*(aa X #[n o 5,n o k,n o mx.page,n o mx.size,n o mx.frame,n o mx.rights,n o ax.page,n o ax.kind,v ax.user] 43*(aa XL #[n o ln.m.page,n o ln.m.size,n o ln.m.frame,n o ln.m.rights,v ln.dirty] 129*_)) by ac_rfl)).r3,xz⟩
 by_cases o6:kx=6
 ·as_aux_lemma=>
  rw[hact,if_neg o4,if_neg o5,if_pos o6];unfold Ev.val;clear h5 HS3 hact hcr o4 o5 HB HBL hset hso;generalize σ.ack k=q at*
  obtain⟨σ',⟨ec,ef,⟨qa,qb,qr⟩,ek⟩⟩:=q;dsimp only at*
  subst o6;go_enter func17,ntmps17;go_upto_region 5 with fail;go_region;go_upto_region 7 with fail;go_region;go_upto_region 19 with fail;rw[hdk.out];generalize (w.alloc (.cells #[n o 6,n o k,n o mx.page,n o mx.size,n o mx.frame,n o mx.rights,n o ax.page,n o ax.kind,v ax.user] 43)).alloc (.cells #[n o 0,v u,n o 0,n o 0,n o 0,v u] 36)=w1 at*
  generalize w.heap.size=X at*
  generalize X+1=E at*
  have g5:=h0d.drew;have y0:=x0d.drew;generalize w1.drew.drew=w2 at*
  have e1:=g5.right.cell 1;have el:=g5.right.lt;clear h0d x0d b0 b1 b2 bl cA lA d0 d1 O;go_wp2_with fail
  with_reducible refine(HACK.out _ _ g5).mono ?_
  rintro e w5 ⟨rfl,h6,x6⟩;have h7:I w5 (aa E #[n o 0,v u,n o 0,n o 0,n o 0,v u] 36*(cj b σ'*(aa X #[n o 6,n o k,n o mx.page,n o mx.size,n o mx.frame,n o mx.rights,n o ax.page,n o ax.kind,v ax.user] 43*R))):=h6.eq (by ac_rfl);have x8:=y0.trans x6;clear g5 y0 x6 h6 HACK e1 el;obtain⟨e0,e1,e2,e3,e4,e5⟩:=h7.cells6;obtain⟨f0,f1,f2,f3,f4,f5⟩:=h7.frees6;have el:=h7.lt;go_wp2_with fail
  refine am (fun wz=>I wz (aa E #[n o ec,v ef,n o qa,n o qb,n o qr,v ek] 36*(cj b σ'*(aa X #[n o 6,n o k,n o mx.page,n o mx.size,n o mx.frame,n o mx.rights,n o ax.page,n o ax.kind,v ax.user] 43*R)))∧L w wz) ⟨h7.set6 _ _ _ _ _ _,ah⟩ ?_;rintro wz ⟨hz,xz⟩;exact D (aG results17 rfl (aM hz)) rfl ⟨rfl,hz.right.p2.right,xz⟩
 have o7:kx=7:=ho7 o4 o5 o6;clear ho7;as_aux_lemma=>
  rw[hact,if_neg o4,if_neg o5,if_neg o6];unfold Sc.evict;clear HACK h0d hact hcr HB hso;have HSZ:=H (HS3.out σ.s);generalize σ.core k=cc at*
  obtain⟨cl',ck⟩:=cc;dsimp only at*
  subst o7;obtain⟨A,c,g5⟩:=cP h5;have hsm:=(Has.rowOSmall (e:=129) (size:=5) g5.right).2;cases cl' with
  |nil=>
   rw[if_pos rfl];have HS4:=H (HSZ.out ⟨[],ck⟩);have HS5:=H (HS4.out);unfold Ev.val Ev.no An.zero;dsimp only at HS5⊢;rw[show σ.cs.set k ⟨[],ck⟩=σ.cs from hset] at HS5;clear HS3 hset HSZ HS4 h5;go_enter func17,ntmps17;go_upto_region 5 with fail;go_region;go_upto_region 7 with fail;go_region;go_upto_region 20 with fail;rw[hdk.out];generalize (w.alloc (.cells #[n o 7,n o k,n o mx.page,n o mx.size,n o mx.frame,n o mx.rights,n o ax.page,n o ax.kind,v ax.user] 43)).alloc (.cells #[n o 0,v u,n o 0,n o 0,n o 0,v u] 36)=w1 at*
   generalize w.heap.size=X at*
   generalize X+1=E at*
   have g6:=g5.drew;have y0:=x0d.drew;clear g5 x0d b0 b1 b2 bl cA lA d0 d1 O HBL;generalize w1.drew.drew=w2 at*
   have p0:w2.cell? (F p 0 B)=C (.slice A 0 c):=Has.cell g6 0;have pl:=Has.lt g6;have g7:I w2 (aa E #[n o 0,v u,n o 0,n o 0,n o 0,v u] 36*(aQ p [] ck*(az y.m σ.s*(Z*(aa X #[n o 7,n o k,n o mx.page,n o mx.size,n o mx.frame,n o mx.rights,n o ax.page,n o ax.kind,v ax.user] 43*R))))):=(bx g6).eq (by ac_rfl);clear g6;obtain⟨e0,e1,e2,e3,e4,e5⟩:=g7.cells6;obtain⟨f0,f1,f2,f3,f4,f5⟩:=g7.frees6;have el:=g7.lt;go_wp2_with fail
   refine am (fun wz=>I wz (aa E #[n o 9,v u,n o 0,n o 0,n o 0,v u] 36*(aQ p [] ck*(az y.m σ.s*(Z*(aa X #[n o 7,n o k,n o mx.page,n o mx.size,n o mx.frame,n o mx.rights,n o ax.page,n o ax.kind,v ax.user] 43*R)))))∧L w wz) ⟨g7.set6 _ _ _ _ _ _,ah⟩ ?_;rintro wz ⟨hz,xz⟩;exact D (aG results17 rfl (aM hz)) rfl ⟨rfl,(HS5.out _ (aa X #[n o 7,n o k,n o mx.page,n o mx.size,n o mx.frame,n o mx.rights,n o ax.page,n o ax.kind,v ax.user] 43*R) hz.right).p2.right,xz⟩
  |cons z cl'=>
   rw[if_neg (by simp)];have HS4:=H (HSZ.out ⟨Tl.evict (z::cl'),ck⟩);unfold Ev.val Ev.no An.zero;rw[show Tl.evict (z::cl')=cl' from rfl] at HS4⊢;dsimp only at HS4⊢;clear HS3 hset HSZ h5;go_enter func17,ntmps17;go_upto_region 5 with fail;go_region;go_upto_region 7 with fail;go_region;go_upto_region 20 with fail;rw[hdk.out];generalize (w.alloc (.cells #[n o 7,n o k,n o mx.page,n o mx.size,n o mx.frame,n o mx.rights,n o ax.page,n o ax.kind,v ax.user] 43)).alloc (.cells #[n o 0,v u,n o 0,n o 0,n o 0,v u] 36)=w1 at*
   generalize w.heap.size=X at*
   generalize X+1=E at*
   have g6:=g5.drew;have y0:=x0d.drew;clear g5 x0d b0 b1 b2 bl cA lA d0 d1 O HBL;generalize w1.drew.drew=w2 at*
   obtain⟨g,off,rfl,-⟩:=iI g6.right (k:=0) (by simp);have hlz:(z::cl').length =cl'.length+1:=rfl;have hsm2:=(Has.rowOSmall (e:=129) (size:=5) g6.right).1;rw[hlz] at hsm hsm2;have p0:w2.cell? (F p 0 B)=C (.slice (C (F g off B)) (cl'.length+1) c):=Has.cell g6 0;have pl:=Has.lt g6;have pf:=Has.free g6 0;have ht:I w2 (gJ (.slice (if c=1 then C (F g off B) else C ⟨g,off+5,B⟩) cl'.length (c - 1)) cl'*(cC p (.slice (C (F g off B)) (cl'.length+1) c) ck*(az y.m σ.s*(Z*(aa X #[n o 7,n o k,n o mx.page,n o mx.size,n o mx.frame,n o mx.rights,n o ax.page,n o ax.kind,v ax.user] 43*(aa E #[n o 0,v u,n o 0,n o 0,n o 0,v u] 36*R)))))):=by
    have h4:=g6.p2;unfold gJ at h4;exact Has.rowOTail h4
   have h9:I w2 (cC p (.slice (C (F g off B)) (cl'.length+1) c) ck*(gJ (.slice (if c=1 then C (F g off B) else C ⟨g,off+5,B⟩) cl'.length (c - 1)) cl'*(az y.m σ.s*(Z*(aa X #[n o 7,n o k,n o mx.page,n o mx.size,n o mx.frame,n o mx.rights,n o ax.page,n o ax.kind,v ax.user] 43*(aa E #[n o 0,v u,n o 0,n o 0,n o 0,v u] 36*R)))))):=ht.p2;clear ht g6;have hlen:¬((cl'.length:Int)+1=0):=by omega
   have hl1:¬cl'.length+1<1:=by omega
   by_cases hc1:c=1
   ·
    subst hc1;obtain rfl:cl'=[]:=List.length_eq_zero_iff.1 (by omega);rw[if_pos rfl] at h9;have h10:I _ (aa E #[n o 0,v u,n o 0,n o 0,n o 0,v u] 36*(aQ p [] ck*(az y.m σ.s*(Z*(aa X #[n o 7,n o k,n o mx.page,n o mx.size,n o mx.frame,n o mx.rights,n o ax.page,n o ax.kind,v ax.user] 43*R))))):=(bx (A:=C (F g off B)) (c:=0) (l:=[]) (k:=ck) (h9.set 0 (.slice (C (F g off B)) 0 0))).eq (by ac_rfl);have x10:=y0.set (F p 0 B) (.slice (C (F g off B)) 0 0);clear h9;go_upto_region 23 with fail;generalize w2.setCell (F p 0 B) (.slice (C (F g off B)) 0 0)=w3 at*
    clear p0 pl pf;have hz:=h10.set6 (n o 0) (v u) (n o 0) (n o 0) (n o 0) (v u);have xz:=(((((x10.set (F E 0 B) (n o 0)).set (F E 1 B) (v u)).set (F E 2 B) (n o 0)).set (F E 3 B) (n o 0)).set (F E 4 B) (n o 0)).set (F E 5 B) (v u);iterate 2 (first|go_values|go_skip|go_guarded|go_step|go_upon|go_simp)
    go_step
    go_step
    refine wpList_store_mid rfl 36 (.tmp 4) (.tmp 130) rfl E 0 #[n o 0,v u,n o 0,n o 0,n o 0,v u] rfl rfl (uB h10) (by kernel_rfl) (by first|(with_unfolding_all rfl)|decide|simp[Value.oneCell']) ?_;simp only[Act.put];have hz:I (w3.setCells E 0 [n o 0,v u,n o 0,n o 0,n o 0,v u]) _:=hz;have xz:L w (w3.setCells E 0 [n o 0,v u,n o 0,n o 0,n o 0,v u]):=xz;generalize w3.setCells E 0 [n o 0,v u,n o 0,n o 0,n o 0,v u]=wz at*
    go_wp2_with fail
    exact D (aG results17 rfl (aM hz)) rfl ⟨rfl,(HS4.out _ (aa X #[n o 7,n o k,n o mx.page,n o mx.size,n o mx.frame,n o mx.rights,n o ax.page,n o ax.kind,v ax.user] 43*R) hz.right).p2.right,xz⟩
   ·
    rw[if_neg hc1] at h9;have h10:I _ (aa E #[n o 0,v u,n o 0,n o 0,n o 0,v u] 36*(aQ p cl' ck*(az y.m σ.s*(Z*(aa X #[n o 7,n o k,n o mx.page,n o mx.size,n o mx.frame,n o mx.rights,n o ax.page,n o ax.kind,v ax.user] 43*R))))):=(bx (A:=C ⟨g,off+5,B⟩) (c:=c - 1) (l:=cl') (k:=ck) (h9.set 0 (.slice (C ⟨g,off+5,B⟩) cl'.length (c - 1)))).eq (by ac_rfl);have x10:=y0.set (F p 0 B) (.slice (C ⟨g,off+5,B⟩) cl'.length (c - 1));clear h9;go_upto_region 23 with fail;generalize w2.setCell (F p 0 B) (.slice (C ⟨g,off+5,B⟩) cl'.length (c - 1))=w3 at*
    clear p0 pl pf;have hz:=h10.set6 (n o 0) (v u) (n o 0) (n o 0) (n o 0) (v u);have xz:=(((((x10.set (F E 0 B) (n o 0)).set (F E 1 B) (v u)).set (F E 2 B) (n o 0)).set (F E 3 B) (n o 0)).set (F E 4 B) (n o 0)).set (F E 5 B) (v u);iterate 2 (first|go_values|go_skip|go_guarded|go_step|go_upon|go_simp)
    go_step
    go_step
    refine wpList_store_mid rfl 36 (.tmp 4) (.tmp 130) rfl E 0 #[n o 0,v u,n o 0,n o 0,n o 0,v u] rfl rfl (uB h10) (by kernel_rfl) (by first|(with_unfolding_all rfl)|decide|simp[Value.oneCell']) ?_;simp only[Act.put];have hz:I (w3.setCells E 0 [n o 0,v u,n o 0,n o 0,n o 0,v u]) _:=hz;have xz:L w (w3.setCells E 0 [n o 0,v u,n o 0,n o 0,n o 0,v u]):=xz;generalize w3.setCells E 0 [n o 0,v u,n o 0,n o 0,n o 0,v u]=wz at*
    go_wp2_with fail
    exact D (aG results17 rfl (aM hz)) rfl ⟨rfl,(HS4.out _ (aa X #[n o 7,n o k,n o mx.page,n o mx.size,n o mx.frame,n o mx.rights,n o ax.page,n o ax.kind,v ax.user] 43*R) hz.right).p2.right,xz⟩
end Go.Proofs.YtmfheghbgihdmaaGreat
