/- Contracts of package space: refused, told, begun, change. -/
import Derived.Test.YtmfheghbgihdmaaGreatTabD
import Derived.Test.YtmfheghbgihdmaaGreatBkSl
import Derived.Deep.RegionHeld3
import Derived.Deep.DeepCutAuto
import Derived.Deep.CutBlock
import Derived.BigQuiet
import Derived.Test.YtmfheghbgihdmaaGreatTblM4
namespace Go.Proofs.YtmfheghbgihdmaaGreat
open Go.Value renaming int→o,bool→J
open Go.IntKind renaming i64→B
open Option renaming none→C,some→F
open Bool renaming false→D,true→V
open Go.Addr renaming mk→I
open Go.Lib renaming hid→K
open Go renaming bodyPost_ret→N,World→T,Calls→W,Value→ag,Addr→a4
open Go.Proofs.YtmfheghbgihdmaaGreat renaming Has→O,Ext→Y,Pure→a5,Same→bi
open List renaming getElem?_eq_getElem→S
open Go.Proofs.YtmfheghbgihdmaaGreat.Sc renaming change→U,post→af,core→a3,ack→a6,act→a7,new→bd,core_ok→bf
open Go.World renaming size_alloc→ad
open Tryz
open Go.RowKit
set_option maxRecDepth 100000
def Ev.val(e:Ev):ag:= .agg #[o B e.code,J e.fin,o B e.an.fin,o B e.an.frame,o B e.an.rights,J e.back]
theorem aM{w:T}{R:ab}{b:Nat}{v0 v1 v2 v3 v4 v5:ag}(h:O w (aa b #[v0,v1,v2,v3,v4,v5] 36*R)):(loadVar 36 (I b 0 C)).run prog w= .ok (.agg #[v0,v1,v2,v3,v4,v5]) w:=
 run_loadVar_row w b 36 36 _ _ _ h.heap underlying36 rfl (by kernel_rfl)
theorem fj(c:Int)(w:T):W prog 59 #[o B c] w (a5 (.agg #[o B c,J D,o B 0,o B 0,o B 0,J D]) w):=by
 have h0:=(aT w).new #[o B 0,J D,o B 0,o B 0,o B 0,J D] 36;have h1:=(aT w).new #[o B c,J D,o B 0,o B 0,o B 0,J D] 36;obtain⟨c0,c1,c2,c3,c4,c5⟩:=h0.cells6;obtain⟨f0,f1,f2,f3,f4,f5⟩:=h0.frees6;have cl:=h0.lt;go_enter func59,ntmps59;go_wp2_with fail
 refine am (fun wz=>O wz (aa w.heap.size #[o B c,J D,o B 0,o B 0,o B 0,J D] 36*(bE w w.heap.size))∧Y w wz) ⟨by first|(with_reducible exact h1)|(with_reducible exact h0.set6 _ _ _ _ _ _),ah⟩ ?_;rintro wz ⟨hz,xz⟩;exact N (aG results59 rfl (aM hz)) rfl ⟨rfl,ar hz.right xz⟩
theorem xC(a f r c:Int)(fin:Bool)(w:T):W prog 60 #[.agg #[o B a,o B f,o B r],J fin,o B c] w (a5 (.agg #[o B c,J fin,o B a,o B f,o B r,J D]) w):=by
 have h0:=((aT w).new #[o B a,o B f,o B r] 34).new #[o B 0,J D,o B 0,o B 0,o B 0,J D] 36;have h1:=((aT w).new #[o B a,o B f,o B r] 34).new #[o B c,J fin,o B a,o B f,o B r,J D] 36;simp only[ad] at h0 h1;obtain⟨c0,c1,c2,c3,c4,c5⟩:=h0.cells6;obtain⟨f0,f1,f2,f3,f4,f5⟩:=h0.frees6;obtain⟨a0,a1,a2⟩:=h0.right.cells3;have cl:=h0.lt;have al:=h0.right.lt;go_enter func60,ntmps60;go_wp2_with fail
 refine am (fun wz=>O wz (aa (w.heap.size+1) #[o B c,J fin,o B a,o B f,o B r,J D] 36*(aa w.heap.size #[o B a,o B f,o B r] 34*bE w w.heap.size))∧Y w wz) ⟨by first|(with_reducible exact h1)|(with_reducible exact h0.set6 _ _ _ _ _ _),ah⟩ ?_;rintro wz ⟨hz,xz⟩;exact N (aG results60 rfl (aM hz)) rfl ⟨rfl,ar hz.right.right xz⟩
set_option maxHeartbeats 4000000 in
theorem yt(b:Nat)(σ:Sc)(y:Sl)(m:Mp)(g:List Int)(G:Option a4)(gn gd:Nat)(hy:y.ps.length=σ.cs.length)(hn1:1≤σ.cs.length)(hn4:σ.cs.length≤4)(hov:eG σ.wait=V)(R:ab)(w:T)(h:O w (bI b σ y (ao (.slice G gn gd) g*R))):
  W prog 99 #[.pointer (F (I b 0 C)),.agg #[o B m.page,o B m.size,o B m.frame,o B m.rights],.slice G gn gd] w (cR (.agg #[o B 0,J D,o B 0,o B 0,o B 0,J D]) (ak b (σ.post σ.s m g)*R) w):=by
 unfold bI at h;obtain rfl:=cT (h.eq (show _=ao (.slice G gn gd) g*(aa b #[.pointer (F (I y.f 0 C)),o B 0,.slice y.A y.ps.length y.c,.pointer (F (I y.sh 0 C)),J σ.busy,.slice y.G σ.gone.length y.d] 114*(cr (.slice y.A y.ps.length y.c) y.ps*(ao (.slice y.G σ.gone.length y.d) σ.gone*(aI y.sh σ.told σ.wait*(aU y.ps σ.cs*(du y.f σ.s*R)))))) by ac_rfl));have h0:O _ (aa b #[.pointer (F (I y.f 0 C)),o B 0,.slice y.A y.ps.length y.c,.pointer (F (I y.sh 0 C)),J σ.busy,.slice y.G σ.gone.length y.d] 114*(aI y.sh σ.told σ.wait*(aa (w.heap.size+1) #[o B 0,J D,o B 0,o B 0,o B 0,J D] 36*(aa w.heap.size #[o B m.page,o B m.size,o B m.frame,o B m.rights] 39*(cr (.slice y.A y.ps.length y.c) y.ps*(aU y.ps σ.cs*(du y.f σ.s*(ao (.slice G g.length gd) g*R)))))))):=
  (((h.new #[o B m.page,o B m.size,o B m.frame,o B m.rights] 39).new #[o B 0,J D,o B 0,o B 0,o B 0,J D] 36).eq (show _=ao (.slice y.G σ.gone.length y.d) σ.gone*(aa b #[.pointer (F (I y.f 0 C)),o B 0,.slice y.A y.ps.length y.c,.pointer (F (I y.sh 0 C)),J σ.busy,.slice y.G σ.gone.length y.d] 114*(aI y.sh σ.told σ.wait*(aa (w.heap.size+1) #[o B 0,J D,o B 0,o B 0,o B 0,J D] 36*(aa w.heap.size #[o B m.page,o B m.size,o B m.frame,o B m.rights] 39*(cr (.slice y.A y.ps.length y.c) y.ps*(aU y.ps σ.cs*(du y.f σ.s*(ao (.slice G g.length gd) g*R)))))))) by(simp only[ad];ac_rfl))).right
 have x0:=((Ext.refl w).alloc (.cells #[o B m.page,o B m.size,o B m.frame,o B m.rights] 39)).alloc (.cells #[o B 0,J D,o B 0,o B 0,o B 0,J D] 36);rw[←hy] at hn1 hn4;have HP:=K (fun R w h=>uv y.sh σ.told m σ.wait y.ps.length R w h hov hn1 hn4);have HS:=K (fun(w':T) (h:O w' (aa b #[.pointer (F (I y.f 0 C)),o B 0,.slice y.A y.ps.length y.c,.pointer (F (I y.sh 0 C)),J V,.slice G g.length gd] 114*(cr (.slice y.A y.ps.length y.c) y.ps*(ao (.slice G g.length gd) g*(aI y.sh m (fg y.ps.length)*(aU y.ps σ.cs*(du y.f σ.s*R)))))))=>
  dJ (b:=b) (σ:=σ.post σ.s m g) (y:=⟨y.f,y.sh,y.A,y.c,y.ps,G,gd⟩) (R:=R) hy (by rw[hy] at h;unfold bI;rw[hy];exact h))
 clear h hov hy;obtain⟨c0,c1,c2,c3,c4,c5⟩:=h0.cells6;obtain⟨f0,f1,f2,f3,f4,f5⟩:=h0.frees6;have cl:=h0.lt;generalize σ.told=td at*
 generalize σ.wait=wt at*
 generalize σ.busy=bz at*
 generalize σ.gone.length=ogl at*
 go_enter func99,ntmps99;go_upto_region 2 with fail;have h1:=(h0.set 4 (J V)).set 5 (.slice G g.length gd);have x1:=(x0.set (I b 4 C) (J V)).set (I b 5 C) (.slice G g.length gd);have h2:O _ (aI y.sh td wt*(aa b #[.pointer (F (I y.f 0 C)),o B 0,.slice y.A y.ps.length y.c,.pointer (F (I y.sh 0 C)),J V,.slice G g.length gd] 114*(aa w.heap.size #[o B m.page,o B m.size,o B m.frame,o B m.rights] 39*(aa (w.heap.size+1) #[o B 0,J D,o B 0,o B 0,o B 0,J D] 36*(cr (.slice y.A y.ps.length y.c) y.ps*(aU y.ps σ.cs*(du y.f σ.s*(ao (.slice G g.length gd) g*R)))))))):=h1.eq (show _=_ by ac_rfl);clear h0 x0 h1 c0 c1 c2 c3 c4 c5 f0 f1 f2 f3 f4 f5 cl;generalize (((w.alloc (.cells #[o B m.page,o B m.size,o B m.frame,o B m.rights] 39)).alloc (.cells #[o B 0,J D,o B 0,o B 0,o B 0,J D] 36)).setCell (I b 4 C) (J V)).setCell (I b 5 C) (.slice G g.length gd)=w1 at*
 have HK:=K (fun(w':T) (P Q:ab) (h:O w' (P*(aa b #[.pointer (F (I y.f 0 C)),o B 0,.slice y.A y.ps.length y.c,.pointer (F (I y.sh 0 C)),J V,.slice G g.length gd] 114*(aa w.heap.size #[o B m.page,o B m.size,o B m.frame,o B m.rights] 39*Q))))=>(⟨h.right.cell 2,h.right.cell 3,h.right.right.cell 0,h.right.right.cell 1,h.right.right.cell 2,h.right.right.cell 3⟩:
  w'.cell? (I b 2 C)=F (.slice y.A y.ps.length y.c)∧w'.cell? (I b 3 C)=F (.pointer (F (I y.sh 0 C)))∧w'.cell? (I w.heap.size 0 C)=F (o B m.page)∧w'.cell? (I w.heap.size 1 C)=F (o B m.size)∧w'.cell? (I w.heap.size 2 C)=F (o B m.frame)∧w'.cell? (I w.heap.size 3 C)=F (o B m.rights)))
 have cl:=h2.right.lt;have ml:=h2.right.right.lt;have hd:=h2.drew;have xd:=x1.drew;go_region_held3 (fun w'=>w'.cell? (I b 2 C)=F (.slice y.A y.ps.length y.c)∧w'.cell? (I b 3 C)=F (.pointer (F (I y.sh 0 C)))∧w'.cell? (I w.heap.size 0 C)=F (o B m.page)∧w'.cell? (I w.heap.size 1 C)=F (o B m.size)∧w'.cell? (I w.heap.size 2 C)=F (o B m.frame)∧w'.cell? (I w.heap.size 3 C)=F (o B m.rights)) (first|(with_reducible exact HK.out _ _ _ hd)|(with_reducible exact HK.out _ _ _ h5)|go_keep) (first|(go_at_call 156;(with_reducible refine(HP.out _ _ hd).mono ?_);rintro e w5 ⟨rfl,h5,x5⟩))
 all_goals
  have h6:O w5 (aa (w.heap.size+1) #[o B 0,J D,o B 0,o B 0,o B 0,J D] 36*(aa w.heap.size #[o B m.page,o B m.size,o B m.frame,o B m.rights] 39*(aa b #[.pointer (F (I y.f 0 C)),o B 0,.slice y.A y.ps.length y.c,.pointer (F (I y.sh 0 C)),J V,.slice G g.length gd] 114*(cr (.slice y.A y.ps.length y.c) y.ps*(ao (.slice G g.length gd) g*(aI y.sh m (fg y.ps.length)*(aU y.ps σ.cs*(du y.f σ.s*R)))))))):=h5.eq (by ac_rfl);have x6:=xd.trans x5;clear hd xd h5 x5 h2 x1 HK HP;obtain⟨c0,c1,c2,c3,c4,c5⟩:=h6.cells6;obtain⟨f0,f1,f2,f3,f4,f5⟩:=h6.frees6;have el:=h6.lt;go_wp2_with fail
  refine am (fun wz=>O wz (aa (w.heap.size+1) #[o B 0,J D,o B 0,o B 0,o B 0,J D] 36*(aa w.heap.size #[o B m.page,o B m.size,o B m.frame,o B m.rights] 39*(aa b #[.pointer (F (I y.f 0 C)),o B 0,.slice y.A y.ps.length y.c,.pointer (F (I y.sh 0 C)),J V,.slice G g.length gd] 114*(cr (.slice y.A y.ps.length y.c) y.ps*(ao (.slice G g.length gd) g*(aI y.sh m (fg y.ps.length)*(aU y.ps σ.cs*(du y.f σ.s*R))))))))∧Y w wz) ⟨h6.set6 _ _ _ _ _ _,ah⟩ ?_;rintro wz ⟨hz,xz⟩;exact N (aG results99 rfl (aM hz)) rfl ⟨rfl,HS.out _ hz.right.right,xz⟩
theorem yu(p XA XR:Nat)(L:List Mp)(a:Ac)(r:An)(hl:Bk.Ok L)(ha:cW a.page)(R:ab)(w:T)(h:O w (bp p L*(aa XA #[o B a.page,o B a.kind,J a.user] 41*(aa XR #[o B r.fin,o B r.frame,o B r.rights] 34*R)))):
  W prog 144 #[.pointer (F (I p 0 C)),.pointer (F (I XA 0 C)),.pointer (F (I XR 0 C))] w (a5 (J (decide (Bk.ans L a=r))) w):=by
 have HA:=K (fun u=>wg p L a _ _ hl ha (h.via u));obtain⟨c0,c1,c2⟩:=h.right.cells3;obtain⟨d0,d1,d2⟩:=h.right.right.cells3;have v0:=ae c0;have v1:=ae c1;have v2:=ae c2;have u0:=ae d0;have u1:=ae d1;have u2:=ae d2;unfold An.val at HA;clear h c0 c1 c2 d0 d1 d2;obtain⟨r0,r1,r2⟩:=r;dsimp only at*
 generalize Bk.ans L a=z at*
 obtain⟨z0,z1,z2⟩:=z;dsimp only at*
 by_cases he:(⟨z0,z1,z2⟩:An)=⟨r0,r1,r2⟩
 ·rw[decide_eq_true he]
  injection he with e0 e1 e2
  subst e0;subst e1;subst e2;go_enter func144,ntmps144;go_wp2_with fail
  refine au (by kernel_rfl) (by kernel_rfl) ?_;repeat(first|go_big_quiet_step ((go_at_call 145;exact Pure.via (HA.out _)))|quiet_step ((go_at_call 145;exact Pure.via (HA.out _))))
  refine wpQuiet_nil ?_;intro _ hw';obtain⟨uq,hw''⟩:=hw';subst hw'';go_wp2_with fail
  go_ret;exact⟨by simp,aE _ _⟩
 ·rw[decide_eq_false he]
  have hd:(z0==r0)=D∨(z1==r1)=D∨(z2==r2)=D:=by
   by_cases e0:z0=r0
   ·by_cases e1:z1=r1
    ·right;right
     have:z2≠r2:=fun e2=>he (by rw[e0,e1,e2]);simpa using this
    ·right;left;simpa using e1
   ·left;simpa using e0
  clear he;rcases hd with hd|hd|hd
  ·go_enter func144,ntmps144
   go_wp2_with fail
   refine au (by kernel_rfl) (by kernel_rfl) ?_;repeat(first|go_big_quiet_step ((go_at_call 145;exact Pure.via (HA.out _)))|quiet_step ((go_at_call 145;exact Pure.via (HA.out _))))
   refine wpQuiet_nil ?_;intro _ hw';obtain⟨uq,hw''⟩:=hw';subst hw'';go_wp2_with fail
   go_ret;exact⟨by simp,aE _ _⟩
  ·go_enter func144,ntmps144
   go_wp2_with fail
   refine au (by kernel_rfl) (by kernel_rfl) ?_;repeat(first|go_big_quiet_step ((go_at_call 145;exact Pure.via (HA.out _)))|quiet_step ((go_at_call 145;exact Pure.via (HA.out _))))
   refine wpQuiet_nil ?_;intro _ hw';obtain⟨uq,hw''⟩:=hw';subst hw'';go_wp2_with fail
   go_ret;exact⟨by simp,aE _ _⟩
  ·go_enter func144,ntmps144
   go_wp2_with fail
   refine au (by kernel_rfl) (by kernel_rfl) ?_;repeat(first|go_big_quiet_step ((go_at_call 145;exact Pure.via (HA.out _)))|quiet_step ((go_at_call 145;exact Pure.via (HA.out _))))
   refine wpQuiet_nil ?_;intro _ hw';obtain⟨uq,hw''⟩:=hw';subst hw'';go_wp2_with fail
   go_ret;exact⟨by simp,aE _ _⟩
structure AA (w:T) (g i0:Nat) (ps:List Nat):Prop where
 at_:∀j p,ps[j]? =F p→w.cell? ⟨g,i0+j,C⟩=F (.pointer (F (I p 0 C)))
 lt:ps≠[]→g<w.heap.size
theorem yv(XA XR g i0 c:Nat)(ps:List Nat)(Hs:List (List Mp))(a:Ac)(r:An)(ha:cW a.page)(hlen:ps.length=Hs.length)(hsm:ps.length≤1000000)(hok:∀L∈Hs,Bk.Ok L)
  (hwas:(Hs.any fun L=>decide (Bk.ans L a=r))=V) (R:ab) (w:T) (hb:AA w g i0 ps) (h:O w (ba ps Hs*(aa XA #[o B a.page,o B a.kind,J a.user] 41*(aa XR #[o B r.fin,o B r.frame,o B r.rights] 34*R)))):
  W prog 179 #[.slice (F (I g i0 C)) ps.length c,.func (.func 144) #[] #[.pointer (F (I XA 0 C)),.pointer (F (I XR 0 C))]] w
   (fun e w'=>∃z:Nat,e= .returned (o B z)∧Below w.heap.size w w'):=by
 have HW:=K hwas;have HO:=K hok;have HBK:=K hb;have HLN:=K hlen;clear hwas hok hb hlen;go_enter func179,ntmps179;go_wp2_with fail
 go_loopw [8] (fun t wr=>∃j:Nat,j≤ps.length∧t=o B j∧Hid (∀k L,k<j→Hs[k]? =F L→Bk.ans L a≠r)∧Below w.heap.size w wr) (fun t _=>ps.length - (intOf t).toNat)
 case atStart=>exact⟨0,by omega,rfl,K (fun k L hk=>absurd hk (by omega)),Below.refl _ _⟩
 case round=>
  obtain⟨j,hj,rfl,HA,BW⟩:=hrel;by_cases hlt:j<ps.length
  ·obtain⟨p,hp⟩:∃p,ps[j]? =F p:=⟨ps[j],S hlt⟩
   have hjh:j<Hs.length:=by rw[←HLN.out];exact hlt
   obtain⟨L,hL⟩:∃L,Hs[j]? =F L:=⟨Hs[j],S hjh⟩;obtain⟨Q,hQ⟩:=kQ hp hL;have h2:O wr (bp p L*(aa XA #[o B a.page,o B a.kind,J a.user] 41*(aa XR #[o B r.fin,o B r.frame,o B r.rights] 34*(Q*R)))):=(h.below BW).eq (by rw[hQ];ac_rfl);have HF:=K (yu p XA XR L a r (HO.out L (List.mem_of_getElem? hL)) ha _ wr h2);have c0:=(HBK.out.at_ j p hp);have cw:=(BW.cell (World.block_lt_of_cell? w _ c0)).trans c0;have cl:g<wr.heap.size:=World.block_lt_of_cell? wr _ cw;have BW':=K BW;have HL:=K hL;clear h2 hQ hp hL c0 BW hjh h;by_cases he:Bk.ans L a=r
   ·rw[decide_eq_true he] at HF
    clear he HA;go_wp2_with(first|(refine HF.out.mono ?_;rintro e w3 ⟨rfl,b3⟩))
    go_ret;exact⟨j,rfl,BW'.out.trans (b3.mono BW'.out.size)⟩
   ·rw[decide_eq_false he] at HF
    have HA2:Hid (∀k L,k<j+1→Hs[k]? =F L→Bk.ans L a≠r):=K fun k M hk hM=>by
     by_cases hkj:k=j
     ·subst hkj
      rw[HL.out] at hM;injection hM with hM
      subst hM;exact he
     ·exact HA.out k M (by omega) hM
    clear he HA HL;go_wp2_with(first|(refine HF.out.mono ?_;rintro e w3 ⟨rfl,b3⟩))
    go_roundw
    case rel=>exact⟨j+1,by omega,by go_num,HA2,BW'.out.trans (b3.mono BW'.out.size)⟩
    case measure=>simp[intOf];omega
  ·obtain rfl:j=ps.length:=by omega
   exfalso;obtain⟨L,hL,hd⟩:=List.any_eq_true.1 HW.out;obtain⟨k,hk,hkL⟩:=List.getElem_of_mem hL;exact HA.out k L (by rw[HLN.out];exact hk) (by rw[S hk,hkL]) (of_decide_eq_true hd)
theorem tg(XA XR g i0 c:Nat)(ps:List Nat)(Hs:List (List Mp))(a:Ac)(r:An)(ha:cW a.page)(hlen:ps.length=Hs.length)(hsm:ps.length≤1000000)(hok:∀L∈Hs,Bk.Ok L)
  (hwas:(Hs.any fun L=>decide (Bk.ans L a=r))=V) (R:ab) (w:T) (hb:AA w g i0 ps) (h:O w (ba ps Hs*(aa XA #[o B a.page,o B a.kind,J a.user] 41*(aa XR #[o B r.fin,o B r.frame,o B r.rights] 34*R)))):
  W prog 143 #[.slice (F (I g i0 C)) ps.length c,.func (.func 144) #[] #[.pointer (F (I XA 0 C)),.pointer (F (I XR 0 C))]] w (a5 (J V) w):=by
 have HI:=K (yv XA XR g i0 c ps Hs a r ha hlen hsm hok hwas R w hb h);clear hlen hok hwas hb h;go_enter func143,ntmps143;go_wp2_with(refine HI.out.mono ?_;rintro e w2 ⟨z,rfl,b2⟩)
 go_ret;exact⟨by simp,b2⟩
theorem mP:∀(i:Nat) (ps:List Nat) (Ls:List (List Mp)),ps.length=Ls.length→∃Q,ba ps Ls=Q*ba (ps.drop i) (Ls.drop i)
 |0,ps,Ls,_=>⟨eY True,(gp _).symm⟩
 |i+1,[],Ls,h=>⟨eY True,by
   have:Ls=[]:=List.length_eq_zero_iff.1 h.symm;subst this;exact(gp _).symm⟩
 |i+1,p::ps,[],h=>by simp at h
 |i+1,p::ps,L::Ls,h=>by
  obtain⟨Q,hQ⟩:=mP i ps Ls (by simpa using h);refine⟨bp p L*Q,?_⟩;show bp p L*ba ps Ls=_;rw[hQ];show _=(bp p L*Q)*ba (ps.drop i) (Ls.drop i);ac_rfl
theorem yw(b sp:Nat)(H:List (List Mp))(f:Nat)(since:List Int)(a:Ac)(r:An)(i:Nat)(ha:cW a.page)(hi:i<H.length)(hH:H.length≤1000000)(hok:∀L∈H,Bk.Ok L)(hwas:uc H i a r=V)(R:ab)(w:T)(h:O w (aC b sp H f since*R)):
  W prog 86 #[.pointer (F (I b 0 C)),.agg #[o B a.page,o B a.kind,J a.user],.agg #[o B r.fin,o B r.frame,o B r.rights],o B i] w (a5 (J V) w):=by
 have hold:=aT w;obtain⟨y,hy,h⟩:=eN h;obtain⟨yA,yc,ybs,yG,yd,yz⟩:=y;dsimp only at*
 have hib:i<ybs.length:=by omega
 have h0:=(h.new #[o B a.page,o B a.kind,J a.user] 41).new #[o B r.fin,o B r.frame,o B r.rights] 34;simp only[ad] at h0;have g0:O _ (bE w w.heap.size):=((hold.new #[o B a.page,o B a.kind,J a.user] 41).new #[o B r.fin,o B r.frame,o B r.rights] 34).right.right;have x0:=((Ext.refl w).alloc (.cells #[o B a.page,o B a.kind,J a.user] 41)).alloc (.cells #[o B r.fin,o B r.frame,o B r.rights] 34);unfold cQ at h0;dsimp only at h0;have h1:O _ (aa b #[.pointer (F (I sp 0 C)),.slice yA ybs.length yc,o B f,.slice yG since.length yd,o B 0,o B 0,o B yz] 82*(dA (.slice yA ybs.length yc) ybs*(ba ybs H*(aa w.heap.size #[o B a.page,o B a.kind,J a.user] 41*(aa (w.heap.size+1) #[o B r.fin,o B r.frame,o B r.rights] 34*(ao (.slice yG since.length yd) since*R)))))):=h0.eq (by ac_rfl);obtain⟨bA,hA,lA,cA⟩:=oD h1.right (S hib);subst hA;have hcap:ybs.length≤yc:=by
  rcases(Has.rowCases (e:=150) (size:=1) h1.right) with ⟨hv,_⟩|⟨g,cap,cur,hv,hn,_⟩
  ·cases hv
  ·injection hv with _ _ hc
   omega
 obtain⟨Q,hQ⟩:=mP i ybs H hy;have HB:AA ((w.alloc (.cells #[o B a.page,o B a.kind,J a.user] 41)).alloc (.cells #[o B r.fin,o B r.frame,o B r.rights] 34)) bA i (ybs.drop i):=⟨fun j p hj=>by
  rw[List.getElem?_drop] at hj;obtain⟨b2,e2,_,q2⟩:=oD h1.right hj;injection e2 with e2;injection e2 with e2
  subst e2;exact q2,fun _=>lA⟩
 have hl:(ybs.drop i).length =ybs.length - i:=List.length_drop;have HC:=K (tg w.heap.size (w.heap.size+1) bA i (yc - i) (ybs.drop i) (H.drop i) a r ha (by simp[hy]) (by rw[hl];omega) (fun L hL=>hok L (List.mem_of_mem_drop hL)) hwas _ _ HB (h1.right.right.eq (show _=ba (ybs.drop i) (H.drop i)*(aa w.heap.size #[o B a.page,o B a.kind,J a.user] 41*(aa (w.heap.size+1) #[o B r.fin,o B r.frame,o B r.rights] 34*(Q*(ao (.slice yG since.length yd) since*R)))) by rw[hQ];ac_rfl)));rw[hl] at HC;have c1:=h1.cell 1;have cl:=h1.lt;have hci:¬yc=i:=by omega
 have hib':(i:Int)≤ybs.length:=by omega
 have hcap':(ybs.length:Int)≤yc:=by omega
 have hsm:ybs.length≤1000000:=by omega
 clear hwas hok hQ HB hl hy h h0 h1 cA hH hi hold;go_enter func86,ntmps86;go_wp2_with(refine HC.out.mono ?_;rintro e w2 ⟨rfl,b2⟩)
 go_ret;exact⟨rfl,ar (g0.below b2) (x0.below b2)⟩
set_option maxHeartbeats 4000000 in
theorem wG(b:Nat)(σ:Sc)(x:Stp)(hok:σ.Ok)(hq:σ.busy=D→eG σ.wait=V)(R:ab)(w:T)(h:O w (ak b σ*R)):
  W prog 58 #[.pointer (F (I b 0 C)),.agg #[o B x.kind,o B x.core,o B x.m.page,o B x.m.size,o B x.m.frame,o B x.m.rights,o B x.a.page,o B x.a.kind,J x.a.user]] w (cR (σ.change x).2.val (ak b (σ.change x).1*R) w):=by
 obtain⟨s,cs,td,wt,bz,gn⟩:=σ;obtain⟨y,hy,h⟩:=cL h;unfold bI at h;have h0:=(h.new #[o B x.kind,o B x.core,o B x.m.page,o B x.m.size,o B x.m.frame,o B x.m.rights,o B x.a.page,o B x.a.kind,J x.a.user] 43).new #[o B 0,J D,o B 0,o B 0,o B 0,J D] 36;have x0:=((Ext.refl w).alloc (.cells #[o B x.kind,o B x.core,o B x.m.page,o B x.m.size,o B x.m.frame,o B x.m.rights,o B x.a.page,o B x.a.kind,J x.a.user] 43)).alloc (.cells #[o B 0,J D,o B 0,o B 0,o B 0,J D] 36);simp only[ad] at h0;have HBG:=K (fun s' (G:Option a4) (gn' gd:Nat) (g:List Int) (m:Mp) (hov:eG wt=V) R w h=>yt b ⟨s',cs,td,wt,bz,gn⟩ y m g G gn' gd hy hok.one hok.few hov R w h);have HS:=K (fun(s':Ms) (w':T) (R':ab) (h:O w' (bI b ⟨s',cs,td,wt,bz,gn⟩ y R'))=>dJ (σ:=⟨s',cs,td,wt,bz,gn⟩) hy h);unfold bI at HS HBG;dsimp only at*
 have h1:O _ (aa (w.heap.size+1) #[o B 0,J D,o B 0,o B 0,o B 0,J D] 36*(aa b #[.pointer (F (I y.f 0 C)),o B 0,.slice y.A y.ps.length y.c,.pointer (F (I y.sh 0 C)),J bz,(.slice y.G gn.length y.d)] 114*((cr (.slice y.A y.ps.length y.c) y.ps*(ao (.slice y.G gn.length y.d) gn*(aI y.sh td wt*aU y.ps cs)))*(du y.f s*(aa w.heap.size #[o B x.kind,o B x.core,o B x.m.page,o B x.m.size,o B x.m.frame,o B x.m.rights,o B x.a.page,o B x.a.kind,J x.a.user] 43*R))))):=h0.eq (by ac_rfl);clear h h0 hok hy;obtain⟨c0,c1,c2,c3,c4,c5⟩:=h1.right.cells6;have cl:=h1.right.lt;have xc:=h1.right.r3.cell 0;have xl:=h1.right.r3.lt;cases bz with
 |true=>
  have e:U ⟨s,cs,td,wt,V,gn⟩ x=(⟨s,cs,td,wt,V,gn⟩,.no 8):=by unfold U;rw[if_pos rfl]
  rw[e];have HS1:=K (HS.out s);clear e hq HBG HS;go_enter func58,ntmps58;go_upto_region 2 with fail;clear c0 c1 c2 c3 c4 c5 cl xc xl;generalize (w.alloc (.cells #[o B x.kind,o B x.core,o B x.m.page,o B x.m.size,o B x.m.frame,o B x.m.rights,o B x.a.page,o B x.a.kind,J x.a.user] 43)).alloc (.cells #[o B 0,J D,o B 0,o B 0,o B 0,J D] 36)=w1 at*
  generalize w.heap.size=X at*
  generalize X+1=E at*
  go_wp2_with fail
  refine(fj 8 _).mono ?_;rintro e w7 ⟨rfl,b7⟩;have h7:=h1.below b7;have x7:=x0.below b7;clear h1 x0 b7;obtain⟨e0,e1,e2,e3,e4,e5⟩:=h7.cells6;obtain⟨f0,f1,f2,f3,f4,f5⟩:=h7.frees6;have el:=h7.lt;go_wp2_with fail
  refine am (fun wz=>O wz (aa E #[o B 8,J D,o B 0,o B 0,o B 0,J D] 36*(aa b #[.pointer (F (I y.f 0 C)),o B 0,.slice y.A y.ps.length y.c,.pointer (F (I y.sh 0 C)),J V,.slice y.G gn.length y.d] 114*((cr (.slice y.A y.ps.length y.c) y.ps*(ao (.slice y.G gn.length y.d) gn*(aI y.sh td wt*aU y.ps cs)))*(du y.f s*(aa X #[o B x.kind,o B x.core,o B x.m.page,o B x.m.size,o B x.m.frame,o B x.m.rights,o B x.a.page,o B x.a.kind,J x.a.user] 43*R)))))∧Y w wz) ⟨h7.set6 _ _ _ _ _ _,ah⟩ ?_;rintro wz ⟨hz,xz⟩;exact N (aG results58 rfl (aM hz)) rfl ⟨rfl,HS1.out _ (aa X #[o B x.kind,o B x.core,o B x.m.page,o B x.m.size,o B x.m.frame,o B x.m.rights,o B x.a.page,o B x.a.kind,J x.a.user] 43*R) (hz.right.eq (by ac_rfl)) |>.p2.right,xz⟩
 |false=>
  have HBG2:=K (fun s' (G:Option a4) (gn gd:Nat) (g:List Int) (m:Mp) R w h=>HBG.out s' G gn gd g m (hq rfl) R w h);clear HBG hq;by_cases o1:x.kind=1
  ·have e:U ⟨s,cs,td,wt,D,gn⟩ x=(⟨dR s 0 x.m,cs,td,wt,D,gn⟩,⟨cU s 0 x.m,D,An.zero,decide (cU s 0 x.m=0)⟩):=by unfold U;rw[if_neg (by simp),if_pos o1]
   rw[e];have HS1:=K (HS.out (dR s 0 x.m));have HI:=K (fun R w h=>AG y.f s R w h 0 x.m);clear e HBG2 HS;generalize cU s 0 x.m=cd at*
   generalize dR s 0 x.m=sA at*
   generalize x.kind=op at*
   subst o1;go_enter func58,ntmps58;go_upto_region 5 with fail;clear c0 c1 c2 c3 c4 c5 cl xc xl;generalize (w.alloc (.cells #[o B 1,o B x.core,o B x.m.page,o B x.m.size,o B x.m.frame,o B x.m.rights,o B x.a.page,o B x.a.kind,J x.a.user] 43)).alloc (.cells #[o B 0,J D,o B 0,o B 0,o B 0,J D] 36)=w1 at*
   generalize w.heap.size=X at*
   generalize X+1=E at*
   have h2:O w1 (du y.f s*(aa b #[.pointer (F (I y.f 0 C)),o B 0,.slice y.A y.ps.length y.c,.pointer (F (I y.sh 0 C)),J D,(.slice y.G gn.length y.d)] 114*(aa X #[o B 1,o B x.core,o B x.m.page,o B x.m.size,o B x.m.frame,o B x.m.rights,o B x.a.page,o B x.a.kind,J x.a.user] 43*((cr (.slice y.A y.ps.length y.c) y.ps*(ao (.slice y.G gn.length y.d) gn*(aI y.sh td wt*aU y.ps cs)))*(aa E #[o B 0,J D,o B 0,o B 0,o B 0,J D] 36*R))))):=h1.eq (by ac_rfl);have HK:=K (fun(w':T) (P Q:ab) (h:O w' (P*(aa b #[.pointer (F (I y.f 0 C)),o B 0,.slice y.A y.ps.length y.c,.pointer (F (I y.sh 0 C)),J D,(.slice y.G gn.length y.d)] 114*(aa X #[o B 1,o B x.core,o B x.m.page,o B x.m.size,o B x.m.frame,o B x.m.rights,o B x.a.page,o B x.a.kind,J x.a.user] 43*Q))))=>(⟨h.right.cell 0,h.right.cell 1,h.right.right.cell 2,h.right.right.cell 3,h.right.right.cell 4,h.right.right.cell 5⟩:w'.cell? (I b 0 C)=F (.pointer (F (I y.f 0 C)))∧w'.cell? (I b 1 C)=F (o B 0)∧w'.cell? (I X 2 C)=F (o B x.m.page)∧w'.cell? (I X 3 C)=F (o B x.m.size)∧w'.cell? (I X 4 C)=F (o B x.m.frame)∧w'.cell? (I X 5 C)=F (o B x.m.rights)));have cl:=h2.right.lt;have xl:=h2.right.right.lt;have hd:=h2.drew;have xd:=x0.drew;have hz:=h2;have xz:=x0;clear h1 h2 x0;go_region_held3 (fun w'=>w'.cell? (I b 0 C)=F (.pointer (F (I y.f 0 C)))∧w'.cell? (I b 1 C)=F (o B 0)∧w'.cell? (I X 2 C)=F (o B x.m.page)∧w'.cell? (I X 3 C)=F (o B x.m.size)∧w'.cell? (I X 4 C)=F (o B x.m.frame)∧w'.cell? (I X 5 C)=F (o B x.m.rights)) (first|(with_reducible exact HK.out _ _ _ hd)|(with_reducible exact HK.out _ _ _ h5)|go_keep) (first|(go_at_call 97;(with_reducible refine(HI.out _ _ hd).mono ?_);rintro e w5 ⟨rfl,h5,x5⟩))
   all_goals
    have h6:O w5 (aa E #[o B 0,J D,o B 0,o B 0,o B 0,J D] 36*(aa b #[.pointer (F (I y.f 0 C)),o B 0,.slice y.A y.ps.length y.c,.pointer (F (I y.sh 0 C)),J D,(.slice y.G gn.length y.d)] 114*((cr (.slice y.A y.ps.length y.c) y.ps*(ao (.slice y.G gn.length y.d) gn*(aI y.sh td wt*aU y.ps cs)))*(du y.f sA*(aa X #[o B 1,o B x.core,o B x.m.page,o B x.m.size,o B x.m.frame,o B x.m.rights,o B x.a.page,o B x.a.kind,J x.a.user] 43*R))))):=h5.eq (by ac_rfl);have x6:=xd.trans x5;clear hd xd h5 x5 HI HK cl xl;by_cases hcd:cd=0
    ·subst hcd
     obtain⟨e0,e1,e2,e3,e4,e5⟩:=h6.cells6;obtain⟨f0,f1,f2,f3,f4,f5⟩:=h6.frees6;have el:=h6.lt;go_wp2_with fail
     refine am (fun wz=>O wz (aa E #[o B 0,J D,o B 0,o B 0,o B 0,J V] 36*(aa b #[.pointer (F (I y.f 0 C)),o B 0,.slice y.A y.ps.length y.c,.pointer (F (I y.sh 0 C)),J D,(.slice y.G gn.length y.d)] 114*((cr (.slice y.A y.ps.length y.c) y.ps*(ao (.slice y.G gn.length y.d) gn*(aI y.sh td wt*aU y.ps cs)))*(du y.f sA*(aa X #[o B 1,o B x.core,o B x.m.page,o B x.m.size,o B x.m.frame,o B x.m.rights,o B x.a.page,o B x.a.kind,J x.a.user] 43*R)))))∧Y w wz) ⟨h6.set6 _ _ _ _ _ _,ah⟩ ?_;rintro wz ⟨hz,xz⟩;exact N (aG results58 rfl (aM hz)) rfl ⟨rfl,HS1.out _ (aa X #[o B 1,o B x.core,o B x.m.page,o B x.m.size,o B x.m.frame,o B x.m.rights,o B x.a.page,o B x.a.kind,J x.a.user] 43*R) (hz.right.eq (by ac_rfl)) |>.p2.right,xz⟩
    ·have hcd':(cd !=0)=V:=by simpa using hcd
     have HEV:=K (show Ev.val ⟨cd,D,An.zero,decide (cd=0)⟩= .agg #[o B cd,J D,o B 0,o B 0,o B 0,J D] by rw[decide_eq_false hcd];rfl);clear hcd;go_wp2_with fail
     refine(fj cd _).mono ?_;rintro e w7 ⟨rfl,b7⟩;have h7:=h6.below b7;have x7:=x6.below b7;clear h6 x6 b7;obtain⟨e0,e1,e2,e3,e4,e5⟩:=h7.cells6;obtain⟨f0,f1,f2,f3,f4,f5⟩:=h7.frees6;have el:=h7.lt;go_wp2_with fail
     refine am (fun wz=>O wz (aa E #[o B cd,J D,o B 0,o B 0,o B 0,J D] 36*(aa b #[.pointer (F (I y.f 0 C)),o B 0,.slice y.A y.ps.length y.c,.pointer (F (I y.sh 0 C)),J D,(.slice y.G gn.length y.d)] 114*((cr (.slice y.A y.ps.length y.c) y.ps*(ao (.slice y.G gn.length y.d) gn*(aI y.sh td wt*aU y.ps cs)))*(du y.f sA*(aa X #[o B 1,o B x.core,o B x.m.page,o B x.m.size,o B x.m.frame,o B x.m.rights,o B x.a.page,o B x.a.kind,J x.a.user] 43*R)))))∧Y w wz) ⟨h7.set6 _ _ _ _ _ _,ah⟩ ?_;rintro wz ⟨hz,xz⟩;exact N (aG results58 rfl (aM hz)) rfl ⟨by rw[HEV.out],HS1.out _ (aa X #[o B 1,o B x.core,o B x.m.page,o B x.m.size,o B x.m.frame,o B x.m.rights,o B x.a.page,o B x.a.kind,J x.a.user] 43*R) (hz.right.eq (by ac_rfl)) |>.p2.right,xz⟩
  by_cases o2:x.kind=2
  ·skip
   have HR:=K (fun R w h=>AH y.f s R w h 0 x.m.page);unfold p8 Mp.val at HR;by_cases hcd:bu s 0 x.m.page=0
   ·have e:U ⟨s,cs,td,wt,D,gn⟩ x=(af ⟨s,cs,td,wt,D,gn⟩ (dm s 0 x.m.page) (bK s 0 x.m.page) (fy s 0 x.m.page),.no 0):=by unfold U;rw[if_neg (by simp),if_neg o1,if_pos o2,if_pos hcd]
    rw[e];rw[hcd] at HR;have HBG1:=K (fun G gn gd g m R w h=>HBG2.out (dm s 0 x.m.page) G gn gd g m R w h);clear e HBG2 HS hcd o1;generalize bK s 0 x.m.page=mp at*
    generalize fy s 0 x.m.page=g at*
    generalize dm s 0 x.m.page=sA at*
    generalize x.kind=op at*
    subst o2;go_enter func58,ntmps58;go_upto_region 10 with fail;clear c0 c1 c2 c3 c4 c5 cl xc xl;generalize (w.alloc (.cells #[o B 2,o B x.core,o B x.m.page,o B x.m.size,o B x.m.frame,o B x.m.rights,o B x.a.page,o B x.a.kind,J x.a.user] 43)).alloc (.cells #[o B 0,J D,o B 0,o B 0,o B 0,J D] 36)=w1 at*
    generalize w.heap.size=X at*
    generalize X+1=E at*
    have h2:O w1 (du y.f s*(aa b #[.pointer (F (I y.f 0 C)),o B 0,.slice y.A y.ps.length y.c,.pointer (F (I y.sh 0 C)),J D,(.slice y.G gn.length y.d)] 114*(aa X #[o B 2,o B x.core,o B x.m.page,o B x.m.size,o B x.m.frame,o B x.m.rights,o B x.a.page,o B x.a.kind,J x.a.user] 43*((cr (.slice y.A y.ps.length y.c) y.ps*(ao (.slice y.G gn.length y.d) gn*(aI y.sh td wt*aU y.ps cs)))*(aa E #[o B 0,J D,o B 0,o B 0,o B 0,J D] 36*R))))):=h1.eq (by ac_rfl);have HK:=K (fun(w':T) (P Q:ab) (h:O w' (P*(aa b #[.pointer (F (I y.f 0 C)),o B 0,.slice y.A y.ps.length y.c,.pointer (F (I y.sh 0 C)),J D,(.slice y.G gn.length y.d)] 114*(aa X #[o B 2,o B x.core,o B x.m.page,o B x.m.size,o B x.m.frame,o B x.m.rights,o B x.a.page,o B x.a.kind,J x.a.user] 43*Q))))=>(⟨h.right.cell 0,h.right.cell 1,h.right.right.cell 2,h.right.right.cell 3,h.right.right.cell 4,h.right.right.cell 5⟩:w'.cell? (I b 0 C)=F (.pointer (F (I y.f 0 C)))∧w'.cell? (I b 1 C)=F (o B 0)∧w'.cell? (I X 2 C)=F (o B x.m.page)∧w'.cell? (I X 3 C)=F (o B x.m.size)∧w'.cell? (I X 4 C)=F (o B x.m.frame)∧w'.cell? (I X 5 C)=F (o B x.m.rights)));have cl:=h2.right.lt;have xl:=h2.right.right.lt;have hd:=h2.drew;have xd:=x0.drew;have hz:=h2;have xz:=x0;clear h1 h2 x0;go_cut [6,7,8] (fun s6 s7 s8 wx=>∃(M:Nat) (G:Option a4) (gn' gd:Nat),s6= .pointer (F (I M 0 C))∧s7= .slice G gn' gd∧s8=o B 0∧O wx (aa M #[o B mp.page,o B mp.size,o B mp.frame,o B mp.rights] 39*((ao (.slice G gn' gd) g*du y.f sA)*(aa b #[.pointer (F (I y.f 0 C)),o B 0,.slice y.A y.ps.length y.c,.pointer (F (I y.sh 0 C)),J D,(.slice y.G gn.length y.d)] 114*(aa X #[o B 2,o B x.core,o B x.m.page,o B x.m.size,o B x.m.frame,o B x.m.rights,o B x.a.page,o B x.a.kind,J x.a.user] 43*((cr (.slice y.A y.ps.length y.c) y.ps*(ao (.slice y.G gn.length y.d) gn*(aI y.sh td wt*aU y.ps cs)))*(aa E #[o B 0,J D,o B 0,o B 0,o B 0,J D] 36*R))))))∧Y w wx)
    case first=>
     have zd:O (w1.alloc (.cells #[o B 0,o B 0,o B 0,o B 0] 39)).drew (du y.f s*(aa b #[.pointer (F (I y.f 0 C)),o B 0,.slice y.A y.ps.length y.c,.pointer (F (I y.sh 0 C)),J D,(.slice y.G gn.length y.d)] 114*(aa X #[o B 2,o B x.core,o B x.m.page,o B x.m.size,o B x.m.frame,o B x.m.rights,o B x.a.page,o B x.a.kind,J x.a.user] 43*((cr (.slice y.A y.ps.length y.c) y.ps*(ao (.slice y.G gn.length y.d) gn*(aI y.sh td wt*aU y.ps cs)))*(aa E #[o B 0,J D,o B 0,o B 0,o B 0,J D] 36*(aa w1.heap.size #[o B 0,o B 0,o B 0,o B 0] 39*R)))))):=(hz.new #[o B 0,o B 0,o B 0,o B 0] 39).drew.eq (by ac_rfl);have yd:=(xz.alloc (.cells #[o B 0,o B 0,o B 0,o B 0] 39)).drew;go_region_held3 (fun w'=>w'.cell? (I b 0 C)=F (.pointer (F (I y.f 0 C)))∧w'.cell? (I b 1 C)=F (o B 0)∧w'.cell? (I X 2 C)=F (o B x.m.page)∧w'.cell? (I X 3 C)=F (o B x.m.size)∧w'.cell? (I X 4 C)=F (o B x.m.frame)∧w'.cell? (I X 5 C)=F (o B x.m.rights)) (first|(with_reducible exact HK.out _ _ _ hd)|(with_reducible exact HK.out _ _ _ zd)|(with_reducible exact HK.out _ _ _ hL)|(with_reducible exact HK.out _ _ _ (hL.alloc _))|(with_reducible exact HK.out _ _ _ gL)|(with_reducible exact HK.out _ _ _ gL.right)|(with_reducible exact HK.out _ _ _ (gL.set4 _ _ _ _).right)|go_keep) (first|(go_at_call 98;first|((with_reducible refine(HR.out _ _ hd).mono ?_);rintro e w5 ⟨G,gn',gd,rfl,h5,x5⟩;have hL:O w5 ((ao (.slice G gn' gd) g*du y.f sA)*(aa b #[.pointer (F (I y.f 0 C)),o B 0,.slice y.A y.ps.length y.c,.pointer (F (I y.sh 0 C)),J D,(.slice y.G gn.length y.d)] 114*(aa X #[o B 2,o B x.core,o B x.m.page,o B x.m.size,o B x.m.frame,o B x.m.rights,o B x.a.page,o B x.a.kind,J x.a.user] 43*((cr (.slice y.A y.ps.length y.c) y.ps*(ao (.slice y.G gn.length y.d) gn*(aI y.sh td wt*aU y.ps cs)))*(aa E #[o B 0,J D,o B 0,o B 0,o B 0,J D] 36*R))))):=h5.eq (by ac_rfl);have xL:=xd.trans x5)|((with_reducible refine(HR.out _ _ zd).mono ?_);rintro e w5 ⟨G,gn',gd,rfl,g5,y5⟩;have gL:O w5 (aa w1.heap.size #[o B 0,o B 0,o B 0,o B 0] 39*((ao (.slice G gn' gd) g*du y.f sA)*(aa b #[.pointer (F (I y.f 0 C)),o B 0,.slice y.A y.ps.length y.c,.pointer (F (I y.sh 0 C)),J D,(.slice y.G gn.length y.d)] 114*(aa X #[o B 2,o B x.core,o B x.m.page,o B x.m.size,o B x.m.frame,o B x.m.rights,o B x.a.page,o B x.a.kind,J x.a.user] 43*((cr (.slice y.A y.ps.length y.c) y.ps*(ao (.slice y.G gn.length y.d) gn*(aI y.sh td wt*aU y.ps cs)))*(aa E #[o B 0,J D,o B 0,o B 0,o B 0,J D] 36*R)))))):=g5.eq (by ac_rfl);have yL:=yd.trans y5;obtain⟨z0,z1,z2,z3⟩:=gL.cells4;obtain⟨y0,y1,y2,y3⟩:=gL.frees4;have zl:=gL.lt)))
     all_goals
      go_wp2_with fail
      go_meet
      case rel=>first|exact⟨_,G,gn',gd,rfl,rfl,rfl,hL.new #[o B mp.page,o B mp.size,o B mp.frame,o B mp.rights] 39,xL.alloc _⟩|exact⟨_,G,gn',gd,rfl,rfl,rfl,gL.set4 _ _ _ _,(((yL.set _ _).set _ _).set _ _).set _ _⟩
    case rest=>
     clear hd xd hz xz HK cl xl HR;obtain⟨M,G,gn',gd,rfl,rfl,rfl,hw,x2⟩:=hcut;have h6:O wc (aa b #[.pointer (F (I y.f 0 C)),o B 0,.slice y.A y.ps.length y.c,.pointer (F (I y.sh 0 C)),J D,(.slice y.G gn.length y.d)] 114*(cr (.slice y.A y.ps.length y.c) y.ps*(ao (.slice y.G gn.length y.d) gn*(aI y.sh td wt*(aU y.ps cs*(du y.f sA*(ao (.slice G gn' gd) g*(aa E #[o B 0,J D,o B 0,o B 0,o B 0,J D] 36*(aa M #[o B mp.page,o B mp.size,o B mp.frame,o B mp.rights] 39*(aa X #[o B 2,o B x.core,o B x.m.page,o B x.m.size,o B x.m.frame,o B x.m.rights,o B x.a.page,o B x.a.kind,J x.a.user] 43*R)))))))))):=hw.eq (by ac_rfl);obtain⟨m0,m1,m2,m3⟩:=hw.cells4;have ml:=hw.lt;go_wp2_with fail
     refine(HBG1.out G gn' gd g mp _ _ h6).mono ?_;rintro e w7 ⟨rfl,h7',x7⟩;have h7:O w7 (aa E #[o B 0,J D,o B 0,o B 0,o B 0,J D] 36*(ak b (af ⟨sA,cs,td,wt,D,gn⟩ sA mp g)*(aa M #[o B mp.page,o B mp.size,o B mp.frame,o B mp.rights] 39*(aa X #[o B 2,o B x.core,o B x.m.page,o B x.m.size,o B x.m.frame,o B x.m.rights,o B x.a.page,o B x.a.kind,J x.a.user] 43*R)))):=h7'.eq (by ac_rfl);have x8:=x2.trans x7;clear h6 h7' x2 x7 hw m0 m1 m2 m3 ml;obtain⟨e0,e1,e2,e3,e4,e5⟩:=h7.cells6;obtain⟨f0,f1,f2,f3,f4,f5⟩:=h7.frees6;have el:=h7.lt;go_wp2_with fail
     refine am (fun wz=>O wz (aa E #[o B 0,J D,o B 0,o B 0,o B 0,J D] 36*(ak b (af ⟨sA,cs,td,wt,D,gn⟩ sA mp g)*(aa M #[o B mp.page,o B mp.size,o B mp.frame,o B mp.rights] 39*(aa X #[o B 2,o B x.core,o B x.m.page,o B x.m.size,o B x.m.frame,o B x.m.rights,o B x.a.page,o B x.a.kind,J x.a.user] 43*R))))∧Y w wz) ⟨h7.set6 _ _ _ _ _ _,ah⟩ ?_;rintro wz ⟨hz,xz⟩;exact N (aG results58 rfl (aM hz)) rfl ⟨rfl,(hz.right.eq (show _=aa M #[o B mp.page,o B mp.size,o B mp.frame,o B mp.rights] 39*(aa X #[o B 2,o B x.core,o B x.m.page,o B x.m.size,o B x.m.frame,o B x.m.rights,o B x.a.page,o B x.a.kind,J x.a.user] 43*(ak b (af ⟨sA,cs,td,wt,D,gn⟩ sA mp g)*R)) by ac_rfl)).right.right,xz⟩
   ·have e:U ⟨s,cs,td,wt,D,gn⟩ x=(⟨s,cs,td,wt,D,gn⟩,.no (bu s 0 x.m.page)):=by unfold U;rw[if_neg (by simp),if_neg o1,if_pos o2,if_neg hcd]
    rw[e];have hss:dm s 0 x.m.page=s:=by unfold dm;rw[if_neg hcd]
    rw[hss] at HR;have HS1:=K (HS.out s);have hcd':(bu s 0 x.m.page !=0)=V:=by simpa using hcd
    clear e HBG2 HS hcd hss o1;generalize bu s 0 x.m.page=cd at*
    generalize bK s 0 x.m.page=mp at*
    generalize fy s 0 x.m.page=g at*
    generalize x.kind=op at*
    subst o2;go_enter func58,ntmps58;go_upto_region 10 with fail;clear c0 c1 c2 c3 c4 c5 cl xc xl;generalize (w.alloc (.cells #[o B 2,o B x.core,o B x.m.page,o B x.m.size,o B x.m.frame,o B x.m.rights,o B x.a.page,o B x.a.kind,J x.a.user] 43)).alloc (.cells #[o B 0,J D,o B 0,o B 0,o B 0,J D] 36)=w1 at*
    generalize w.heap.size=X at*
    generalize X+1=E at*
    have h2:O w1 (du y.f s*(aa b #[.pointer (F (I y.f 0 C)),o B 0,.slice y.A y.ps.length y.c,.pointer (F (I y.sh 0 C)),J D,(.slice y.G gn.length y.d)] 114*(aa X #[o B 2,o B x.core,o B x.m.page,o B x.m.size,o B x.m.frame,o B x.m.rights,o B x.a.page,o B x.a.kind,J x.a.user] 43*((cr (.slice y.A y.ps.length y.c) y.ps*(ao (.slice y.G gn.length y.d) gn*(aI y.sh td wt*aU y.ps cs)))*(aa E #[o B 0,J D,o B 0,o B 0,o B 0,J D] 36*R))))):=h1.eq (by ac_rfl);have HK:=K (fun(w':T) (P Q:ab) (h:O w' (P*(aa b #[.pointer (F (I y.f 0 C)),o B 0,.slice y.A y.ps.length y.c,.pointer (F (I y.sh 0 C)),J D,(.slice y.G gn.length y.d)] 114*(aa X #[o B 2,o B x.core,o B x.m.page,o B x.m.size,o B x.m.frame,o B x.m.rights,o B x.a.page,o B x.a.kind,J x.a.user] 43*Q))))=>(⟨h.right.cell 0,h.right.cell 1,h.right.right.cell 2,h.right.right.cell 3,h.right.right.cell 4,h.right.right.cell 5⟩:w'.cell? (I b 0 C)=F (.pointer (F (I y.f 0 C)))∧w'.cell? (I b 1 C)=F (o B 0)∧w'.cell? (I X 2 C)=F (o B x.m.page)∧w'.cell? (I X 3 C)=F (o B x.m.size)∧w'.cell? (I X 4 C)=F (o B x.m.frame)∧w'.cell? (I X 5 C)=F (o B x.m.rights)));have cl:=h2.right.lt;have xl:=h2.right.right.lt;have hd:=h2.drew;have xd:=x0.drew;have hz:=h2;have xz:=x0;clear h1 h2 x0;go_cut [6,7,8] (fun s6 s7 s8 wx=>∃(M:Nat) (G:Option a4) (gn' gd:Nat),s6= .pointer (F (I M 0 C))∧s7= .slice G gn' gd∧s8=o B cd∧O wx (aa M #[o B mp.page,o B mp.size,o B mp.frame,o B mp.rights] 39*((ao (.slice G gn' gd) g*du y.f s)*(aa b #[.pointer (F (I y.f 0 C)),o B 0,.slice y.A y.ps.length y.c,.pointer (F (I y.sh 0 C)),J D,(.slice y.G gn.length y.d)] 114*(aa X #[o B 2,o B x.core,o B x.m.page,o B x.m.size,o B x.m.frame,o B x.m.rights,o B x.a.page,o B x.a.kind,J x.a.user] 43*((cr (.slice y.A y.ps.length y.c) y.ps*(ao (.slice y.G gn.length y.d) gn*(aI y.sh td wt*aU y.ps cs)))*(aa E #[o B 0,J D,o B 0,o B 0,o B 0,J D] 36*R))))))∧Y w wx)
    case first=>
     have zd:O (w1.alloc (.cells #[o B 0,o B 0,o B 0,o B 0] 39)).drew (du y.f s*(aa b #[.pointer (F (I y.f 0 C)),o B 0,.slice y.A y.ps.length y.c,.pointer (F (I y.sh 0 C)),J D,(.slice y.G gn.length y.d)] 114*(aa X #[o B 2,o B x.core,o B x.m.page,o B x.m.size,o B x.m.frame,o B x.m.rights,o B x.a.page,o B x.a.kind,J x.a.user] 43*((cr (.slice y.A y.ps.length y.c) y.ps*(ao (.slice y.G gn.length y.d) gn*(aI y.sh td wt*aU y.ps cs)))*(aa E #[o B 0,J D,o B 0,o B 0,o B 0,J D] 36*(aa w1.heap.size #[o B 0,o B 0,o B 0,o B 0] 39*R)))))):=(hz.new #[o B 0,o B 0,o B 0,o B 0] 39).drew.eq (by ac_rfl);have yd:=(xz.alloc (.cells #[o B 0,o B 0,o B 0,o B 0] 39)).drew;go_region_held3 (fun w'=>w'.cell? (I b 0 C)=F (.pointer (F (I y.f 0 C)))∧w'.cell? (I b 1 C)=F (o B 0)∧w'.cell? (I X 2 C)=F (o B x.m.page)∧w'.cell? (I X 3 C)=F (o B x.m.size)∧w'.cell? (I X 4 C)=F (o B x.m.frame)∧w'.cell? (I X 5 C)=F (o B x.m.rights)) (first|(with_reducible exact HK.out _ _ _ hd)|(with_reducible exact HK.out _ _ _ zd)|(with_reducible exact HK.out _ _ _ hL)|(with_reducible exact HK.out _ _ _ (hL.alloc _))|(with_reducible exact HK.out _ _ _ gL)|(with_reducible exact HK.out _ _ _ gL.right)|(with_reducible exact HK.out _ _ _ (gL.set4 _ _ _ _).right)|go_keep) (first|(go_at_call 98;first|((with_reducible refine(HR.out _ _ hd).mono ?_);rintro e w5 ⟨G,gn',gd,rfl,h5,x5⟩;have hL:O w5 ((ao (.slice G gn' gd) g*du y.f s)*(aa b #[.pointer (F (I y.f 0 C)),o B 0,.slice y.A y.ps.length y.c,.pointer (F (I y.sh 0 C)),J D,(.slice y.G gn.length y.d)] 114*(aa X #[o B 2,o B x.core,o B x.m.page,o B x.m.size,o B x.m.frame,o B x.m.rights,o B x.a.page,o B x.a.kind,J x.a.user] 43*((cr (.slice y.A y.ps.length y.c) y.ps*(ao (.slice y.G gn.length y.d) gn*(aI y.sh td wt*aU y.ps cs)))*(aa E #[o B 0,J D,o B 0,o B 0,o B 0,J D] 36*R))))):=h5.eq (by ac_rfl);have xL:=xd.trans x5)|((with_reducible refine(HR.out _ _ zd).mono ?_);rintro e w5 ⟨G,gn',gd,rfl,g5,y5⟩;have gL:O w5 (aa w1.heap.size #[o B 0,o B 0,o B 0,o B 0] 39*((ao (.slice G gn' gd) g*du y.f s)*(aa b #[.pointer (F (I y.f 0 C)),o B 0,.slice y.A y.ps.length y.c,.pointer (F (I y.sh 0 C)),J D,(.slice y.G gn.length y.d)] 114*(aa X #[o B 2,o B x.core,o B x.m.page,o B x.m.size,o B x.m.frame,o B x.m.rights,o B x.a.page,o B x.a.kind,J x.a.user] 43*((cr (.slice y.A y.ps.length y.c) y.ps*(ao (.slice y.G gn.length y.d) gn*(aI y.sh td wt*aU y.ps cs)))*(aa E #[o B 0,J D,o B 0,o B 0,o B 0,J D] 36*R)))))):=g5.eq (by ac_rfl);have yL:=yd.trans y5;obtain⟨z0,z1,z2,z3⟩:=gL.cells4;obtain⟨y0,y1,y2,y3⟩:=gL.frees4;have zl:=gL.lt)))
     all_goals
      go_wp2_with fail
      go_meet
      case rel=>first|exact⟨_,G,gn',gd,rfl,rfl,rfl,hL.new #[o B mp.page,o B mp.size,o B mp.frame,o B mp.rights] 39,xL.alloc _⟩|exact⟨_,G,gn',gd,rfl,rfl,rfl,gL.set4 _ _ _ _,(((yL.set _ _).set _ _).set _ _).set _ _⟩
    case rest=>
     clear hd xd hz xz HK cl xl HR;obtain⟨M,G,gn',gd,rfl,rfl,rfl,hw,x2⟩:=hcut;have h6:O wc (aa E #[o B 0,J D,o B 0,o B 0,o B 0,J D] 36*(aa b #[.pointer (F (I y.f 0 C)),o B 0,.slice y.A y.ps.length y.c,.pointer (F (I y.sh 0 C)),J D,(.slice y.G gn.length y.d)] 114*((cr (.slice y.A y.ps.length y.c) y.ps*(ao (.slice y.G gn.length y.d) gn*(aI y.sh td wt*aU y.ps cs)))*(du y.f s*(ao (.slice G gn' gd) g*(aa M #[o B mp.page,o B mp.size,o B mp.frame,o B mp.rights] 39*(aa X #[o B 2,o B x.core,o B x.m.page,o B x.m.size,o B x.m.frame,o B x.m.rights,o B x.a.page,o B x.a.kind,J x.a.user] 43*R))))))):=hw.eq (by ac_rfl);clear hw;go_wp2_with fail
     refine(fj cd _).mono ?_;rintro e w7 ⟨rfl,b7⟩;have h7:=h6.below b7;have x7:=x2.below b7;clear h6 x2 b7;obtain⟨e0,e1,e2,e3,e4,e5⟩:=h7.cells6;obtain⟨f0,f1,f2,f3,f4,f5⟩:=h7.frees6;have el:=h7.lt;go_wp2_with fail
     refine am (fun wz=>O wz (aa E #[o B cd,J D,o B 0,o B 0,o B 0,J D] 36*(aa b #[.pointer (F (I y.f 0 C)),o B 0,.slice y.A y.ps.length y.c,.pointer (F (I y.sh 0 C)),J D,(.slice y.G gn.length y.d)] 114*((cr (.slice y.A y.ps.length y.c) y.ps*(ao (.slice y.G gn.length y.d) gn*(aI y.sh td wt*aU y.ps cs)))*(du y.f s*(ao (.slice G gn' gd) g*(aa M #[o B mp.page,o B mp.size,o B mp.frame,o B mp.rights] 39*(aa X #[o B 2,o B x.core,o B x.m.page,o B x.m.size,o B x.m.frame,o B x.m.rights,o B x.a.page,o B x.a.kind,J x.a.user] 43*R)))))))∧Y w wz) ⟨h7.set6 _ _ _ _ _ _,ah⟩ ?_;rintro wz ⟨hz,xz⟩;exact N (aG results58 rfl (aM hz)) rfl ⟨rfl,HS1.out _ (ao (.slice G gn' gd) g*(aa M #[o B mp.page,o B mp.size,o B mp.frame,o B mp.rights] 39*(aa X #[o B 2,o B x.core,o B x.m.page,o B x.m.size,o B x.m.frame,o B x.m.rights,o B x.a.page,o B x.a.kind,J x.a.user] 43*R))) (hz.right.eq (by ac_rfl)) |>.eq (show _=ao (.slice G gn' gd) g*(aa M #[o B mp.page,o B mp.size,o B mp.frame,o B mp.rights] 39*(aa X #[o B 2,o B x.core,o B x.m.page,o B x.m.size,o B x.m.frame,o B x.m.rights,o B x.a.page,o B x.a.kind,J x.a.user] 43*(ak b ⟨s,cs,td,wt,D,gn⟩*R))) by ac_rfl) |>.right.right.right,xz⟩
  ·skip
   have HR:=K (fun R w h=>AV y.f s R w h 0 x.m.page x.m.rights);unfold Mp.val at HR;by_cases hcd:iQ s 0 x.m.page x.m.rights=0
   ·have e:U ⟨s,cs,td,wt,D,gn⟩ x=(af ⟨s,cs,td,wt,D,gn⟩ (gX s 0 x.m.page x.m.rights) (kU s 0 x.m.page x.m.rights) [],.no 0):=by unfold U;rw[if_neg (by simp),if_neg o1,if_neg o2,if_pos hcd]
    rw[e];rw[hcd] at HR;have HBG1:=K (fun G gn gd g m R w h=>HBG2.out (gX s 0 x.m.page x.m.rights) G gn gd g m R w h);clear e HBG2 HS hcd;generalize kU s 0 x.m.page x.m.rights=mp at*
    generalize gX s 0 x.m.page x.m.rights=sA at*
    go_enter func58,ntmps58;go_upto_region 14 with fail;clear c0 c1 c2 c3 c4 c5 cl xc xl;generalize (w.alloc (.cells #[o B x.kind,o B x.core,o B x.m.page,o B x.m.size,o B x.m.frame,o B x.m.rights,o B x.a.page,o B x.a.kind,J x.a.user] 43)).alloc (.cells #[o B 0,J D,o B 0,o B 0,o B 0,J D] 36)=w1 at*
    generalize w.heap.size=X at*
    generalize X+1=E at*
    have h2:O w1 (du y.f s*(aa b #[.pointer (F (I y.f 0 C)),o B 0,.slice y.A y.ps.length y.c,.pointer (F (I y.sh 0 C)),J D,(.slice y.G gn.length y.d)] 114*(aa X #[o B x.kind,o B x.core,o B x.m.page,o B x.m.size,o B x.m.frame,o B x.m.rights,o B x.a.page,o B x.a.kind,J x.a.user] 43*((cr (.slice y.A y.ps.length y.c) y.ps*(ao (.slice y.G gn.length y.d) gn*(aI y.sh td wt*aU y.ps cs)))*(aa E #[o B 0,J D,o B 0,o B 0,o B 0,J D] 36*R))))):=h1.eq (by ac_rfl);have HK:=K (fun(w':T) (P Q:ab) (h:O w' (P*(aa b #[.pointer (F (I y.f 0 C)),o B 0,.slice y.A y.ps.length y.c,.pointer (F (I y.sh 0 C)),J D,(.slice y.G gn.length y.d)] 114*(aa X #[o B x.kind,o B x.core,o B x.m.page,o B x.m.size,o B x.m.frame,o B x.m.rights,o B x.a.page,o B x.a.kind,J x.a.user] 43*Q))))=>(⟨h.right.cell 0,h.right.cell 1,h.right.right.cell 2,h.right.right.cell 3,h.right.right.cell 4,h.right.right.cell 5⟩:w'.cell? (I b 0 C)=F (.pointer (F (I y.f 0 C)))∧w'.cell? (I b 1 C)=F (o B 0)∧w'.cell? (I X 2 C)=F (o B x.m.page)∧w'.cell? (I X 3 C)=F (o B x.m.size)∧w'.cell? (I X 4 C)=F (o B x.m.frame)∧w'.cell? (I X 5 C)=F (o B x.m.rights)));have cl:=h2.right.lt;have xl:=h2.right.right.lt;have hd:=h2.drew;have xd:=x0.drew;have hz:=h2;have xz:=x0;clear h1 h2 x0;have zd:O (w1.alloc (.cells #[o B 0,o B 0,o B 0,o B 0] 39)).drew (du y.f s*(aa b #[.pointer (F (I y.f 0 C)),o B 0,.slice y.A y.ps.length y.c,.pointer (F (I y.sh 0 C)),J D,(.slice y.G gn.length y.d)] 114*(aa X #[o B x.kind,o B x.core,o B x.m.page,o B x.m.size,o B x.m.frame,o B x.m.rights,o B x.a.page,o B x.a.kind,J x.a.user] 43*((cr (.slice y.A y.ps.length y.c) y.ps*(ao (.slice y.G gn.length y.d) gn*(aI y.sh td wt*aU y.ps cs)))*(aa E #[o B 0,J D,o B 0,o B 0,o B 0,J D] 36*(aa w1.heap.size #[o B 0,o B 0,o B 0,o B 0] 39*R)))))):=(hz.new #[o B 0,o B 0,o B 0,o B 0] 39).drew.eq (by ac_rfl);have yd:=(xz.alloc (.cells #[o B 0,o B 0,o B 0,o B 0] 39)).drew;go_region_held3 (fun w'=>w'.cell? (I b 0 C)=F (.pointer (F (I y.f 0 C)))∧w'.cell? (I b 1 C)=F (o B 0)∧w'.cell? (I X 2 C)=F (o B x.m.page)∧w'.cell? (I X 3 C)=F (o B x.m.size)∧w'.cell? (I X 4 C)=F (o B x.m.frame)∧w'.cell? (I X 5 C)=F (o B x.m.rights)) (first|(with_reducible exact HK.out _ _ _ hd)|(with_reducible exact HK.out _ _ _ zd)|(with_reducible exact HK.out _ _ _ hL)|(with_reducible exact HK.out _ _ _ (hL.alloc _))|(with_reducible exact HK.out _ _ _ gL)|(with_reducible exact HK.out _ _ _ gL.right)|(with_reducible exact HK.out _ _ _ (gL.set4 _ _ _ _).right)|go_keep) (first|(go_at_call 100;first|((with_reducible refine(HR.out _ _ hd).mono ?_);rintro e w5 ⟨rfl,h5,x5⟩;have hL:O w5 ((du y.f sA)*(aa b #[.pointer (F (I y.f 0 C)),o B 0,.slice y.A y.ps.length y.c,.pointer (F (I y.sh 0 C)),J D,(.slice y.G gn.length y.d)] 114*(aa X #[o B x.kind,o B x.core,o B x.m.page,o B x.m.size,o B x.m.frame,o B x.m.rights,o B x.a.page,o B x.a.kind,J x.a.user] 43*((cr (.slice y.A y.ps.length y.c) y.ps*(ao (.slice y.G gn.length y.d) gn*(aI y.sh td wt*aU y.ps cs)))*(aa E #[o B 0,J D,o B 0,o B 0,o B 0,J D] 36*R))))):=h5.eq (by ac_rfl);have xL:=xd.trans x5)|((with_reducible refine(HR.out _ _ zd).mono ?_);rintro e w5 ⟨rfl,g5,y5⟩;have gL:O w5 (aa w1.heap.size #[o B 0,o B 0,o B 0,o B 0] 39*((du y.f sA)*(aa b #[.pointer (F (I y.f 0 C)),o B 0,.slice y.A y.ps.length y.c,.pointer (F (I y.sh 0 C)),J D,(.slice y.G gn.length y.d)] 114*(aa X #[o B x.kind,o B x.core,o B x.m.page,o B x.m.size,o B x.m.frame,o B x.m.rights,o B x.a.page,o B x.a.kind,J x.a.user] 43*((cr (.slice y.A y.ps.length y.c) y.ps*(ao (.slice y.G gn.length y.d) gn*(aI y.sh td wt*aU y.ps cs)))*(aa E #[o B 0,J D,o B 0,o B 0,o B 0,J D] 36*R)))))):=g5.eq (by ac_rfl);have yL:=yd.trans y5;obtain⟨z0,z1,z2,z3⟩:=gL.cells4;obtain⟨y0,y1,y2,y3⟩:=gL.frees4;have zl:=gL.lt)))
    all_goals
     first
     |(have hw:=hL.new #[o B mp.page,o B mp.size,o B mp.frame,o B mp.rights] 39
       have x2:=xL.alloc (.cells #[o B mp.page,o B mp.size,o B mp.frame,o B mp.rights] 39);clear hL xL h5 x5;generalize w5.alloc _=wc at*
       generalize w5.heap.size=M at*)
     |(have hw:=gL.set4 (o B mp.page) (o B mp.size) (o B mp.frame) (o B mp.rights)
       have x2:=(((yL.set (I w1.heap.size 0 C) (o B mp.page)).set (I w1.heap.size 1 C) (o B mp.size)).set (I w1.heap.size 2 C) (o B mp.frame)).set (I w1.heap.size 3 C) (o B mp.rights);clear gL yL g5 y5 z0 z1 z2 z3 y0 y1 y2 y3 zl;generalize (((w5.setCell (I w1.heap.size 0 C) (o B mp.page)).setCell (I w1.heap.size 1 C) (o B mp.size)).setCell (I w1.heap.size 2 C) (o B mp.frame)).setCell (I w1.heap.size 3 C) (o B mp.rights)=wc at*
       generalize w1.heap.size=M at*)
     clear hd xd hz xz HK cl xl HR zd yd;have h6':O wc (ao (.slice C 0 0) []*(aa b #[.pointer (F (I y.f 0 C)),o B 0,.slice y.A y.ps.length y.c,.pointer (F (I y.sh 0 C)),J D,(.slice y.G gn.length y.d)] 114*(cr (.slice y.A y.ps.length y.c) y.ps*(ao (.slice y.G gn.length y.d) gn*(aI y.sh td wt*(aU y.ps cs*(du y.f sA*(aa E #[o B 0,J D,o B 0,o B 0,o B 0,J D] 36*(aa M #[o B mp.page,o B mp.size,o B mp.frame,o B mp.rights] 39*(aa X #[o B x.kind,o B x.core,o B x.m.page,o B x.m.size,o B x.m.frame,o B x.m.rights,o B x.a.page,o B x.a.kind,J x.a.user] 43*R)))))))))):=Has.rowNil (e:=3) (size:=1) (hw.eq (by ac_rfl));have h6:O wc (aa b #[.pointer (F (I y.f 0 C)),o B 0,.slice y.A y.ps.length y.c,.pointer (F (I y.sh 0 C)),J D,(.slice y.G gn.length y.d)] 114*(cr (.slice y.A y.ps.length y.c) y.ps*(ao (.slice y.G gn.length y.d) gn*(aI y.sh td wt*(aU y.ps cs*(du y.f sA*(ao (.slice C 0 0) []*(aa E #[o B 0,J D,o B 0,o B 0,o B 0,J D] 36*(aa M #[o B mp.page,o B mp.size,o B mp.frame,o B mp.rights] 39*(aa X #[o B x.kind,o B x.core,o B x.m.page,o B x.m.size,o B x.m.frame,o B x.m.rights,o B x.a.page,o B x.a.kind,J x.a.user] 43*R)))))))))):=h6'.eq (by ac_rfl);clear h6';obtain⟨m0,m1,m2,m3⟩:=hw.cells4;have ml:=hw.lt;go_wp2_with fail
     refine(HBG1.out C 0 0 [] mp _ _ h6).mono ?_;rintro e w7 ⟨rfl,h7',x7⟩;have h7:O w7 (aa E #[o B 0,J D,o B 0,o B 0,o B 0,J D] 36*(ak b (af ⟨sA,cs,td,wt,D,gn⟩ sA mp [])*(aa M #[o B mp.page,o B mp.size,o B mp.frame,o B mp.rights] 39*(aa X #[o B x.kind,o B x.core,o B x.m.page,o B x.m.size,o B x.m.frame,o B x.m.rights,o B x.a.page,o B x.a.kind,J x.a.user] 43*R)))):=h7'.eq (by ac_rfl);have x8:=x2.trans x7;clear h6 h7' x2 x7 hw m0 m1 m2 m3 ml;obtain⟨e0,e1,e2,e3,e4,e5⟩:=h7.cells6;obtain⟨f0,f1,f2,f3,f4,f5⟩:=h7.frees6;have el:=h7.lt;go_wp2_with fail
     refine am (fun wz=>O wz (aa E #[o B 0,J D,o B 0,o B 0,o B 0,J D] 36*(ak b (af ⟨sA,cs,td,wt,D,gn⟩ sA mp [])*(aa M #[o B mp.page,o B mp.size,o B mp.frame,o B mp.rights] 39*(aa X #[o B x.kind,o B x.core,o B x.m.page,o B x.m.size,o B x.m.frame,o B x.m.rights,o B x.a.page,o B x.a.kind,J x.a.user] 43*R))))∧Y w wz) ⟨h7.set6 _ _ _ _ _ _,ah⟩ ?_;rintro wz ⟨hz,xz⟩;exact N (aG results58 rfl (aM hz)) rfl ⟨rfl,(hz.right.eq (show _=aa M #[o B mp.page,o B mp.size,o B mp.frame,o B mp.rights] 39*(aa X #[o B x.kind,o B x.core,o B x.m.page,o B x.m.size,o B x.m.frame,o B x.m.rights,o B x.a.page,o B x.a.kind,J x.a.user] 43*(ak b (af ⟨sA,cs,td,wt,D,gn⟩ sA mp [])*R)) by ac_rfl)).right.right,xz⟩
   ·have e:U ⟨s,cs,td,wt,D,gn⟩ x=(⟨s,cs,td,wt,D,gn⟩,.no (iQ s 0 x.m.page x.m.rights)):=by unfold U;rw[if_neg (by simp),if_neg o1,if_neg o2,if_neg hcd]
    rw[e];have hss:gX s 0 x.m.page x.m.rights=s:=by unfold gX;rw[if_neg hcd]
    rw[hss] at HR;have HS1:=K (HS.out s);have hcd':(iQ s 0 x.m.page x.m.rights !=0)=V:=by simpa using hcd
    clear e HBG2 HS hcd hss;generalize iQ s 0 x.m.page x.m.rights=cd at*
    generalize kU s 0 x.m.page x.m.rights=mp at*
    go_enter func58,ntmps58;go_upto_region 14 with fail;clear c0 c1 c2 c3 c4 c5 cl xc xl;generalize (w.alloc (.cells #[o B x.kind,o B x.core,o B x.m.page,o B x.m.size,o B x.m.frame,o B x.m.rights,o B x.a.page,o B x.a.kind,J x.a.user] 43)).alloc (.cells #[o B 0,J D,o B 0,o B 0,o B 0,J D] 36)=w1 at*
    generalize w.heap.size=X at*
    generalize X+1=E at*
    have h2:O w1 (du y.f s*(aa b #[.pointer (F (I y.f 0 C)),o B 0,.slice y.A y.ps.length y.c,.pointer (F (I y.sh 0 C)),J D,(.slice y.G gn.length y.d)] 114*(aa X #[o B x.kind,o B x.core,o B x.m.page,o B x.m.size,o B x.m.frame,o B x.m.rights,o B x.a.page,o B x.a.kind,J x.a.user] 43*((cr (.slice y.A y.ps.length y.c) y.ps*(ao (.slice y.G gn.length y.d) gn*(aI y.sh td wt*aU y.ps cs)))*(aa E #[o B 0,J D,o B 0,o B 0,o B 0,J D] 36*R))))):=h1.eq (by ac_rfl);have HK:=K (fun(w':T) (P Q:ab) (h:O w' (P*(aa b #[.pointer (F (I y.f 0 C)),o B 0,.slice y.A y.ps.length y.c,.pointer (F (I y.sh 0 C)),J D,(.slice y.G gn.length y.d)] 114*(aa X #[o B x.kind,o B x.core,o B x.m.page,o B x.m.size,o B x.m.frame,o B x.m.rights,o B x.a.page,o B x.a.kind,J x.a.user] 43*Q))))=>(⟨h.right.cell 0,h.right.cell 1,h.right.right.cell 2,h.right.right.cell 3,h.right.right.cell 4,h.right.right.cell 5⟩:w'.cell? (I b 0 C)=F (.pointer (F (I y.f 0 C)))∧w'.cell? (I b 1 C)=F (o B 0)∧w'.cell? (I X 2 C)=F (o B x.m.page)∧w'.cell? (I X 3 C)=F (o B x.m.size)∧w'.cell? (I X 4 C)=F (o B x.m.frame)∧w'.cell? (I X 5 C)=F (o B x.m.rights)));have cl:=h2.right.lt;have xl:=h2.right.right.lt;have hd:=h2.drew;have xd:=x0.drew;have hz:=h2;have xz:=x0;clear h1 h2 x0;have zd:O (w1.alloc (.cells #[o B 0,o B 0,o B 0,o B 0] 39)).drew (du y.f s*(aa b #[.pointer (F (I y.f 0 C)),o B 0,.slice y.A y.ps.length y.c,.pointer (F (I y.sh 0 C)),J D,(.slice y.G gn.length y.d)] 114*(aa X #[o B x.kind,o B x.core,o B x.m.page,o B x.m.size,o B x.m.frame,o B x.m.rights,o B x.a.page,o B x.a.kind,J x.a.user] 43*((cr (.slice y.A y.ps.length y.c) y.ps*(ao (.slice y.G gn.length y.d) gn*(aI y.sh td wt*aU y.ps cs)))*(aa E #[o B 0,J D,o B 0,o B 0,o B 0,J D] 36*(aa w1.heap.size #[o B 0,o B 0,o B 0,o B 0] 39*R)))))):=(hz.new #[o B 0,o B 0,o B 0,o B 0] 39).drew.eq (by ac_rfl);have yd:=(xz.alloc (.cells #[o B 0,o B 0,o B 0,o B 0] 39)).drew;go_region_held3 (fun w'=>w'.cell? (I b 0 C)=F (.pointer (F (I y.f 0 C)))∧w'.cell? (I b 1 C)=F (o B 0)∧w'.cell? (I X 2 C)=F (o B x.m.page)∧w'.cell? (I X 3 C)=F (o B x.m.size)∧w'.cell? (I X 4 C)=F (o B x.m.frame)∧w'.cell? (I X 5 C)=F (o B x.m.rights)) (first|(with_reducible exact HK.out _ _ _ hd)|(with_reducible exact HK.out _ _ _ zd)|(with_reducible exact HK.out _ _ _ hL)|(with_reducible exact HK.out _ _ _ (hL.alloc _))|(with_reducible exact HK.out _ _ _ gL)|(with_reducible exact HK.out _ _ _ gL.right)|(with_reducible exact HK.out _ _ _ (gL.set4 _ _ _ _).right)|go_keep) (first|(go_at_call 100;first|((with_reducible refine(HR.out _ _ hd).mono ?_);rintro e w5 ⟨rfl,h5,x5⟩;have hL:O w5 ((du y.f s)*(aa b #[.pointer (F (I y.f 0 C)),o B 0,.slice y.A y.ps.length y.c,.pointer (F (I y.sh 0 C)),J D,(.slice y.G gn.length y.d)] 114*(aa X #[o B x.kind,o B x.core,o B x.m.page,o B x.m.size,o B x.m.frame,o B x.m.rights,o B x.a.page,o B x.a.kind,J x.a.user] 43*((cr (.slice y.A y.ps.length y.c) y.ps*(ao (.slice y.G gn.length y.d) gn*(aI y.sh td wt*aU y.ps cs)))*(aa E #[o B 0,J D,o B 0,o B 0,o B 0,J D] 36*R))))):=h5.eq (by ac_rfl);have xL:=xd.trans x5)|((with_reducible refine(HR.out _ _ zd).mono ?_);rintro e w5 ⟨rfl,g5,y5⟩;have gL:O w5 (aa w1.heap.size #[o B 0,o B 0,o B 0,o B 0] 39*((du y.f s)*(aa b #[.pointer (F (I y.f 0 C)),o B 0,.slice y.A y.ps.length y.c,.pointer (F (I y.sh 0 C)),J D,(.slice y.G gn.length y.d)] 114*(aa X #[o B x.kind,o B x.core,o B x.m.page,o B x.m.size,o B x.m.frame,o B x.m.rights,o B x.a.page,o B x.a.kind,J x.a.user] 43*((cr (.slice y.A y.ps.length y.c) y.ps*(ao (.slice y.G gn.length y.d) gn*(aI y.sh td wt*aU y.ps cs)))*(aa E #[o B 0,J D,o B 0,o B 0,o B 0,J D] 36*R)))))):=g5.eq (by ac_rfl);have yL:=yd.trans y5;obtain⟨z0,z1,z2,z3⟩:=gL.cells4;obtain⟨y0,y1,y2,y3⟩:=gL.frees4;have zl:=gL.lt)))
    all_goals
     first
     |(have hw:=hL.new #[o B mp.page,o B mp.size,o B mp.frame,o B mp.rights] 39
       have x2:=xL.alloc (.cells #[o B mp.page,o B mp.size,o B mp.frame,o B mp.rights] 39);clear hL xL h5 x5;generalize w5.alloc _=wc at*
       generalize w5.heap.size=M at*)
     |(have hw:=gL.set4 (o B mp.page) (o B mp.size) (o B mp.frame) (o B mp.rights)
       have x2:=(((yL.set (I w1.heap.size 0 C) (o B mp.page)).set (I w1.heap.size 1 C) (o B mp.size)).set (I w1.heap.size 2 C) (o B mp.frame)).set (I w1.heap.size 3 C) (o B mp.rights);clear gL yL g5 y5 z0 z1 z2 z3 y0 y1 y2 y3 zl;generalize (((w5.setCell (I w1.heap.size 0 C) (o B mp.page)).setCell (I w1.heap.size 1 C) (o B mp.size)).setCell (I w1.heap.size 2 C) (o B mp.frame)).setCell (I w1.heap.size 3 C) (o B mp.rights)=wc at*
       generalize w1.heap.size=M at*)
     clear hd xd hz xz HK cl xl HR zd yd;have h6:O wc (aa E #[o B 0,J D,o B 0,o B 0,o B 0,J D] 36*(aa b #[.pointer (F (I y.f 0 C)),o B 0,.slice y.A y.ps.length y.c,.pointer (F (I y.sh 0 C)),J D,(.slice y.G gn.length y.d)] 114*((cr (.slice y.A y.ps.length y.c) y.ps*(ao (.slice y.G gn.length y.d) gn*(aI y.sh td wt*aU y.ps cs)))*(du y.f s*((aa M #[o B mp.page,o B mp.size,o B mp.frame,o B mp.rights] 39*(aa X #[o B x.kind,o B x.core,o B x.m.page,o B x.m.size,o B x.m.frame,o B x.m.rights,o B x.a.page,o B x.a.kind,J x.a.user] 43*R))))))):=hw.eq (by ac_rfl);clear hw;go_wp2_with fail
     refine(fj cd _).mono ?_;rintro e w7 ⟨rfl,b7⟩;have h7:=h6.below b7;have x7:=x2.below b7;clear h6 x2 b7;obtain⟨e0,e1,e2,e3,e4,e5⟩:=h7.cells6;obtain⟨f0,f1,f2,f3,f4,f5⟩:=h7.frees6;have el:=h7.lt;go_wp2_with fail
     refine am (fun wz=>O wz (aa E #[o B cd,J D,o B 0,o B 0,o B 0,J D] 36*(aa b #[.pointer (F (I y.f 0 C)),o B 0,.slice y.A y.ps.length y.c,.pointer (F (I y.sh 0 C)),J D,(.slice y.G gn.length y.d)] 114*((cr (.slice y.A y.ps.length y.c) y.ps*(ao (.slice y.G gn.length y.d) gn*(aI y.sh td wt*aU y.ps cs)))*(du y.f s*((aa M #[o B mp.page,o B mp.size,o B mp.frame,o B mp.rights] 39*(aa X #[o B x.kind,o B x.core,o B x.m.page,o B x.m.size,o B x.m.frame,o B x.m.rights,o B x.a.page,o B x.a.kind,J x.a.user] 43*R)))))))∧Y w wz) ⟨h7.set6 _ _ _ _ _ _,ah⟩ ?_;rintro wz ⟨hz,xz⟩;exact N (aG results58 rfl (aM hz)) rfl ⟨rfl,HS1.out _ ((aa M #[o B mp.page,o B mp.size,o B mp.frame,o B mp.rights] 39*(aa X #[o B x.kind,o B x.core,o B x.m.page,o B x.m.size,o B x.m.frame,o B x.m.rights,o B x.a.page,o B x.a.kind,J x.a.user] 43*R))) (hz.right.eq (by ac_rfl)) |>.eq (show _=(aa M #[o B mp.page,o B mp.size,o B mp.frame,o B mp.rights] 39*(aa X #[o B x.kind,o B x.core,o B x.m.page,o B x.m.size,o B x.m.frame,o B x.m.rights,o B x.a.page,o B x.a.kind,J x.a.user] 43*(ak b ⟨s,cs,td,wt,D,gn⟩*R))) by ac_rfl) |>.right.right,xz⟩
set_option maxHeartbeats 4000000 in
theorem AB(b:Nat)(σ:Sc)(k:Nat)(hok:σ.Ok)(hk:k<σ.cs.length)(R:ab)(w:T)(h:O w (ak b σ*R)):
  W prog 63 #[.pointer (F (I b 0 C)),o B k] w (cR (σ.ack k).2.val (ak b (σ.ack k).1*R) w):=by
 have hc:=bf hok k;have hat:=Safe.at_core hk;obtain⟨s,cs,td,wt,bz,gn⟩:=σ;obtain⟨y,hy,h⟩:=cL h;unfold bI at h;have hk4:k<4:=by have:=hok.few;omega
 have hwy:iL wt k=wt k:=nP hk4;have HTD:=K hok.told.1;have h0:=h.new #[o B 0,J D,o B 0,o B 0,o B 0,J D] 36;have x0:=(Ext.refl w).alloc (.cells #[o B 0,J D,o B 0,o B 0,o B 0,J D] 36);dsimp only at*
 cases hw:wt k with
 |false=>
  have e:a6 ⟨s,cs,td,wt,bz,gn⟩ k=(⟨s,cs,td,wt,bz,gn⟩,.no 9):=by unfold a6;rw[if_pos hw]
  rw[e];rw[hw] at hwy;have HS:=K (fun(w':T) (R':ab) (h:O w' (bI b ⟨s,cs,td,wt,bz,gn⟩ y R'))=>dJ (σ:=⟨s,cs,td,wt,bz,gn⟩) hy h);unfold bI at HS;have HN:=K (fun R w h=>yo y.sh td wt k R w h hwy);clear e hw hwy hok hat hc h;have h1:O _ (aI y.sh td wt*(aa b #[.pointer (F (I y.f 0 C)),o B 0,.slice y.A y.ps.length y.c,.pointer (F (I y.sh 0 C)),J bz,(.slice y.G gn.length y.d)] 114*(aa w.heap.size #[o B 0,J D,o B 0,o B 0,o B 0,J D] 36*(cr (.slice y.A y.ps.length y.c) y.ps*(ao (.slice y.G gn.length y.d) gn*(aU y.ps cs*(du y.f s*R))))))):=h0.eq (by ac_rfl);clear h0;obtain⟨c0,c1,c2,c3,c4,c5⟩:=h1.right.cells6;have cl:=h1.right.lt;go_enter func63,ntmps63;go_wp2_with fail
  refine(HN.out _ _ h1).mono ?_;rintro e w2 ⟨rfl,h2,x2⟩;have h3:O _ (aa w.heap.size #[o B 0,J D,o B 0,o B 0,o B 0,J D] 36*(aa b #[.pointer (F (I y.f 0 C)),o B 0,.slice y.A y.ps.length y.c,.pointer (F (I y.sh 0 C)),J bz,(.slice y.G gn.length y.d)] 114*(cr (.slice y.A y.ps.length y.c) y.ps*(ao (.slice y.G gn.length y.d) gn*(aI y.sh td wt*(aU y.ps cs*(du y.f s*(aa w2.heap.size #[o B 0,o B 0,o B 0,o B 0] 39*R)))))))):=(h2.new #[o B 0,o B 0,o B 0,o B 0] 39).eq (by ac_rfl);have x3:=(x0.trans x2).alloc (.cells #[o B 0,o B 0,o B 0,o B 0] 39);clear h1 h2 x0 x2 c0 c1 c2 c3 c4 c5 cl;go_upto_region 3 with fail;generalize w2.alloc _=w3 at*
  generalize w2.heap.size=M at*
  go_wp2_with fail
  refine(fj 9 _).mono ?_;rintro e w7 ⟨rfl,b7⟩;have h7:=h3.below b7;have x7:=x3.below b7;clear h3 x3 b7;obtain⟨e0,e1,e2,e3,e4,e5⟩:=h7.cells6;obtain⟨f0,f1,f2,f3,f4,f5⟩:=h7.frees6;have el:=h7.lt;go_wp2_with fail
  refine am (fun wz=>O wz (aa w.heap.size #[o B 9,J D,o B 0,o B 0,o B 0,J D] 36*(aa b #[.pointer (F (I y.f 0 C)),o B 0,.slice y.A y.ps.length y.c,.pointer (F (I y.sh 0 C)),J bz,(.slice y.G gn.length y.d)] 114*(cr (.slice y.A y.ps.length y.c) y.ps*(ao (.slice y.G gn.length y.d) gn*(aI y.sh td wt*(aU y.ps cs*(du y.f s*(aa M #[o B 0,o B 0,o B 0,o B 0] 39*R))))))))∧Y w wz) ⟨h7.set6 _ _ _ _ _ _,ah⟩ ?_;rintro wz ⟨hz,xz⟩;exact N (aG results63 rfl (aM hz)) rfl ⟨rfl,(HS.out _ (aa M #[o B 0,o B 0,o B 0,o B 0] 39*R) hz.right).p2.right,xz⟩
 |true=>
  have hkp:k<y.ps.length:=by omega
  obtain⟨Q,eQ,eS⟩:=kX (S hkp) hat;have e:a6 ⟨s,cs,td,wt,bz,gn⟩ k=if eG (cI wt k)=V then(⟨bv s gn,cs.set k ⟨Tl.drop (a3 ⟨s,cs,td,wt,bz,gn⟩ k).l td,(a3 ⟨s,cs,td,wt,bz,gn⟩ k).k.again 0⟩,td,cI wt k,D,[]⟩,⟨0,D,An.zero,V⟩)
    else(⟨s,cs.set k ⟨Tl.drop (a3 ⟨s,cs,td,wt,bz,gn⟩ k).l td,(a3 ⟨s,cs,td,wt,bz,gn⟩ k).k.again 0⟩,td,cI wt k,bz,gn⟩,.no 0):=by
   unfold a6;rw[if_neg (show¬wt k=D by rw[hw];simp)];rfl
  rw[e];clear e;generalize a3 ⟨s,cs,td,wt,bz,gn⟩ k=cc at*
  rw[hw] at hwy;have HY:=K (fun R w h=>ww y.sh td wt k R w h hwy);have HTO:=K (fun R w h'=>zI (y.ps[k]'hkp) cc.l 0 cc.k td hc.1 HTD.out R w h');obtain⟨bA,hA,lA,cA⟩:=jq h.right (S hkp);have hpk:=S hkp;rw[eQ] at h0;have hlen:y.ps.length=(cs.set k ⟨Tl.drop cc.l td,cc.k.again 0⟩).length :=by rw[List.length_set];exact hy
  have eS1:=eS ⟨Tl.drop cc.l td,cc.k.again 0⟩;generalize cs.set k ⟨Tl.drop cc.l td,cc.k.again 0⟩=cs' at*
  have hkl:(k:Int)<y.ps.length:=by omega
  generalize y.ps[k]=p at*
  obtain⟨yf,ysh,yA,yc,yps,yG,yd⟩:=y;dsimp only at*
  subst hA;have h1:O _ (aI ysh td wt*(aa b #[.pointer (F (I yf 0 C)),o B 0,.slice (F (I bA 0 C)) yps.length yc,.pointer (F (I ysh 0 C)),J bz,(.slice yG gn.length yd)] 114*(aa w.heap.size #[o B 0,J D,o B 0,o B 0,o B 0,J D] 36*(cr (.slice (F (I bA 0 C)) yps.length yc) yps*(ao (.slice yG gn.length yd) gn*(cJ p cc.l 0 cc.k*(Q*(du yf s*R)))))))):=h0.eq (by ac_rfl);have HSH:=K (fun(s':Ms) (bz':Bool) (gn':List Int) (yG':Option a4) (yd':Nat) (w':T) (R':ab) (h:O w' (bI b ⟨s',cs',td,cI wt k,bz',gn'⟩ ⟨yf,ysh,F (I bA 0 C),yc,yps,yG',yd'⟩ R'))=>dJ (σ:=⟨s',cs',td,cI wt k,bz',gn'⟩) hlen h);unfold bI at HSH;dsimp only at HSH;rw[eS1] at HSH;clear h h0 eQ eS eS1 hok hat hc hw hwy hlen hy hk hkp;have HO:=K (fun R w h=>pM ysh td (cI wt k) R w h);cases hov:eG (cI wt k) with
  |false=>
   rw[if_neg (by simp)];rw[hov] at HO;clear hov;obtain⟨c0,c1,c2,c3,c4,c5⟩:=h1.right.cells6;have cl:=h1.right.lt;go_enter func63,ntmps63;go_wp2_with fail
   refine(HY.out _ _ h1).mono ?_;rintro e w2 ⟨rfl,h2,x2⟩;rw[show((k:Int)).toNat =k from rfl] at h2;have h3:O _ (cJ p cc.l 0 cc.k*(aa b #[.pointer (F (I yf 0 C)),o B 0,.slice (F (I bA 0 C)) yps.length yc,.pointer (F (I ysh 0 C)),J bz,(.slice yG gn.length yd)] 114*(cr (.slice (F (I bA 0 C)) yps.length yc) yps*(aa w2.heap.size #[o B td.page,o B td.size,o B td.frame,o B td.rights] 39*(aa w.heap.size #[o B 0,J D,o B 0,o B 0,o B 0,J D] 36*(ao (.slice yG gn.length yd) gn*(aI ysh td (cI wt k)*(Q*(du yf s*R))))))))):=(h2.new #[o B td.page,o B td.size,o B td.frame,o B td.rights] 39).eq (by ac_rfl);have x3:=(x0.trans x2).alloc (.cells #[o B td.page,o B td.size,o B td.frame,o B td.rights] 39);clear h1 h2 x0 x2 c0 c1 c2 c3 c4 c5 cl lA cA HY;unfold Mp.val;go_upto_region 4 with fail;generalize w2.alloc _=w3 at*
   generalize w2.heap.size=M at*
   have HK:=K (fun(w':T) (P Q:ab) (h:O w' (P*(aa b #[.pointer (F (I yf 0 C)),o B 0,.slice (F (I bA 0 C)) yps.length yc,.pointer (F (I ysh 0 C)),J bz,(.slice yG gn.length yd)] 114*(cr (.slice (F (I bA 0 C)) yps.length yc) yps*(aa M #[o B td.page,o B td.size,o B td.frame,o B td.rights] 39*Q)))))=>(by
    obtain⟨b2,e2,l2,q2⟩:=jq h.right.right hpk;injection e2 with e2;injection e2 with e2
    subst e2;exact⟨h.right.cell 2,q2,h.r3.cell 0,h.r3.cell 1,h.r3.cell 2,h.r3.cell 3⟩:w'.cell? (I b 2 C)=F (.slice (F (I bA 0 C)) yps.length yc)∧w'.cell? (I bA k C)=F (.pointer (F (I p 0 C)))∧w'.cell? (I M 0 C)=F (o B td.page)∧w'.cell? (I M 1 C)=F (o B td.size)∧w'.cell? (I M 2 C)=F (o B td.frame)∧w'.cell? (I M 3 C)=F (o B td.rights)))
   have cl:=h3.right.lt;have ml:=h3.r3.lt;have hbl:bA<w3.heap.size:=by
    obtain⟨b2,e2,l2,q2⟩:=jq h3.right.right hpk;injection e2 with e2;injection e2 with e2
    subst e2;exact l2
   have hd:=h3.drew;have xd:=x3.drew;go_region_held3 (fun w'=>w'.cell? (I b 2 C)=F (.slice (F (I bA 0 C)) yps.length yc)∧w'.cell? (I bA k C)=F (.pointer (F (I p 0 C)))∧w'.cell? (I M 0 C)=F (o B td.page)∧w'.cell? (I M 1 C)=F (o B td.size)∧w'.cell? (I M 2 C)=F (o B td.frame)∧w'.cell? (I M 3 C)=F (o B td.rights)) (first|(with_reducible exact HK.out _ _ _ hd)|(with_reducible exact HK.out _ _ _ h5)|go_keep) (first|(go_at_call 109;(with_reducible refine(HTO.out _ _ hd).mono ?_);rintro e w5 ⟨rfl,h5,x5⟩))
   all_goals
    have h6:O w5 (aI ysh td (cI wt k)*(aa b #[.pointer (F (I yf 0 C)),o B 0,.slice (F (I bA 0 C)) yps.length yc,.pointer (F (I ysh 0 C)),J bz,(.slice yG gn.length yd)] 114*(aa w.heap.size #[o B 0,J D,o B 0,o B 0,o B 0,J D] 36*(cr (.slice (F (I bA 0 C)) yps.length yc) yps*(ao (.slice yG gn.length yd) gn*(cJ p (Tl.drop cc.l td) 0 (cc.k.again 0)*(Q*(du yf s*(aa M #[o B td.page,o B td.size,o B td.frame,o B td.rights] 39*R))))))))):=h5.eq (by ac_rfl);have x6:=xd.trans x5;clear hd xd h5 x5 h3 x3 HK HTO cl ml hbl;generalize Tl.drop cc.l td=l' at*
    generalize cc.k.again 0=k' at*
    obtain⟨c0,c1,c2,c3,c4,c5⟩:=h6.right.cells6;have cl:=h6.right.lt
   go_wp2_with fail
   refine(HO.out _ _ h6).mono ?_;rintro e w7 ⟨rfl,hwz⟩;subst hwz;have h7:O w5 (aa w.heap.size #[o B 0,J D,o B 0,o B 0,o B 0,J D] 36*(aa b #[.pointer (F (I yf 0 C)),o B 0,.slice (F (I bA 0 C)) yps.length yc,.pointer (F (I ysh 0 C)),J bz,(.slice yG gn.length yd)] 114*(cr (.slice (F (I bA 0 C)) yps.length yc) yps*(ao (.slice yG gn.length yd) gn*(aI ysh td (cI wt k)*((cJ p l' 0 k'*Q)*(du yf s*(aa M #[o B td.page,o B td.size,o B td.frame,o B td.rights] 39*R)))))))):=h6.eq (by ac_rfl);obtain⟨e0,e1,e2,e3,e4,e5⟩:=h7.cells6;obtain⟨f0,f1,f2,f3,f4,f5⟩:=h7.frees6;have el:=h7.lt;go_wp2_with fail
   refine am (fun wz=>O wz (aa w.heap.size #[o B 0,J D,o B 0,o B 0,o B 0,J D] 36*(aa b #[.pointer (F (I yf 0 C)),o B 0,.slice (F (I bA 0 C)) yps.length yc,.pointer (F (I ysh 0 C)),J bz,(.slice yG gn.length yd)] 114*(cr (.slice (F (I bA 0 C)) yps.length yc) yps*(ao (.slice yG gn.length yd) gn*(aI ysh td (cI wt k)*((cJ p l' 0 k'*Q)*(du yf s*(aa M #[o B td.page,o B td.size,o B td.frame,o B td.rights] 39*R))))))))∧Y w wz) ⟨by first|(with_reducible exact h7)|(with_reducible exact h7.set6 _ _ _ _ _ _),ah⟩ ?_;rintro wz ⟨hz,xz⟩;exact N (aG results63 rfl (aM hz)) rfl ⟨rfl,(HSH.out s bz gn yG yd _ (aa M #[o B td.page,o B td.size,o B td.frame,o B td.rights] 39*R) hz.right).p2.right,xz⟩
  |true=>
   rw[if_pos rfl];rw[hov] at HO;clear hov;obtain⟨c0,c1,c2,c3,c4,c5⟩:=h1.right.cells6;have cl:=h1.right.lt;go_enter func63,ntmps63;go_wp2_with fail
   refine(HY.out _ _ h1).mono ?_;rintro e w2 ⟨rfl,h2,x2⟩;rw[show((k:Int)).toNat =k from rfl] at h2;have h3:O _ (cJ p cc.l 0 cc.k*(aa b #[.pointer (F (I yf 0 C)),o B 0,.slice (F (I bA 0 C)) yps.length yc,.pointer (F (I ysh 0 C)),J bz,(.slice yG gn.length yd)] 114*(cr (.slice (F (I bA 0 C)) yps.length yc) yps*(aa w2.heap.size #[o B td.page,o B td.size,o B td.frame,o B td.rights] 39*(aa w.heap.size #[o B 0,J D,o B 0,o B 0,o B 0,J D] 36*(ao (.slice yG gn.length yd) gn*(aI ysh td (cI wt k)*(Q*(du yf s*R))))))))):=(h2.new #[o B td.page,o B td.size,o B td.frame,o B td.rights] 39).eq (by ac_rfl);have x3:=(x0.trans x2).alloc (.cells #[o B td.page,o B td.size,o B td.frame,o B td.rights] 39);clear h1 h2 x0 x2 c0 c1 c2 c3 c4 c5 cl lA cA HY;unfold Mp.val;go_upto_region 4 with fail;generalize w2.alloc _=w3 at*
   generalize w2.heap.size=M at*
   have HK:=K (fun(w':T) (P Q:ab) (h:O w' (P*(aa b #[.pointer (F (I yf 0 C)),o B 0,.slice (F (I bA 0 C)) yps.length yc,.pointer (F (I ysh 0 C)),J bz,(.slice yG gn.length yd)] 114*(cr (.slice (F (I bA 0 C)) yps.length yc) yps*(aa M #[o B td.page,o B td.size,o B td.frame,o B td.rights] 39*Q)))))=>(by
    obtain⟨b2,e2,l2,q2⟩:=jq h.right.right hpk;injection e2 with e2;injection e2 with e2
    subst e2;exact⟨h.right.cell 2,q2,h.r3.cell 0,h.r3.cell 1,h.r3.cell 2,h.r3.cell 3⟩:w'.cell? (I b 2 C)=F (.slice (F (I bA 0 C)) yps.length yc)∧w'.cell? (I bA k C)=F (.pointer (F (I p 0 C)))∧w'.cell? (I M 0 C)=F (o B td.page)∧w'.cell? (I M 1 C)=F (o B td.size)∧w'.cell? (I M 2 C)=F (o B td.frame)∧w'.cell? (I M 3 C)=F (o B td.rights)))
   have cl:=h3.right.lt;have ml:=h3.r3.lt;have hbl:bA<w3.heap.size:=by
    obtain⟨b2,e2,l2,q2⟩:=jq h3.right.right hpk;injection e2 with e2;injection e2 with e2
    subst e2;exact l2
   have hd:=h3.drew;have xd:=x3.drew;go_region_held3 (fun w'=>w'.cell? (I b 2 C)=F (.slice (F (I bA 0 C)) yps.length yc)∧w'.cell? (I bA k C)=F (.pointer (F (I p 0 C)))∧w'.cell? (I M 0 C)=F (o B td.page)∧w'.cell? (I M 1 C)=F (o B td.size)∧w'.cell? (I M 2 C)=F (o B td.frame)∧w'.cell? (I M 3 C)=F (o B td.rights)) (first|(with_reducible exact HK.out _ _ _ hd)|(with_reducible exact HK.out _ _ _ h5)|go_keep) (first|(go_at_call 109;(with_reducible refine(HTO.out _ _ hd).mono ?_);rintro e w5 ⟨rfl,h5,x5⟩))
   all_goals
    have h6:O w5 (aI ysh td (cI wt k)*(aa b #[.pointer (F (I yf 0 C)),o B 0,.slice (F (I bA 0 C)) yps.length yc,.pointer (F (I ysh 0 C)),J bz,(.slice yG gn.length yd)] 114*(aa w.heap.size #[o B 0,J D,o B 0,o B 0,o B 0,J D] 36*(cr (.slice (F (I bA 0 C)) yps.length yc) yps*(ao (.slice yG gn.length yd) gn*(cJ p (Tl.drop cc.l td) 0 (cc.k.again 0)*(Q*(du yf s*(aa M #[o B td.page,o B td.size,o B td.frame,o B td.rights] 39*R))))))))):=h5.eq (by ac_rfl);have x6:=xd.trans x5;clear hd xd h5 x5 h3 x3 HK HTO cl ml hbl;generalize Tl.drop cc.l td=l' at*
    generalize cc.k.again 0=k' at*
    obtain⟨c0,c1,c2,c3,c4,c5⟩:=h6.right.cells6;have cl:=h6.right.lt;go_wp2_with fail
    refine(HO.out _ _ h6).mono ?_;rintro e w7 ⟨rfl,hwz⟩;subst hwz;have h7:O w5 (du yf (bv s (gn.take 0))*(ao (.slice yG gn.length yd) gn*(aa b #[.pointer (F (I yf 0 C)),o B 0,.slice (F (I bA 0 C)) yps.length yc,.pointer (F (I ysh 0 C)),J bz,(.slice yG gn.length yd)] 114*(aa w.heap.size #[o B 0,J D,o B 0,o B 0,o B 0,J D] 36*(cr (.slice (F (I bA 0 C)) yps.length yc) yps*(aI ysh td (cI wt k)*((cJ p l' 0 k'*Q)*(aa M #[o B td.page,o B td.size,o B td.frame,o B td.rights] 39*R)))))))):=h6.eq (by(rw[show bv s (gn.take 0)=s from rfl];ac_rfl));have hgs:=kK h7.right;clear h6 c0 c1 c2 c3 c4 c5 cl HO;obtain⟨c0,c1,c2,c3,c4,c5⟩:=h7.right.right.cells6;have cl:=h7.right.right.lt;go_wp2_with fail
    go_loopw [42] (fun t wz=>∃(j:Nat),j≤gn.length∧t=o B j∧O wz (du yf (bv s (gn.take j))*(ao (.slice yG gn.length yd) gn*(aa b #[.pointer (F (I yf 0 C)),o B 0,.slice (F (I bA 0 C)) yps.length yc,.pointer (F (I ysh 0 C)),J bz,(.slice yG gn.length yd)] 114*(aa w.heap.size #[o B 0,J D,o B 0,o B 0,o B 0,J D] 36*(cr (.slice (F (I bA 0 C)) yps.length yc) yps*(aI ysh td (cI wt k)*((cJ p l' 0 k'*Q)*(aa M #[o B td.page,o B td.size,o B td.frame,o B td.rights] 39*R))))))))∧Y w wz) (fun t _=>gn.length - (intOf t).toNat)
    case atStart=>exact⟨0,by omega,rfl,h7,x6⟩
    case round=>
     clear h7 x6 c0 c1 c2 c3 c4 c5 cl;obtain⟨j,hj,rfl,hz,hxz⟩:=hrel;obtain⟨c0,c1,c2,c3,c4,c5⟩:=hz.right.right.cells6;have cl:=hz.right.right.lt;by_cases hjl:j<gn.length
     ·obtain⟨bG,hG,lG,cG⟩:=da hz.right hjl
      subst hG;have et:gn.take (j+1)=gn.take j++[gn[j]]:=List.take_succ_eq_append_getElem hjl;have GF:=K (fun R w h=>zy yf (bv s (gn.take j)) R w h gn[j]);rw[←kH,←et] at GF;generalize gn[j]=v at*
      generalize (bv s (gn.take j)).has v=bb at*
      clear et;go_wp2_with fail
      refine(GF.out _ _ hz).mono ?_;rintro e w8 ⟨rfl,h8,x8⟩;go_wp2_with fail
      go_roundw
      case rel=>exact⟨j+1,by omega,by go_num,h8,hxz.trans x8⟩
      case measure=>simp[intOf];omega
     ·obtain rfl:j=gn.length:=by omega
      rw[List.take_length] at hz;have h8:O wr (aa b #[.pointer (F (I yf 0 C)),o B 0,.slice (F (I bA 0 C)) yps.length yc,.pointer (F (I ysh 0 C)),J bz,(.slice yG gn.length yd)] 114*(aa w.heap.size #[o B 0,J D,o B 0,o B 0,o B 0,J D] 36*(cr (.slice (F (I bA 0 C)) yps.length yc) yps*(aI ysh td (cI wt k)*((cJ p l' 0 k'*Q)*(du yf (bv s gn)*(aa M #[o B td.page,o B td.size,o B td.frame,o B td.rights] 39*(ao (.slice yG gn.length yd) gn*R)))))))):=hz.eq (by ac_rfl);clear hz c0 c1 c2 c3 c4 c5;obtain⟨c0,c1,c2,c3,c4,c5⟩:=h8.cells6;obtain⟨f0,f1,f2,f3,f4,f5⟩:=h8.frees6;have h9:O _ (aa b #[.pointer (F (I yf 0 C)),o B 0,.slice (F (I bA 0 C)) yps.length yc,.pointer (F (I ysh 0 C)),J D,(.slice C 0 0)] 114*(aa w.heap.size #[o B 0,J D,o B 0,o B 0,o B 0,J D] 36*(cr (.slice (F (I bA 0 C)) yps.length yc) yps*(aI ysh td (cI wt k)*((cJ p l' 0 k'*Q)*(du yf (bv s gn)*(aa M #[o B td.page,o B td.size,o B td.frame,o B td.rights] 39*(ao (.slice yG gn.length yd) gn*R)))))))):=(h8.set 4 (J D)).set 5 (.slice C 0 0);have x9:=(hxz.set (I b 4 C) (J D)).set (I b 5 C) (.slice C 0 0);go_upto_region 13 with fail;generalize (wr.setCell (I b 4 C) (J D)).setCell (I b 5 C) (.slice C 0 0)=w9 at*
      have h10:O w9 (aa w.heap.size #[o B 0,J D,o B 0,o B 0,o B 0,J D] 36*(aa b #[.pointer (F (I yf 0 C)),o B 0,.slice (F (I bA 0 C)) yps.length yc,.pointer (F (I ysh 0 C)),J D,(.slice C 0 0)] 114*(cr (.slice (F (I bA 0 C)) yps.length yc) yps*(aI ysh td (cI wt k)*((cJ p l' 0 k'*Q)*(du yf (bv s gn)*(aa M #[o B td.page,o B td.size,o B td.frame,o B td.rights] 39*(ao (.slice yG gn.length yd) gn*R)))))))):=h9.p2;clear h8 h9 hxz c0 c1 c2 c3 c4 c5 f0 f1 f2 f3 f4 f5 cl;obtain⟨e0,e1,e2,e3,e4,e5⟩:=h10.cells6;obtain⟨f0,f1,f2,f3,f4,f5⟩:=h10.frees6;have el:=h10.lt;have HNL:=K (fun(w':T) (h:O w' (aa b #[.pointer (F (I yf 0 C)),o B 0,.slice (F (I bA 0 C)) yps.length yc,.pointer (F (I ysh 0 C)),J D,(.slice C 0 0)] 114*(cr (.slice (F (I bA 0 C)) yps.length yc) yps*(aI ysh td (cI wt k)*((cJ p l' 0 k'*Q)*(du yf (bv s gn)*(aa M #[o B td.page,o B td.size,o B td.frame,o B td.rights] 39*(ao (.slice yG gn.length yd) gn*R))))))))=>HSH.out (bv s gn) D [] C 0 w' (aa M #[o B td.page,o B td.size,o B td.frame,o B td.rights] 39*(ao (.slice yG gn.length yd) gn*R)) ((Has.rowNil (e:=3) (size:=1) h).eq (show _=aa b #[.pointer (F (I yf 0 C)),o B 0,.slice (F (I bA 0 C)) yps.length yc,.pointer (F (I ysh 0 C)),J D,(.slice C 0 0)] 114*(cr (.slice (F (I bA 0 C)) yps.length yc) yps*(ao (.slice C 0 0) []*(aI ysh td (cI wt k)*(cJ p l' 0 k'*Q*(du yf (bv s gn)*(aa M #[o B td.page,o B td.size,o B td.frame,o B td.rights] 39*(ao (.slice yG gn.length yd) gn*R))))))) by(show ct 3 1 (.slice C 0 0) 0 []*_=_;unfold ao;simp only[List.map_nil,List.length_nil];ac_rfl))));go_wp2_with fail
      refine am (fun wz=>O wz (aa w.heap.size #[o B 0,J D,o B 0,o B 0,o B 0,J V] 36*(aa b #[.pointer (F (I yf 0 C)),o B 0,.slice (F (I bA 0 C)) yps.length yc,.pointer (F (I ysh 0 C)),J D,(.slice C 0 0)] 114*(cr (.slice (F (I bA 0 C)) yps.length yc) yps*(aI ysh td (cI wt k)*((cJ p l' 0 k'*Q)*(du yf (bv s gn)*(aa M #[o B td.page,o B td.size,o B td.frame,o B td.rights] 39*(ao (.slice yG gn.length yd) gn*R))))))))∧Y w wz) ⟨h10.set6 _ _ _ _ _ _,ah⟩ ?_;rintro wz ⟨hz,xz⟩;exact N (aG results63 rfl (aM hz)) rfl ⟨rfl,((HNL.out _ hz.right).eq (show _=aa M #[o B td.page,o B td.size,o B td.frame,o B td.rights] 39*(ao (.slice yG gn.length yd) gn*(ak b ⟨bv s gn,cs',td,cI wt k,D,[]⟩*R)) by ac_rfl)).right.right,xz⟩
theorem uK{cs:List Cr}{k:Nat}{c:Cr}(h:cs[k]? =F c):cs.set k c=cs:=by
 refine List.ext_getElem? fun i=> ?_;rw[List.getElem?_set];split
 ·rename_i hki
  subst hki;split
  ·exact h.symm
  ·rename_i hn
   exact absurd (List.getElem?_eq_some_iff.1 h).1 hn
 ·rfl
set_option maxHeartbeats 4000000 in
theorem AU(b:Nat)(σ:Sc)(x:Stp)(hok:σ.Ok)(hq:σ.busy=D→eG σ.wait=V)(hx:x.ok)(R:ab)(w:T)(h:O w (ak b σ*R)):
  W prog 16 #[.pointer (F (I b 0 C)),.agg #[o B x.kind,o B x.core,o B x.m.page,o B x.m.size,o B x.m.frame,o B x.m.rights,o B x.a.page,o B x.a.kind,J x.a.user]] w (cR (σ.act x).2.val (ak b (σ.act x).1*R) w):=by
 have h0:O _ (ak b σ*(aa w.heap.size #[o B x.kind,o B x.core,o B x.m.page,o B x.m.size,o B x.m.frame,o B x.m.rights,o B x.a.page,o B x.a.kind,J x.a.user] 43*(aa (w.heap.size+1) #[o B 0,J D,o B 0,o B 0,o B 0,J D] 36*R))):=((h.new #[o B x.kind,o B x.core,o B x.m.page,o B x.m.size,o B x.m.frame,o B x.m.rights,o B x.a.page,o B x.a.kind,J x.a.user] 43).new #[o B 0,J D,o B 0,o B 0,o B 0,J D] 36).eq (by simp only[ad];ac_rfl);have x0:=((Ext.refl w).alloc (.cells #[o B x.kind,o B x.core,o B x.m.page,o B x.m.size,o B x.m.frame,o B x.m.rights,o B x.a.page,o B x.a.kind,J x.a.user] 43)).alloc (.cells #[o B 0,J D,o B 0,o B 0,o B 0,J D] 36);clear h;have c0:=h0.right.cell 0;have xl:=h0.right.lt;by_cases hc:1≤x.kind∧x.kind≤3
 ·have e:σ.act x=σ.change x:=by unfold a7;rw[if_pos hc]
  rw[e];have HC:=K (fun R w h=>wG b σ x hok hq R w h);unfold Ev.val at HC⊢;clear hok hq e;obtain⟨k1,k3⟩:=hc;obtain⟨-,c1,c2,c3,c4,c5,c6,c7,c8⟩:=(h0.right).cells9;generalize σ.change x=p at*
  obtain⟨σ',⟨ec,ef,⟨ea,eb,er⟩,ek⟩⟩:=p;dsimp only at*
  go_enter func16,ntmps16;go_wp2_with fail
  refine(HC.out _ _ h0).mono ?_;rintro e w2 ⟨rfl,h2,x2⟩;have h3:O w2 (aa (w.heap.size+1) #[o B 0,J D,o B 0,o B 0,o B 0,J D] 36*(ak b σ'*(aa w.heap.size #[o B x.kind,o B x.core,o B x.m.page,o B x.m.size,o B x.m.frame,o B x.m.rights,o B x.a.page,o B x.a.kind,J x.a.user] 43*R))):=h2.eq (by ac_rfl);have x3:=x0.trans x2;clear h0 x0 h2 x2 c0 c1 c2 c3 c4 c5 c6 c7 c8 xl HC;obtain⟨e0,e1,e2,e3,e4,e5⟩:=h3.cells6;obtain⟨f0,f1,f2,f3,f4,f5⟩:=h3.frees6;have el:=h3.lt;go_wp2_with fail
  refine am (fun wz=>O wz (aa (w.heap.size+1) #[o B ec,J ef,o B ea,o B eb,o B er,J ek] 36*(ak b σ'*(aa w.heap.size #[o B x.kind,o B x.core,o B x.m.page,o B x.m.size,o B x.m.frame,o B x.m.rights,o B x.a.page,o B x.a.kind,J x.a.user] 43*R)))∧Y w wz) ⟨h3.set6 _ _ _ _ _ _,ah⟩ ?_;rintro wz ⟨hz,xz⟩;exact N (aG results16 rfl (aM hz)) rfl ⟨rfl,hz.right.p2.right,xz⟩
 by_cases hc2:x.kind<1∨7<x.kind
 ·have e:σ.act x=(σ,.no 2):=by unfold a7;rw[if_neg hc,if_pos hc2]
  rw[e];clear hok hq e;have h3:O _ (aa (w.heap.size+1) #[o B 0,J D,o B 0,o B 0,o B 0,J D] 36*(ak b σ*(aa w.heap.size #[o B x.kind,o B x.core,o B x.m.page,o B x.m.size,o B x.m.frame,o B x.m.rights,o B x.a.page,o B x.a.kind,J x.a.user] 43*R))):=h0.eq (by ac_rfl);rcases hc2 with k1|k7
  ·clear hc h0
   go_enter func16,ntmps16;go_upto_region 4 with fail;generalize (w.alloc (.cells #[o B x.kind,o B x.core,o B x.m.page,o B x.m.size,o B x.m.frame,o B x.m.rights,o B x.a.page,o B x.a.kind,J x.a.user] 43)).alloc (.cells #[o B 0,J D,o B 0,o B 0,o B 0,J D] 36)=w1 at*
   generalize w.heap.size+1=E at*
   go_wp2_with fail
   refine(fj 2 _).mono ?_;rintro e w7 ⟨rfl,b7⟩;have h7:=h3.below b7;have x7:=x0.below b7;clear h3 x0 b7;obtain⟨e0,e1,e2,e3,e4,e5⟩:=h7.cells6;obtain⟨f0,f1,f2,f3,f4,f5⟩:=h7.frees6;have el:=h7.lt;go_wp2_with fail
   refine am (fun wz=>O wz (aa E #[o B 2,J D,o B 0,o B 0,o B 0,J D] 36*(ak b σ*(aa w.heap.size #[o B x.kind,o B x.core,o B x.m.page,o B x.m.size,o B x.m.frame,o B x.m.rights,o B x.a.page,o B x.a.kind,J x.a.user] 43*R)))∧Y w wz) ⟨h7.set6 _ _ _ _ _ _,ah⟩ ?_;rintro wz ⟨hz,xz⟩;exact N (aG results16 rfl (aM hz)) rfl ⟨rfl,hz.right.p2.right,xz⟩
  ·have k3:¬x.kind≤3:=by omega
   have k1:¬x.kind<1:=by omega
   clear hc h0;go_enter func16,ntmps16;go_upto_region 4 with fail;generalize (w.alloc (.cells #[o B x.kind,o B x.core,o B x.m.page,o B x.m.size,o B x.m.frame,o B x.m.rights,o B x.a.page,o B x.a.kind,J x.a.user] 43)).alloc (.cells #[o B 0,J D,o B 0,o B 0,o B 0,J D] 36)=w1 at*
   generalize w.heap.size+1=E at*
   go_wp2_with fail
   refine(fj 2 _).mono ?_;rintro e w7 ⟨rfl,b7⟩;have h7:=h3.below b7;have x7:=x0.below b7;clear h3 x0 b7;obtain⟨e0,e1,e2,e3,e4,e5⟩:=h7.cells6;obtain⟨f0,f1,f2,f3,f4,f5⟩:=h7.frees6;have el:=h7.lt;go_wp2_with fail
   refine am (fun wz=>O wz (aa E #[o B 2,J D,o B 0,o B 0,o B 0,J D] 36*(ak b σ*(aa w.heap.size #[o B x.kind,o B x.core,o B x.m.page,o B x.m.size,o B x.m.frame,o B x.m.rights,o B x.a.page,o B x.a.kind,J x.a.user] 43*R)))∧Y w wz) ⟨h7.set6 _ _ _ _ _ _,ah⟩ ?_;rintro wz ⟨hz,xz⟩;exact N (aG results16 rfl (aM hz)) rfl ⟨rfl,hz.right.p2.right,xz⟩
 have k3:¬x.kind≤3:=by omega
 have k1:¬x.kind<1:=by omega
 have k7:¬7<x.kind:=by omega
 have hx1:=h0.right.cell 1;by_cases hc3:x.core<0∨(σ.cs.length:Int)≤x.core
 ·have e:σ.act x=(σ,.no 1):=by unfold a7;rw[if_neg hc,if_neg hc2,if_pos hc3]
  rw[e];have h3:O _ (aa (w.heap.size+1) #[o B 0,J D,o B 0,o B 0,o B 0,J D] 36*(ak b σ*(aa w.heap.size #[o B x.kind,o B x.core,o B x.m.page,o B x.m.size,o B x.m.frame,o B x.m.rights,o B x.a.page,o B x.a.kind,J x.a.user] 43*R))):=h0.eq (by ac_rfl);obtain⟨y,hy,h4⟩:=cL h0;unfold bI at h4;obtain⟨b0,b1,b2,b3,b4,b5⟩:=h4.cells6;have bl:=h4.lt;rw[←hy] at hc3;clear hok hq e hc hc2 h0 h4 hy;rcases hc3 with n0|n1
  ·go_enter func16,ntmps16
   go_upto_region 5 with fail;go_region
   all_goals
    go_upto_region 6 with fail;generalize (w.alloc (.cells #[o B x.kind,o B x.core,o B x.m.page,o B x.m.size,o B x.m.frame,o B x.m.rights,o B x.a.page,o B x.a.kind,J x.a.user] 43)).alloc (.cells #[o B 0,J D,o B 0,o B 0,o B 0,J D] 36)=w1 at*
    generalize w.heap.size+1=E at*
    have g3:=h3.drew;have y0:=x0.drew;go_wp2_with fail
    refine(fj 1 _).mono ?_;rintro e w7 ⟨rfl,b7⟩;have h7:=g3.below b7;have x7:=y0.below b7;clear g3 y0 b7;obtain⟨e0,e1,e2,e3,e4,e5⟩:=h7.cells6;obtain⟨f0,f1,f2,f3,f4,f5⟩:=h7.frees6;have el:=h7.lt;go_wp2_with fail
    refine am (fun wz=>O wz (aa E #[o B 1,J D,o B 0,o B 0,o B 0,J D] 36*(ak b σ*(aa w.heap.size #[o B x.kind,o B x.core,o B x.m.page,o B x.m.size,o B x.m.frame,o B x.m.rights,o B x.a.page,o B x.a.kind,J x.a.user] 43*R)))∧Y w wz) ⟨h7.set6 _ _ _ _ _ _,ah⟩ ?_;rintro wz ⟨hz,xz⟩;exact N (aG results16 rfl (aM hz)) rfl ⟨rfl,hz.right.p2.right,xz⟩
  ·have n0:¬x.core<0:=by omega
   go_enter func16,ntmps16;go_upto_region 5 with fail;go_region
   all_goals
    go_upto_region 6 with fail;generalize (w.alloc (.cells #[o B x.kind,o B x.core,o B x.m.page,o B x.m.size,o B x.m.frame,o B x.m.rights,o B x.a.page,o B x.a.kind,J x.a.user] 43)).alloc (.cells #[o B 0,J D,o B 0,o B 0,o B 0,J D] 36)=w1 at*
    generalize w.heap.size+1=E at*
    have g3:=h3.drew;have y0:=x0.drew;go_wp2_with fail
    refine(fj 1 _).mono ?_;rintro e w7 ⟨rfl,b7⟩;have h7:=g3.below b7;have x7:=y0.below b7;clear g3 y0 b7;obtain⟨e0,e1,e2,e3,e4,e5⟩:=h7.cells6;obtain⟨f0,f1,f2,f3,f4,f5⟩:=h7.frees6;have el:=h7.lt;go_wp2_with fail
    refine am (fun wz=>O wz (aa E #[o B 1,J D,o B 0,o B 0,o B 0,J D] 36*(ak b σ*(aa w.heap.size #[o B x.kind,o B x.core,o B x.m.page,o B x.m.size,o B x.m.frame,o B x.m.rights,o B x.a.page,o B x.a.kind,J x.a.user] 43*R)))∧Y w wz) ⟨h7.set6 _ _ _ _ _ _,ah⟩ ?_;rintro wz ⟨hz,xz⟩;exact N (aG results16 rfl (aM hz)) rfl ⟨rfl,hz.right.p2.right,xz⟩
 obtain⟨k,hk⟩:=Int.eq_ofNat_of_zero_le (show 0≤x.core by omega);have hkl:k<σ.cs.length:=by omega
 have ea:σ.act x=if x.kind=4 then σ.access k x.a else if x.kind=5 then σ.walk k else if x.kind=6 then σ.ack k else σ.evict k:=by
  unfold a7;rw[if_neg hc,if_neg hc2,if_neg hc3,hk];rfl
 have hcr:=bf hok k;have hat:=Safe.at_core hkl;obtain⟨hop,_,hMo,hAc⟩:=hx;obtain⟨kx,cx,mx,ax⟩:=x;dsimp only at*
 subst hk;have HACK:=K (fun R w h=>AB b σ k hok hkl R w h);unfold Ev.val at HACK;clear hc hc2 hc3 hq hop;obtain⟨y,hy,h4⟩:=cL h0;unfold bI at h4;have hkp:k<y.ps.length:=by omega
 have hkl':(k:Int)<y.ps.length:=by omega
 obtain⟨Q,eQ,eS⟩:=kX (S hkp) hat;obtain⟨bA,hA,lA,cA⟩:=jq h4.right (S hkp);have hpk:=S hkp;rw[eQ] at h4;have HS:=K (fun(s':Ms) (c':Cr) (w':T) (R':ab) (h:O w' (bI b {σ.put k c' with s:=s'} y R'))=>dJ (σ:={σ.put k c' with s:=s'}) (by rw[hy];exact(Sc.put_len σ k c').symm) h);unfold bI Sc.put at HS;dsimp only at HS;have HS2:=K (fun(s':Ms) (c':Cr) (w':T) (R':ab) h=>HS.out s' c' w' R' (by rw[eS c'];exact h));have hset:σ.cs.set k (σ.core k)=σ.cs:=uK hat;clear HS eS eQ hy hat;obtain⟨b0,b1,b2,b3,b4,b5⟩:=h4.cells6;have bl:=h4.lt;rw[hA] at b2;generalize y.ps[k]=p at*
 have h5:O _ (cJ p (σ.core k).l 0 (σ.core k).k *(du y.f σ.s*((aa b #[.pointer (F (I y.f 0 C)),o B 0,.slice y.A y.ps.length y.c,.pointer (F (I y.sh 0 C)),J σ.busy,.slice y.G σ.gone.length y.d] 114*(cr (.slice y.A y.ps.length y.c) y.ps*(ao (.slice y.G σ.gone.length y.d) σ.gone*(aI y.sh σ.told σ.wait*Q))))*(aa w.heap.size #[o B kx,o B k,o B mx.page,o B mx.size,o B mx.frame,o B mx.rights,o B ax.page,o B ax.kind,J ax.user] 43*(aa (w.heap.size+1) #[o B 0,J D,o B 0,o B 0,o B 0,J D] 36*R))))):=h4.drew.eq (by ac_rfl);have HS3:=K (fun(s':Ms) (c':Cr) (w':T) (R':ab) (h:O w' (cJ p c'.l 0 c'.k*(du y.f s'*((aa b #[.pointer (F (I y.f 0 C)),o B 0,.slice y.A y.ps.length y.c,.pointer (F (I y.sh 0 C)),J σ.busy,.slice y.G σ.gone.length y.d] 114*(cr (.slice y.A y.ps.length y.c) y.ps*(ao (.slice y.G σ.gone.length y.d) σ.gone*(aI y.sh σ.told σ.wait*Q))))*R'))))=>HS2.out s' c' w' R' (h.eq (by ac_rfl)));generalize (aa b #[.pointer (F (I y.f 0 C)),o B 0,.slice y.A y.ps.length y.c,.pointer (F (I y.sh 0 C)),J σ.busy,.slice y.G σ.gone.length y.d] 114*(cr (.slice y.A y.ps.length y.c) y.ps*(ao (.slice y.G σ.gone.length y.d) σ.gone*(aI y.sh σ.told σ.wait*Q))))=Z at*
 have h0d:=h0.drew;have x0d:=x0.drew;obtain⟨-,-,d2,d3,d4,d5,d6,d7,d8⟩:=h0.right.cells9;clear h0 h4 HS2;have hk0:¬(k:Int)<0:=by omega
 by_cases o4:kx=4
 ·as_aux_lemma=>
  rw[ea,if_pos o4];unfold Sc.access;have HB:=K (fun R w h=>yF p (σ.core k).l 0 (σ.core k).k ax hcr.1 hAc.1 R w h);generalize σ.core k=cc at*
  generalize ce cc.l 0 cc.k ax=q at*
  obtain⟨⟨qa,qf,qr⟩,fin,code,ck'⟩:=q;have HS4:=K (HS3.out σ.s ⟨cc.l,ck'⟩);unfold Ev.val;dsimp only at*
  subst o4;clear HACK h0d ea hcr HS3;go_enter func16,ntmps16;go_upto_region 5 with fail;go_region;go_upto_region 7 with fail;go_region;go_upto_region 10 with fail;generalize (w.alloc (.cells #[o B 4,o B k,o B mx.page,o B mx.size,o B mx.frame,o B mx.rights,o B ax.page,o B ax.kind,J ax.user] 43)).alloc (.cells #[o B 0,J D,o B 0,o B 0,o B 0,J D] 36)=w1 at*
  generalize w.heap.size=X at*
  generalize X+1=E at*
  have g5:=h5.drew;have y0:=x0d.drew;have e3:=g5.r3.cell 6;have e4:=g5.r3.cell 7;have e5:=g5.r3.cell 8;have el:=g5.r3.lt;clear h5 x0d b0 b1 b2 b3 b4 b5 bl cA lA c0 d2 d3 d4 d5 d6 d7 d8 xl;go_wp2_with fail
  with_reducible refine(HB.out _ _ g5).mono ?_
  rintro e w5 ⟨rfl,h6,x6⟩;have x7:=y0.trans x6;clear g5 y0 x6 HB e3 e4 e5 el;go_wp2_with fail
  refine(xC qa qf qr code fin _).mono ?_;rintro e w6 ⟨rfl,b6⟩;have h7:O w6 (aa E #[o B 0,J D,o B 0,o B 0,o B 0,J D] 36*(cJ p cc.l 0 ck'*(du y.f σ.s*(Z*(aa X #[o B 4,o B k,o B mx.page,o B mx.size,o B mx.frame,o B mx.rights,o B ax.page,o B ax.kind,J ax.user] 43*R))))):=(h6.below b6).eq (by ac_rfl);have x8:=x7.below b6;clear h6 x7 b6;obtain⟨e0,e1,e2,e3,e4,e5⟩:=h7.cells6;obtain⟨f0,f1,f2,f3,f4,f5⟩:=h7.frees6;have el:=h7.lt;go_wp2_with fail
  refine am (fun wz=>O wz (aa E #[o B code,J fin,o B qa,o B qf,o B qr,J D] 36*(cJ p cc.l 0 ck'*(du y.f σ.s*(Z*(aa X #[o B 4,o B k,o B mx.page,o B mx.size,o B mx.frame,o B mx.rights,o B ax.page,o B ax.kind,J ax.user] 43*R)))))∧Y w wz) ⟨h7.set6 _ _ _ _ _ _,ah⟩ ?_;rintro wz ⟨hz,xz⟩;exact N (aG results16 rfl (aM hz)) rfl ⟨rfl,(HS4.out _ (aa X #[o B 4,o B k,o B mx.page,o B mx.size,o B mx.frame,o B mx.rights,o B ax.page,o B ax.kind,J ax.user] 43*R) hz.right).p2.right,xz⟩
 by_cases o5:kx=5
 ·as_aux_lemma=>
  rw[ea,if_neg o4,if_pos o5];unfold Sc.walk;have HB:=K (fun R w h=>zJ p y.f (σ.core k) σ.s hcr R w h);generalize σ.core k=cc at*
  have HKL:Hid (∃l',gQ cc.l (aL σ.s 0 cc.k).r =l'):=K ⟨_,rfl⟩;obtain⟨l',hl'⟩:=HKL.out;rw[hl'] at HB⊢;clear hl' HKL;generalize aL σ.s 0 cc.k=q at*
  obtain⟨ck',s',⟨fin,⟨qa,qf,qr⟩,ln⟩,code⟩:=q;have HS4:=K (HS3.out s' ⟨l',ck'⟩);unfold Ev.val;dsimp only at*
  subst o5;clear HACK h0d ea hcr HS3 o4;go_enter func16,ntmps16;go_upto_region 5 with fail;go_region;go_upto_region 7 with fail;go_region;go_upto_region 12 with fail;generalize (w.alloc (.cells #[o B 5,o B k,o B mx.page,o B mx.size,o B mx.frame,o B mx.rights,o B ax.page,o B ax.kind,J ax.user] 43)).alloc (.cells #[o B 0,J D,o B 0,o B 0,o B 0,J D] 36)=w1 at*
  generalize w.heap.size=X at*
  generalize X+1=E at*
  have g5:=h5.drew;have y0:=x0d.drew;clear h5 x0d b1 b2 b3 b4 b5 cA lA c0 d2 d3 d4 d5 d6 d7 d8 xl;go_wp2_with fail
  with_reducible refine(HB.out _ _ g5).mono ?_
  rintro e w5 ⟨rfl,h6,x6⟩;have x7:=y0.trans x6;clear g5 y0 x6 HB b0 bl;go_wp2_with fail
  refine(xC qa qf qr code fin _).mono ?_;rintro e w6 ⟨rfl,b6⟩;have h7:O w6 (aa E #[o B 0,J D,o B 0,o B 0,o B 0,J D] 36*(cJ p l' 0 ck'*(du y.f s'*(Z*(aa X #[o B 5,o B k,o B mx.page,o B mx.size,o B mx.frame,o B mx.rights,o B ax.page,o B ax.kind,J ax.user] 43*R))))):=(h6.below b6).eq (by ac_rfl);have x8:=x7.below b6;clear h6 x7 b6;obtain⟨e0,e1,e2,e3,e4,e5⟩:=h7.cells6;obtain⟨f0,f1,f2,f3,f4,f5⟩:=h7.frees6;have el:=h7.lt;go_wp2_with fail
  refine am (fun wz=>O wz (aa E #[o B code,J fin,o B qa,o B qf,o B qr,J D] 36*(cJ p l' 0 ck'*(du y.f s'*(Z*(aa X #[o B 5,o B k,o B mx.page,o B mx.size,o B mx.frame,o B mx.rights,o B ax.page,o B ax.kind,J ax.user] 43*R)))))∧Y w wz) ⟨h7.set6 _ _ _ _ _ _,ah⟩ ?_;rintro wz ⟨hz,xz⟩;exact N (aG results16 rfl (aM hz)) rfl ⟨rfl,(HS4.out _ (aa X #[o B 5,o B k,o B mx.page,o B mx.size,o B mx.frame,o B mx.rights,o B ax.page,o B ax.kind,J ax.user] 43*R) hz.right).p2.right,xz⟩
 by_cases o6:kx=6
 ·as_aux_lemma=>
  rw[ea,if_neg o4,if_neg o5,if_pos o6];unfold Ev.val;clear h5 HS3 ea hcr o4 o5;generalize σ.ack k=q at*
  obtain⟨σ',⟨ec,ef,⟨qa,qb,qr⟩,ek⟩⟩:=q;dsimp only at*
  subst o6;go_enter func16,ntmps16;go_upto_region 5 with fail;go_region;go_upto_region 7 with fail;go_region;go_upto_region 14 with fail;generalize (w.alloc (.cells #[o B 6,o B k,o B mx.page,o B mx.size,o B mx.frame,o B mx.rights,o B ax.page,o B ax.kind,J ax.user] 43)).alloc (.cells #[o B 0,J D,o B 0,o B 0,o B 0,J D] 36)=w1 at*
  generalize w.heap.size=X at*
  generalize X+1=E at*
  have g5:=h0d.drew;have y0:=x0d.drew;have e1:=g5.right.cell 1;have el:=g5.right.lt;clear h0d x0d b0 b1 b2 b3 b4 b5 bl cA lA c0 d2 d3 d4 d5 d6 d7 d8 xl;go_wp2_with fail
  with_reducible refine(HACK.out _ _ g5).mono ?_
  rintro e w5 ⟨rfl,h6,x6⟩;have h7:O w5 (aa E #[o B 0,J D,o B 0,o B 0,o B 0,J D] 36*(ak b σ'*(aa X #[o B 6,o B k,o B mx.page,o B mx.size,o B mx.frame,o B mx.rights,o B ax.page,o B ax.kind,J ax.user] 43*R))):=h6.eq (by ac_rfl);have x8:=y0.trans x6;clear g5 y0 x6 h6 HACK e1 el;obtain⟨e0,e1,e2,e3,e4,e5⟩:=h7.cells6;obtain⟨f0,f1,f2,f3,f4,f5⟩:=h7.frees6;have el:=h7.lt;go_wp2_with fail
  refine am (fun wz=>O wz (aa E #[o B ec,J ef,o B qa,o B qb,o B qr,J ek] 36*(ak b σ'*(aa X #[o B 6,o B k,o B mx.page,o B mx.size,o B mx.frame,o B mx.rights,o B ax.page,o B ax.kind,J ax.user] 43*R)))∧Y w wz) ⟨h7.set6 _ _ _ _ _ _,ah⟩ ?_;rintro wz ⟨hz,xz⟩;exact N (aG results16 rfl (aM hz)) rfl ⟨rfl,hz.right.p2.right,xz⟩
 have o7:kx=7:=by omega
 as_aux_lemma=>
  rw[ea,if_neg o4,if_neg o5,if_neg o6];unfold Sc.evict;have HE:=K (fun t R w h=>yD t (σ.core k).l R w h);clear HACK h0d ea hcr;generalize σ.core k=cc at*
  obtain⟨cl,ck⟩:=cc;dsimp only at*
  subst o7;cases cl with
  |nil=>
   rw[if_pos rfl];have HS4:=K (HS3.out σ.s ⟨[],ck⟩);rw[hset] at HS4;rw[show decide (0< ([]:List Ln).length)=D from rfl,show Tl.evict []=[] from rfl] at HE;unfold Ev.val Ev.no An.zero;dsimp only;clear HS3 hset;go_enter func16,ntmps16;go_upto_region 5 with fail;go_region;go_upto_region 7 with fail;go_region;go_upto_region 15 with fail;generalize (w.alloc (.cells #[o B 7,o B k,o B mx.page,o B mx.size,o B mx.frame,o B mx.rights,o B ax.page,o B ax.kind,J ax.user] 43)).alloc (.cells #[o B 0,J D,o B 0,o B 0,o B 0,J D] 36)=w1 at*
   generalize w.heap.size=X at*
   generalize X+1=E at*
   have g5:=h5.drew;have y0:=x0d.drew;clear h5 x0d b0 b1 b2 b3 b4 b5 bl cA lA c0 d2 d3 d4 d5 d6 d7 d8 xl;obtain⟨t,v,g4⟩:=gg g5;obtain⟨t0,t1⟩:=g4.cells2;have tl:=g4.lt;go_wp2_with fail
   with_reducible refine(HE.out _ _ _ g4.p2).mono ?_
   rintro e w5 ⟨rfl,h6,x6⟩;have x7:=y0.trans x6;clear g4 g5 t0 t1 tl y0 x6;have h6':O w5 (aa p #[.pointer (F (I t 0 C)),.pointer (F (I v 0 C))] 126*(bZ t []*(aZ v 0 ck*(du y.f σ.s*(Z*(aa X #[o B 7,o B k,o B mx.page,o B mx.size,o B mx.frame,o B mx.rights,o B ax.page,o B ax.kind,J ax.user] 43*(aa E #[o B 0,J D,o B 0,o B 0,o B 0,J D] 36*R))))))):=h6.eq (by ac_rfl);have h7:O w5 (aa E #[o B 0,J D,o B 0,o B 0,o B 0,J D] 36*(cJ p [] 0 ck*(du y.f σ.s*(Z*(aa X #[o B 7,o B k,o B mx.page,o B mx.size,o B mx.frame,o B mx.rights,o B ax.page,o B ax.kind,J ax.user] 43*R))))):=(eU h6').eq (by ac_rfl);clear h6 h6';have g7:=h7;have y7:=x7;clear h7 x7;go_wp2_with fail
   refine(fj 9 _).mono ?_;rintro e w7 ⟨rfl,b7⟩;have h7:=g7.below b7;have x7:=y7.below b7;clear g7 y7 b7;obtain⟨e0,e1,e2,e3,e4,e5⟩:=h7.cells6;obtain⟨f0,f1,f2,f3,f4,f5⟩:=h7.frees6;have el:=h7.lt;go_wp2_with fail
   refine am (fun wz=>O wz (aa E #[o B 9,J D,o B 0,o B 0,o B 0,J D] 36*(cJ p [] 0 ck*(du y.f σ.s*(Z*(aa X #[o B 7,o B k,o B mx.page,o B mx.size,o B mx.frame,o B mx.rights,o B ax.page,o B ax.kind,J ax.user] 43*R)))))∧Y w wz) ⟨h7.set6 _ _ _ _ _ _,ah⟩ ?_;rintro wz ⟨hz,xz⟩;exact N (aG results16 rfl (aM hz)) rfl ⟨rfl,(HS4.out _ (aa X #[o B 7,o B k,o B mx.page,o B mx.size,o B mx.frame,o B mx.rights,o B ax.page,o B ax.kind,J ax.user] 43*R) hz.right).p2.right,xz⟩
  |cons z cl=>
   rw[if_neg (by simp)];have HS4:=K (HS3.out σ.s ⟨Tl.evict (z::cl),ck⟩);rw[show decide (0< (z::cl).length)=V from decide_eq_true (by simp)] at HE;unfold Ev.val Ev.no An.zero;dsimp only;clear HS3 hset;generalize Tl.evict (z::cl)=l' at*
   go_enter func16,ntmps16;go_upto_region 5 with fail;go_region;go_upto_region 7 with fail;go_region;go_upto_region 15 with fail;generalize (w.alloc (.cells #[o B 7,o B k,o B mx.page,o B mx.size,o B mx.frame,o B mx.rights,o B ax.page,o B ax.kind,J ax.user] 43)).alloc (.cells #[o B 0,J D,o B 0,o B 0,o B 0,J D] 36)=w1 at*
   generalize w.heap.size=X at*
   generalize X+1=E at*
   have g5:=h5.drew;have y0:=x0d.drew;clear h5 x0d b0 b1 b2 b3 b4 b5 bl cA lA c0 d2 d3 d4 d5 d6 d7 d8 xl;obtain⟨t,v,g4⟩:=gg g5;obtain⟨t0,t1⟩:=g4.cells2;have tl:=g4.lt;go_wp2_with fail
   with_reducible refine(HE.out _ _ _ g4.p2).mono ?_
   rintro e w5 ⟨rfl,h6,x6⟩;have x7:=y0.trans x6;clear g4 g5 t0 t1 tl y0 x6;have h6':O w5 (aa p #[.pointer (F (I t 0 C)),.pointer (F (I v 0 C))] 126*(bZ t l'*(aZ v 0 ck*(du y.f σ.s*(Z*(aa X #[o B 7,o B k,o B mx.page,o B mx.size,o B mx.frame,o B mx.rights,o B ax.page,o B ax.kind,J ax.user] 43*(aa E #[o B 0,J D,o B 0,o B 0,o B 0,J D] 36*R))))))):=h6.eq (by ac_rfl);have h7:O w5 (aa E #[o B 0,J D,o B 0,o B 0,o B 0,J D] 36*(cJ p l' 0 ck*(du y.f σ.s*(Z*(aa X #[o B 7,o B k,o B mx.page,o B mx.size,o B mx.frame,o B mx.rights,o B ax.page,o B ax.kind,J ax.user] 43*R))))):=(eU h6').eq (by ac_rfl);clear h6 h6';obtain⟨e0,e1,e2,e3,e4,e5⟩:=h7.cells6;obtain⟨f0,f1,f2,f3,f4,f5⟩:=h7.frees6;have el:=h7.lt;go_wp2_with fail
   refine am (fun wz=>O wz (aa E #[o B 0,J D,o B 0,o B 0,o B 0,J D] 36*(cJ p l' 0 ck*(du y.f σ.s*(Z*(aa X #[o B 7,o B k,o B mx.page,o B mx.size,o B mx.frame,o B mx.rights,o B ax.page,o B ax.kind,J ax.user] 43*R)))))∧Y w wz) ⟨h7.set6 _ _ _ _ _ _,ah⟩ ?_;rintro wz ⟨hz,xz⟩;exact N (aG results16 rfl (aM hz)) rfl ⟨rfl,(HS4.out _ (aa X #[o B 7,o B k,o B mx.page,o B mx.size,o B mx.frame,o B mx.rights,o B ax.page,o B ax.kind,J ax.user] 43*R) hz.right).p2.right,xz⟩
section
variable {P:Program} {fn:Func} {tmps:Array ag} {w:T}
theorem eo{a b:Nat}{t:TypeId}{p:a4}{v u:ag}(hr:fn.results= #[.tmp b,.cell a t])(ha:tmps.getD a undef= .pointer (F p))(hb:tmps.getD b undef=u)(hl:(loadVar t p).run P w= .ok v w):
  (results fn tmps).run P w= .ok (.tuple #[u,v]) w:=by
 unfold results;rw[hr];simp only[Array.getD_eq_getD_getElem?] at ha hb;simp[asAddr,ha,hb,hl]
end
theorem wH(q:Nat):∀u∈([.pointer (F (I q 0 C))]:List ag),u.oneCell'=V:=by
 intro u hu;simp at hu;subst hu;rfl
theorem Has.frees2{w:T}{R:ab}{b:Nat}{v0 v1:ag}{t:TypeId}(h:O w (aa b #[v0,v1] t*R)):w.frozen? (I b 0 C)=D∧w.frozen? (I b 1 C)=D:=⟨h.free 0,h.free 1⟩
theorem Has.set2{w:T}{R:ab}{b:Nat}{v0 v1:ag}{t:TypeId}(h:O w (aa b #[v0,v1] t*R))(u0 u1:ag):O ((w.setCell (I b 0 C) u0).setCell (I b 1 C) u1) (aa b #[u0,u1] t*R):=(h.set 0 u0).set 1 u1
theorem wI(cores n:Int)(hc:cores<1∨4<cores∨n<1∨128<n)(w:T):
  W prog 13 #[o B cores,o B n] w (a5 (.tuple #[.pointer C,.agg #[o B 1,o B (-1)]]) w):=by
 have h0:=(aT w).new #[o B 0,o B 0] 27;have x0:=(Ext.refl w).alloc (.cells #[o B 0,o B 0] 27);have h1:=(aT w).new #[o B 1,o B (-1)] 27;have el:=h0.lt;obtain⟨c0,c1⟩:=h0.cells2;obtain⟨f0,f1⟩:=h0.frees2;by_cases q1:cores<1
 ·go_enter func13,ntmps13
  go_wp2_with fail
  refine am (fun wz=>O wz (aa w.heap.size #[o B 1,o B (-1)] 27*(bE w w.heap.size))∧Y w wz) ⟨by first|(with_reducible exact h1)|(with_reducible exact h0.set2 (o B 1) (o B (-1))),ah⟩ ?_;rintro wz ⟨hz,xz⟩;exact N (eo results13 rfl rfl (dx hz)) rfl ⟨rfl,ar hz.right xz⟩
 by_cases q2:4<cores
 ·go_enter func13,ntmps13
  go_wp2_with fail
  refine am (fun wz=>O wz (aa w.heap.size #[o B 1,o B (-1)] 27*(bE w w.heap.size))∧Y w wz) ⟨by first|(with_reducible exact h1)|(with_reducible exact h0.set2 (o B 1) (o B (-1))),ah⟩ ?_;rintro wz ⟨hz,xz⟩;exact N (eo results13 rfl rfl (dx hz)) rfl ⟨rfl,ar hz.right xz⟩
 by_cases q3:n<1
 ·go_enter func13,ntmps13
  go_wp2_with fail
  refine am (fun wz=>O wz (aa w.heap.size #[o B 1,o B (-1)] 27*(bE w w.heap.size))∧Y w wz) ⟨by first|(with_reducible exact h1)|(with_reducible exact h0.set2 (o B 1) (o B (-1))),ah⟩ ?_;rintro wz ⟨hz,xz⟩;exact N (eo results13 rfl rfl (dx hz)) rfl ⟨rfl,ar hz.right xz⟩
 ·have q4:128<n:=by omega
  go_enter func13,ntmps13;go_wp2_with fail
  refine(yO n _ (by omega)).mono ?_;rintro e w2 ⟨rfl,b2⟩;have h2:=h0.below b2;have x2:=x0.below b2;clear h0 x0 h1 c0 c1 f0 f1 el b2;have x3:=x2.alloc (.cells #[o B 1,o B (-1)] 27);have h3:O _ (aa w.heap.size #[o B 0,o B 0] 27*(aa w2.heap.size #[o B 1,o B (-1)] 27*bE w w.heap.size)):=(h2.new #[o B 1,o B (-1)] 27).eq (by ac_rfl);obtain⟨c0,c1⟩:=h3.cells2;obtain⟨f0,f1⟩:=h3.frees2;have el:=h3.lt;obtain⟨d0,d1⟩:=h3.right.cells2;have dl:=h3.right.lt;clear h2;go_upto_region 4 with fail;go_wp2_with fail
  go_region
  all_goals
   go_wp2_with fail
   refine am (fun wz=>O wz (aa w.heap.size #[o B 1,o B (-1)] 27*(aa w2.heap.size #[o B 1,o B (-1)] 27*bE w w.heap.size))∧Y w wz) ⟨by first|(with_reducible exact h3)|(with_reducible exact(h3.set2 (o B 1) (o B (-1))).drew),ah⟩ ?_;rintro wz ⟨hz,xz⟩;exact N (eo results13 rfl rfl (dx hz)) rfl ⟨rfl,ar hz.right.right xz⟩
set_option maxHeartbeats 4000000 in
theorem AC(cores n:Nat)(hc:1≤cores)(h4:cores≤4)(hn:1≤n)(hn2:n≤128)(R:ab)(w:T)(h:O w R):
  W prog 13 #[o B cores,o B n] w fun e w'=>∃p,cR (.tuple #[.pointer (F (I p 0 C)),.agg #[o B 0,o B 0]]) (ak p (bd cores n)*R) w e w':=by
 have h0:=h.new #[o B 0,o B 0] 27;have x0:=(Ext.refl w).alloc (.cells #[o B 0,o B 0] 27);have hn1:¬(n:Int)<1:=by omega
 have hc1:¬(cores:Int)<1:=by omega
 have hc4:¬(4:Int)<cores:=by omega
 have ht0:(Ms.new n).topV =0:=by
  have ht:(Ms.new n).top =F 0:=by
   show(if 0<n then F 0 else C)=F 0;rw[if_pos (by omega)]
  unfold Ms.topV;rw[ht];rfl
 have HTK:=K (fun f R w h=>zA f (Ms.new n) R w h);rw[ht0] at HTK;have HOK:=K (Ms.Ok.new hn2);clear h ht0;go_enter func13,ntmps13;go_wp2_with fail
 refine(AM _ _ n h0 (by omega) (by omega)).mono ?_;rintro e w2 ⟨f,rfl,h2,x2⟩;have h3:=(fR h2 HOK.out (Agree.refl _)).new #[o B 0,o B 0] 27;have h3':O _ (du f (Ms.new n)*(aa w2.heap.size #[o B 0,o B 0] 27*(aa w.heap.size #[o B 0,o B 0] 27*R))):=h3.eq (by ac_rfl);have x3:=(x0.trans x2).alloc (.cells #[o B 0,o B 0] 27);have c3:=h3.cell 0;clear h2 x2 x0 h0 h3;go_wp2_with fail
 refine(HTK.out f _ _ h3').mono ?_;rintro e w4 ⟨rfl,h4,x4⟩;have x5:=x3.trans x4;clear c3 h3' x3 x4 HTK HOK;go_wp2_with fail
 refine(sK _ _ h4).mono ?_;rintro e w5 ⟨sh,rfl,h6,x6⟩;have h7:O _ (cr (.slice C 0 0) []*(aa w5.heap.size #[.pointer (F (I f 0 C)),o B 0,.slice C 0 0,.pointer (F (I sh 0 C)),J D,.slice C 0 0] 114*(aU [] (List.replicate 0 Cr.zero)*(aI sh Mp.zero (fun _=>D)*(du f (Ms.new n).takeS *(aa w2.heap.size #[o B 0,o B 0] 27*(aa w.heap.size #[o B 0,o B 0] 27*R))))))):=
  Has.rowNil ((dd.2 ⟨trivial,h6.new #[.pointer (F (I f 0 C)),o B 0,.slice C 0 0,.pointer (F (I sh 0 C)),J D,.slice C 0 0] 114⟩).eq (show _=aa w5.heap.size #[.pointer (F (I f 0 C)),o B 0,.slice C 0 0,.pointer (F (I sh 0 C)),J D,.slice C 0 0] 114*(eY True*(aI sh Mp.zero (fun _=>D)*(du f (Ms.new n).takeS *(aa w2.heap.size #[o B 0,o B 0] 27*(aa w.heap.size #[o B 0,o B 0] 27*R))))) by ac_rfl))
 have x7:=(x5.trans x6).alloc (.cells #[.pointer (F (I f 0 C)),o B 0,.slice C 0 0,.pointer (F (I sh 0 C)),J D,.slice C 0 0] 114);clear h4 x5 h6 x6;go_wp2_with fail
 generalize w5.alloc _=w6 at*
 generalize w5.heap.size=b at*
 generalize w.heap.size=X at*
 go_loopw [36] (fun t wz=>∃(j:Nat) (A:Option a4) (c:Nat) (ps:List Nat),j≤cores∧t=o B j∧ps.length=j∧
   O wz (cr (.slice A j c) ps*(aa b #[.pointer (F (I f 0 C)),o B 0,.slice A j c,.pointer (F (I sh 0 C)),J D,.slice C 0 0] 114*(aU ps (List.replicate j Cr.zero)*(aI sh Mp.zero (fun _=>D)*(du f (Ms.new n).takeS *(aa w2.heap.size #[o B 0,o B 0] 27*(aa X #[o B 0,o B 0] 27*R)))))))∧Y w wz)
  (fun t _=>cores - (intOf t).toNat)
 case atStart=>exact⟨0,C,0,[],by omega,rfl,rfl,h7,x7⟩
 case round=>
  obtain⟨j,A,c,ps,hj,rfl,hps,hz,hx⟩:=hrel;generalize hZ:(aI sh Mp.zero (fun _=>D)*(du f (Ms.new n).takeS *(aa w2.heap.size #[o B 0,o B 0] 27*(aa X #[o B 0,o B 0] 27*R))))=Z at*
  clear h7 x7;subst hps;by_cases hjn:ps.length<cores
  ·have g1:=hz.right.cell 1
   have g2:=hz.right.cell 2;have gl:=hz.right.lt;have hzd:=hz.drew;have HC:=K (fun R w h=>AK 0 R w h);go_wp2_with fail
   go_region_law (first
    |(go_simp;go_at_call 54;refine(HC.out _ _ hzd).mono ?_;rintro e w8 ⟨q,rfl,h8,x8⟩;have k1:=h8.right.right.cell 1;have k2:=h8.right.right.cell 2;have kl:=h8.right.right.lt;have k3:=(h8.eq (show _=cr (.slice A ps.length c) ps*(aa b #[.pointer (F (I f 0 C)),o B 0,.slice A ps.length c,.pointer (F (I sh 0 C)),J D,.slice C 0 0] 114*(cJ q [] 0 Ck.zero*(aU ps (List.replicate ps.length Cr.zero)*Z))) by ac_rfl)).build #[.pointer (F (I q 0 C))] 115)
    |(refine co rfl (.tmp 42) (.tmp 48) 112 rfl underlying112 yH (.slice A ps.length c) ps.length (ps.map uX) (by simp[Act.eval]) k3 (I w8.heap.size 0 C) 1 1 [.pointer (F (I q 0 C))] (by simp[Act.eval]) rfl (fF (k3.right.right.cell 0)) (wH q) (by unfold maxLen;omega) (by omega) ?_;intro A' c' w9 h9 x9;have y2:=h9.right.cell 2;have yf:=h9.right.free 2;have yl:=h9.right.lt))
   all_goals
    have h10:O (w9.setCell (I b 2 C) (.slice A' (ps.length+1) c')) (cr (.slice A' (ps.length+1) c') (ps++[q])*(aa b #[.pointer (F (I f 0 C)),o B 0,.slice A' (ps.length+1) c',.pointer (F (I sh 0 C)),J D,.slice C 0 0] 114*(aU (ps++[q]) (List.replicate (ps.length+1) Cr.zero)*Z))):=by
     have h11:=(h9.right.set 2 (.slice A' (ps.length+1) c'));have h12:=(h9.p2.set 2 (.slice A' (ps.length+1) c'));have h13:O _ (aa w8.heap.size #[.pointer (F (I q 0 C))] 115*(ct 115 1 (.slice A' (ps.length+1) c') (ps.length+1) (ps.map uX++[.pointer (F (I q 0 C))])*(aa b #[.pointer (F (I f 0 C)),o B 0,.slice A' (ps.length+1) c',.pointer (F (I sh 0 C)),J D,.slice C 0 0] 114*(cJ q [] 0 Ck.zero*(aU ps (List.replicate ps.length Cr.zero)*Z))))):=h12.eq (by show aa b #[.pointer (F (I f 0 C)),o B 0,.slice A' (ps.length+1) c',.pointer (F (I sh 0 C)),J D,.slice C 0 0] 114*_=_;ac_rfl);have h14:=h13.right;rw[List.replicate_succ',mW ps _ q Cr.zero (by simp)];unfold cr;rw[List.length_append,List.map_append];exact h14.eq (by ac_rfl)
    have x10:=(((hx.drew.trans x8).alloc (.cells #[.pointer (F (I q 0 C))] 115)).trans x9).set (I b 2 C) (.slice A' (ps.length+1) c');clear h9 h8 k3 hzd hz k1 k2 kl g1 g2 gl y2 yf yl hx x8 x9;go_wp2_with fail
    go_roundw
    case rel=>exact⟨ps.length+1,A',c',ps++[q],by omega,by go_num,by simp,h10,x10⟩
    case measure=>simp[intOf];omega
  ·have hjc:ps.length=cores:=by omega
   have h11:O _ (aa X #[o B 0,o B 0] 27*(aa b #[.pointer (F (I f 0 C)),o B 0,.slice A ps.length c,.pointer (F (I sh 0 C)),J D,.slice C 0 0] 114*(aa w2.heap.size #[o B 0,o B 0] 27*(cr (.slice A ps.length c) ps*(aU ps (List.replicate ps.length Cr.zero)*(aI sh Mp.zero (fun _=>D)*(du f (Ms.new n).takeS *R))))))):=hz.eq (by rw[←hZ];ac_rfl);have HE:=K (fun(wz:T) (h:O wz (aa X #[o B 0,o B 0] 27*(aa b #[.pointer (F (I f 0 C)),o B 0,.slice A ps.length c,.pointer (F (I sh 0 C)),J D,.slice C 0 0] 114*(aa w2.heap.size #[o B 0,o B 0] 27*(cr (.slice A ps.length c) ps*(aU ps (List.replicate ps.length Cr.zero)*(aI sh Mp.zero (fun _=>D)*(du f (Ms.new n).takeS *R))))))))=>show O wz (ak b (bd cores n)*R) from by
    have k1:O wz (aa w2.heap.size #[o B 0,o B 0] 27*(aa b #[.pointer (F (I f 0 C)),o B 0,.slice A ps.length c,.pointer (F (I sh 0 C)),J D,.slice C 0 0] 114*(cr (.slice A ps.length c) ps*(aI sh Mp.zero (fun _=>D)*(aU ps (List.replicate ps.length Cr.zero)*(du f (Ms.new n).takeS *R)))))):=h.right.eq (by ac_rfl);have k2:=(Has.rowNil (e:=3) (size:=1) k1.right).eq (show _=aa b #[.pointer (F (I f 0 C)),o B 0,.slice A ps.length c,.pointer (F (I sh 0 C)),J D,.slice C 0 0] 114*(cr (.slice A ps.length c) ps*(ao (.slice C 0 0) []*(aI sh Mp.zero (fun _=>D)*(aU ps (List.replicate ps.length Cr.zero)*(du f (Ms.new n).takeS *R))))) by show ct 3 1 (.slice C 0 0) 0 []*_=_;unfold ao;ac_rfl);rw[hjc] at k2;exact dJ (y:=⟨f,sh,A,c,ps,C,0⟩) (by simpa [bd] using hjc) (by unfold bI bd;rw[←hjc] at k2⊢;exact k2))
   clear hjc hZ hz;obtain⟨d0,d1⟩:=h11.cells2;obtain⟨f0,f1⟩:=h11.frees2;have dl:=h11.lt;go_wp2_with fail
   refine am (fun wz=>O wz (aa X #[o B 0,o B 0] 27*(aa b #[.pointer (F (I f 0 C)),o B 0,.slice A ps.length c,.pointer (F (I sh 0 C)),J D,.slice C 0 0] 114*(aa w2.heap.size #[o B 0,o B 0] 27*(cr (.slice A ps.length c) ps*(aU ps (List.replicate ps.length Cr.zero)*(aI sh Mp.zero (fun _=>D)*(du f (Ms.new n).takeS *R)))))))∧Y w wz) ⟨by first|(with_reducible exact h11)|(with_reducible exact h11.set2 (o B 0) (o B 0)),ah⟩ ?_;rintro wz ⟨hz,xz⟩;exact N (eo results13 rfl rfl (dx hz)) rfl ⟨b,rfl,HE.out _ hz,xz⟩
section
variable (b:Nat) (σ:Sc) (R:ab) (w:T) (h:O w (ak b σ*R))
include h
theorem zv:W prog 24 #[.pointer (F (I b 0 C))] w (bi (J σ.busy) w):=by
 obtain⟨y,_,h⟩:=cL h;unfold bI at h;obtain⟨c0,c1,c2,c3,c4,c5⟩:=h.cells6;have cl:=h.lt;clear h;go_enter func24,ntmps24;go_wp2;go_ret;exact⟨rfl,rfl⟩
theorem zw:W prog 27 #[.pointer (F (I b 0 C))] w (bi (o B σ.gone.length) w):=by
 obtain⟨y,_,h⟩:=cL h;unfold bI at h;obtain⟨c0,c1,c2,c3,c4,c5⟩:=h.cells6;have cl:=h.lt;clear h;go_enter func27,ntmps27;go_wp2;go_ret;exact⟨rfl,rfl⟩
theorem uL:W prog 28 #[.pointer (F (I b 0 C))] w (bi (o B σ.cs.length) w):=by
 obtain⟨y,hy,h⟩:=cL h;unfold bI at h;rw[hy] at h;obtain⟨c0,c1,c2,c3,c4,c5⟩:=h.cells6;have cl:=h.lt;clear h;go_enter func28,ntmps28;go_wp2;go_ret;exact⟨rfl,rfl⟩
theorem uM(k:Int):W prog 29 #[.pointer (F (I b 0 C)),o B k] w (bi (J (σ.waits k)) w):=by
 obtain⟨y,_,h⟩:=cL h;unfold bI at h;obtain⟨c0,c1,c2,c3,c4,c5⟩:=h.cells6;have cl:=h.lt;have HW:=K (lp y.sh σ.told σ.wait k _ w (h.r3));clear h;go_enter func29,ntmps29;go_wp2_with(refine HW.out.mono ?_;rintro e w2 ⟨rfl,rfl⟩)
 go_ret;exact⟨rfl,rfl⟩
theorem zx:W prog 25 #[.pointer (F (I b 0 C))] w (bi (o B (σ.s.frees.length:Nat)) w):=by
 obtain⟨y,_,h⟩:=cL h;unfold bI at h;obtain⟨c0,c1,c2,c3,c4,c5⟩:=h.cells6;have cl:=h.lt;have HF:=K (zB y.f σ.s R w (h.right.right.r3));clear h;go_enter func25,ntmps25;go_wp2_with(refine HF.out.mono ?_;rintro e w2 ⟨rfl,rfl⟩)
 go_ret;exact⟨rfl,rfl⟩
end
section
variable (b:Nat) (σ:Sc) (hw:Wf σ.s 0 σ.gone (fun _=>False)) (R:ab) (w:T) (h:O w (ak b σ*R))
include hw h
set_option maxHeartbeats 2000000 in
theorem xD:W prog 21 #[.pointer (F (I b 0 C))] w fun e w'=>∃A c,e= .returned (.slice A (dn σ.s 0).length c)∧O w' (cK (.slice A (dn σ.s 0).length c) (dn σ.s 0)*(ak b σ*R))∧Y w w':=by
 obtain⟨y,hy,h⟩:=cL h;unfold bI at h;have HL:=K (fun R w h=>zE y.f σ.s σ.gone _ hw R w h);have HS:=K (fun(w':T) (R':ab) (h:O w' (bI b σ y R'))=>dJ hy h);have cl:=h.lt;have hd:=(h.eq (show _=du y.f σ.s*(aa b #[.pointer (F (I y.f 0 C)),o B 0,.slice y.A y.ps.length y.c,.pointer (F (I y.sh 0 C)),J σ.busy,.slice y.G σ.gone.length y.d] 114*(cr (.slice y.A y.ps.length y.c) y.ps*(ao (.slice y.G σ.gone.length y.d) σ.gone*(aI y.sh σ.told σ.wait*(aU y.ps σ.cs*R))))) by ac_rfl)).drew;have xd:=(Ext.refl w).drew;have HK:=K (fun(w':T) (P Q:ab) (h:O w' (P*(aa b #[.pointer (F (I y.f 0 C)),o B 0,.slice y.A y.ps.length y.c,.pointer (F (I y.sh 0 C)),J σ.busy,.slice y.G σ.gone.length y.d] 114*Q)))=>(⟨h.right.cell 0,h.right.cell 1⟩:w'.cell? (I b 0 C)=F (.pointer (F (I y.f 0 C)))∧w'.cell? (I b 1 C)=F (o B 0)));clear hy h;generalize dn σ.s 0=L at*
 go_enter func21,ntmps21;go_upto_region 1 with fail;go_region_held3 (fun w'=>w'.cell? (I b 0 C)=F (.pointer (F (I y.f 0 C)))∧w'.cell? (I b 1 C)=F (o B 0)) (first|(with_reducible exact HK.out _ _ _ hd)|(with_reducible exact HK.out _ _ _ h5.a2)|go_keep) (first|(go_at_call 73;(with_reducible refine(HL.out _ _ hd).mono ?_);rintro e w5 ⟨A,c,rfl,h5,x5⟩))
 all_goals
  go_wp2_with fail
  go_ret;exact⟨A,c,rfl,(HS.out w5 (cK (.slice A L.length c) L*R) (h5.eq (by unfold bI;ac_rfl))).p2,xd.trans x5⟩
set_option maxHeartbeats 2000000 in
theorem wJ:W prog 23 #[.pointer (F (I b 0 C))] w fun e w'=>∃A c,e= .returned (.slice A (gY σ.s 0).length c)∧O w' (ao (.slice A (gY σ.s 0).length c) (gY σ.s 0)*(ak b σ*R))∧Y w w':=by
 obtain⟨y,hy,h⟩:=cL h;unfold bI at h;have HL:=K (fun R w h=>wN y.f σ.s σ.gone _ hw R w h);have HS:=K (fun(w':T) (R':ab) (h:O w' (bI b σ y R'))=>dJ hy h);have cl:=h.lt;have hd:=(h.eq (show _=du y.f σ.s*(aa b #[.pointer (F (I y.f 0 C)),o B 0,.slice y.A y.ps.length y.c,.pointer (F (I y.sh 0 C)),J σ.busy,.slice y.G σ.gone.length y.d] 114*(cr (.slice y.A y.ps.length y.c) y.ps*(ao (.slice y.G σ.gone.length y.d) σ.gone*(aI y.sh σ.told σ.wait*(aU y.ps σ.cs*R))))) by ac_rfl)).drew;have xd:=(Ext.refl w).drew;have HK:=K (fun(w':T) (P Q:ab) (h:O w' (P*(aa b #[.pointer (F (I y.f 0 C)),o B 0,.slice y.A y.ps.length y.c,.pointer (F (I y.sh 0 C)),J σ.busy,.slice y.G σ.gone.length y.d] 114*Q)))=>(⟨h.right.cell 0,h.right.cell 1⟩:w'.cell? (I b 0 C)=F (.pointer (F (I y.f 0 C)))∧w'.cell? (I b 1 C)=F (o B 0)));clear hy h;generalize gY σ.s 0=L at*
 go_enter func23,ntmps23;go_upto_region 1 with fail;go_region_held3 (fun w'=>w'.cell? (I b 0 C)=F (.pointer (F (I y.f 0 C)))∧w'.cell? (I b 1 C)=F (o B 0)) (first|(with_reducible exact HK.out _ _ _ hd)|(with_reducible exact HK.out _ _ _ h5.a2)|go_keep) (first|(go_at_call 74;(with_reducible refine(HL.out _ _ hd).mono ?_);rintro e w5 ⟨A,c,rfl,h5,x5⟩))
 all_goals
  go_wp2_with fail
  go_ret;exact⟨A,c,rfl,(HS.out w5 (ao (.slice A L.length c) L*R) (h5.eq (by unfold bI;ac_rfl))).p2,xd.trans x5⟩
end
section
variable (b:Nat) (σ:Sc) (R:ab) (w:T) (h:O w (ak b σ*R))
include h
end
section
variable (b:Nat) (σ:Sc) (R:ab) (w:T) (h:O w (ak b σ*R))
include h
set_option maxHeartbeats 2000000 in
theorem Aa(k:Int):W prog 19 #[.pointer (F (I b 0 C)),o B k] w (a5 (.tuple #[.agg #[o B (σ.acc k).page,o B (σ.acc k).kind,J (σ.acc k).user],J (σ.on k)]) w):=by
 obtain⟨y,hy,h⟩:=cL h;unfold bI at h;have h0:=(aT w).new #[o B 0,o B 0,J D] 41;have x0:=(Ext.refl w).alloc (.cells #[o B 0,o B 0,J D] 41);have g0:=h.alloc (.cells #[o B 0,o B 0,J D] 41);have cl:b< (w.alloc (.cells #[o B 0,o B 0,J D] 41)).heap.size :=g0.lt;obtain⟨c0,c1,c2,c3,c4,c5⟩:=g0.cells6;clear h;by_cases hk:0≤k∧k<σ.cs.length
 case neg=>
  have hon:σ.on k=D:=by
   unfold Sc.on;by_cases h0:0≤k
   ·rw[decide_eq_false (show¬k< (σ.cs.length:Int) from fun hh=>hk ⟨h0,hh⟩)];simp
   ·rw[decide_eq_false h0];rfl
  have hac:σ.acc k=Ac.zero:=by unfold Sc.acc;rw[hon];rfl
  rw[hon,hac];clear hon hac g0;rw[←hy] at hk;clear hy;obtain⟨z0,z1,z2⟩:=h0.cells3;obtain⟨f0,f1,f2⟩:=h0.frees3;have zl:=h0.lt;by_cases hk0:k<0
  ·clear hk
   go_enter func19,ntmps19;go_wp2_with fail
   refine am (fun wz=>O wz (aa w.heap.size #[o B 0,o B 0,J D] 41*(bE w w.heap.size))∧Y w wz) ⟨by first|(with_reducible exact h0)|(with_reducible exact h0.set3 _ _ _),ah⟩ ?_;rintro wz ⟨hz,xz⟩;exact N (aA results19 rfl rfl (fG hz)) rfl ⟨rfl,ar hz.right xz⟩
  ·have hkl:(y.ps.length:Int)≤k:=by omega
   clear hk;go_enter func19,ntmps19;go_wp2_with fail
   refine am (fun wz=>O wz (aa w.heap.size #[o B 0,o B 0,J D] 41*(bE w w.heap.size))∧Y w wz) ⟨by first|(with_reducible exact h0)|(with_reducible exact h0.set3 _ _ _),ah⟩ ?_;rintro wz ⟨hz,xz⟩;exact N (aA results19 rfl rfl (fG hz)) rfl ⟨rfl,ar hz.right xz⟩
 case pos=>
  obtain⟨hk0,hkl⟩:=hk;obtain⟨k,rfl⟩:=Int.eq_ofNat_of_zero_le hk0;have hkn:k<σ.cs.length:=by omega
  have hkp:k<y.ps.length:=by omega
  obtain⟨Q,eQ,_⟩:=kX (S hkp) (Safe.at_core hkn);rw[eQ] at g0;obtain⟨bA,hA,lA,cA⟩:=jq g0.right (S hkp);have hon:σ.on k=(σ.core k).k.on :=by
   unfold Sc.on;rw[decide_eq_true hk0,decide_eq_true hkl];simp
  have hac:σ.acc k=if(σ.core k).k.on =V then(σ.core k).k.a else Ac.zero:=by unfold Sc.acc;rw[hon];simp
  have hcr:=g0.right.r3.a1;have HB:=K (uW y.ps[k] _ 0 _ _ _ hcr);have HA:=K (wQ y.ps[k] _ 0 _ _ _ hcr);rw[hon,hac];have hkl':(k:Int)<y.ps.length:=by omega
  have h0d:=h0;generalize y.ps[k]=p at*
  generalize (σ.core k).k =ck at*
  rw[hA] at c2;clear hon hac g0 eQ hcr hy hkl hkn;obtain⟨z0,z1,z2⟩:=h0.cells3;obtain⟨f0,f1,f2⟩:=h0.frees3;have zl:=h0.lt;cases hn:ck.on with
  |false=>
   rw[hn] at HB;rw[if_neg (by simp)];clear hn;go_enter func19,ntmps19;go_wp2_with(refine HB.out.mono ?_;rintro e w2 ⟨rfl,rfl⟩)
   refine am (fun wz=>O wz (aa w.heap.size #[o B 0,o B 0,J D] 41*(bE w w.heap.size))∧Y w wz) ⟨by first|(with_reducible exact h0)|(with_reducible exact h0.set3 _ _ _),ah⟩ ?_;rintro wz ⟨hz,xz⟩;exact N (aA results19 rfl rfl (fG hz)) rfl ⟨rfl,ar hz.right xz⟩
  |true=>
   rw[hn] at HB;rw[if_pos rfl];clear hn;go_enter func19,ntmps19;go_wp2_with(refine HB.out.mono ?_;rintro e w2 ⟨rfl,hwz⟩;subst hwz)
   refine HA.out.mono ?_;rintro e w2 ⟨rfl,b2⟩;have g2:=h0.below b2;have x2:=x0.below b2;clear h0 x0 z0 z1 z2 f0 f1 f2 zl h0d c0 c1 c2 c3 c4 c5 cl cA lA;obtain⟨z0,z1,z2⟩:=g2.cells3;obtain⟨f0,f1,f2⟩:=g2.frees3;have zl:=g2.lt;go_wp2_with fail
   refine am (fun wz=>O wz (aa w.heap.size #[o B ck.a.page,o B ck.a.kind,J ck.a.user] 41*(bE w w.heap.size))∧Y w wz) ⟨g2.set3 _ _ _,ah⟩ ?_;rintro wz ⟨hz,xz⟩;exact N (aA results19 rfl rfl (fG hz)) rfl ⟨rfl,ar hz.right xz⟩
end
theorem mQ(A:Option a4)(n c:Nat)(jI:Int)(w:T):W prog 12 #[.slice A n c,o B jI] w (bi (J (decide (jI<n))) w):=by
 by_cases hm:jI<n
 ·rw[decide_eq_true hm]
  go_enter func12,ntmps12;go_wp2_with fail
  go_ret;exact⟨rfl,rfl⟩
 ·rw[decide_eq_false hm]
  go_enter func12,ntmps12;go_wp2_with fail
  go_ret;exact⟨rfl,rfl⟩
theorem Safe.calm{σ:Sc}{P:List Mp}(h:Safe σ P)(hb:σ.busy=D):eG σ.wait=V:=by
 have:=(h.quiet hb).2;unfold eG;simp[this]
end Go.Proofs.YtmfheghbgihdmaaGreat
