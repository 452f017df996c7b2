/- Contracts of package space: what is told of a Space. -/
import Derived.Test.YtmfheghbgihdmaaGreatCoreP
import Derived.Test.YtmfheghbgihdmaaGreatPages2
import Derived.Deep.RegionHeld3
import Derived.BigQuiet
import Derived.Test.YtmfheghbgihdmaaGreatSpcA
import Derived.Test.YtmfheghbgihdmaaGreatScE
import Derived.Deep.MidRow
import Derived.Test.YtmfheghbgihdmaaGreatRefPage
namespace Go.Proofs.YtmfheghbgihdmaaGreat
open Go.Value renaming int→j,bool→J
open Go.IntKind renaming i64→o
open Option renaming none→r,some→D
open Bool renaming false→C,true→S
open Go.Addr renaming mk→I
open Go.Lib renaming hid→K
open Go.Proofs.YtmfheghbgihdmaaGreat renaming Has→N,Ext→ad
open List renaming getElem?_eq_getElem→O
open Int renaming eq_ofNat_of_zero_le→T
open Go renaming World→U,bodyPost_ret→Y,Calls→Z
open Tryz
open Go.RowKit
set_option maxRecDepth 100000
section
variable (b:Nat) (σ:Sc) (R:ab) (w:U) (h:N w (aw b σ*R))
include h
theorem wU:Z prog 24 #[.pointer (D (I b 0 r))] w (Same (J σ.busy) w):=by
 obtain⟨y,_,h⟩:=dz h;unfold co at h;obtain⟨c0,c1,c2,c3,c4,c5⟩:=h.cells6;have cl:=h.lt;clear h;go_enter func24,ntmps24;go_wp2;go_ret;exact⟨rfl,rfl⟩
theorem wV:Z prog 25 #[.pointer (D (I b 0 r))] w (Same (j o (σ.s.frees.length:Nat)) w):=by
 obtain⟨y,_,h⟩:=dz h;unfold co at h;obtain⟨c0,c1,c2,c3,c4,c5⟩:=h.cells6;have cl:=h.lt;have HF:=K (wA y.f σ.s R w (h.right.right.r3));clear h;go_enter func25,ntmps25;go_wp2_with(refine HF.out.mono ?_;rintro e w2 ⟨rfl,rfl⟩)
 go_ret;exact⟨rfl,rfl⟩
end
section
variable (b:Nat) (σ:Sc) (hw:Wf σ.s 0 σ.gone (fun _=>False)) (R:ab) (w:U) (h:N w (aw b σ*R))
include hw h
set_option maxHeartbeats 2000000 in
theorem uP:Z prog 21 #[.pointer (D (I b 0 r))] w fun e w'=>∃A c,e= .returned (.slice A (dr σ.s 0).length c)∧N w' (bO (.slice A (dr σ.s 0).length c) (dr σ.s 0)*(aw b σ*R))∧ad w w':=by
 obtain⟨y,hy,h⟩:=dz h;unfold co at h;have HL:=K (fun R w h=>wD y.f σ.s σ.gone _ hw R w h);have HS:=K (fun(w':U) (R':ab) (h:N w' (co b σ y R'))=>dR hy h);have cl:=h.lt;have hd:=(h.eq (show _=dn y.f σ.s*(aa b #[.pointer (D (I y.f 0 r)),j o 0,.slice y.A y.ps.length y.c,.pointer (D (I y.sh 0 r)),J σ.busy,.slice y.G σ.gone.length y.d] 114*(cj (.slice y.A y.ps.length y.c) y.ps*(ao (.slice y.G σ.gone.length y.d) σ.gone*(aI y.sh σ.told σ.wait*(aU y.ps σ.cs*R))))) by ac_rfl)).drew;have xd:=(Ext.refl w).drew;have HK:=K (fun(w':U) (P Q:ab) (h:N w' (P*(aa b #[.pointer (D (I y.f 0 r)),j o 0,.slice y.A y.ps.length y.c,.pointer (D (I y.sh 0 r)),J σ.busy,.slice y.G σ.gone.length y.d] 114*Q)))=>(⟨h.right.cell 0,h.right.cell 1⟩:w'.cell? (I b 0 r)=D (.pointer (D (I y.f 0 r)))∧w'.cell? (I b 1 r)=D (j o 0)));clear hy h;generalize dr σ.s 0=L at*
 go_enter func21,ntmps21;go_upto_region 1 with fail;go_region_held3 (fun w'=>w'.cell? (I b 0 r)=D (.pointer (D (I y.f 0 r)))∧w'.cell? (I b 1 r)=D (j o 0)) (first|(with_reducible exact HK.out _ _ _ hd)|(with_reducible exact HK.out _ _ _ h5.a2)|go_keep) (first|(go_at_call 73;(with_reducible refine(HL.out _ _ hd).mono ?_);rintro e w5 ⟨A,c,rfl,h5,x5⟩))
 all_goals
  go_wp2_with fail
  go_ret;exact⟨A,c,rfl,(HS.out w5 (bO (.slice A L.length c) L*R) (h5.eq (by unfold co;ac_rfl))).p2,xd.trans x5⟩
end
section
variable (b:Nat) (σ:Sc) (R:ab) (w:U) (h:N w (aw b σ*R))
include h
end
section
variable (b:Nat) (σ:Sc) (R:ab) (w:U) (h:N w (aw b σ*R))
include h
set_option maxHeartbeats 2000000 in
theorem yu(k:Int):Z prog 19 #[.pointer (D (I b 0 r)),j o k] w (Pure (.tuple #[.agg #[j o (σ.acc k).page,j o (σ.acc k).kind,J (σ.acc k).user],J (σ.on k)]) w):=by
 obtain⟨y,hy,h⟩:=dz h;unfold co at h;have h0:=(aT w).new #[j o 0,j o 0,J C] 41;have x0:=(Ext.refl w).alloc (.cells #[j o 0,j o 0,J C] 41);have g0:=h.alloc (.cells #[j o 0,j o 0,J C] 41);have cl:b< (w.alloc (.cells #[j o 0,j o 0,J C] 41)).heap.size :=g0.lt;obtain⟨c0,c1,c2,c3,c4,c5⟩:=g0.cells6;clear h;by_cases hk:0≤k∧k<σ.cs.length
 case neg=>
  have hon:σ.on k=C:=by
   unfold Sc.on;by_cases h0:0≤k
   ·rw[decide_eq_false (show¬k< (σ.cs.length:Int) from fun hh=>hk ⟨h0,hh⟩)];simp
   ·rw[decide_eq_false h0];rfl
  have hac:σ.acc k=Ac.zero:=by unfold Sc.acc;rw[hon];rfl
  rw[hon,hac];clear hon hac g0;rw[←hy] at hk;clear hy;obtain⟨z0,z1,z2⟩:=h0.cells3;obtain⟨f0,f1,f2⟩:=h0.frees3;have zl:=h0.lt;by_cases hk0:k<0
  ·clear hk
   go_enter func19,ntmps19;go_wp2_with fail
   refine ak (fun wz=>N wz (aa w.heap.size #[j o 0,j o 0,J C] 41*(bS w w.heap.size))∧ad w wz) ⟨by first|(with_reducible exact h0)|(with_reducible exact h0.set3 _ _ _),ah⟩ ?_;rintro wz ⟨hz,xz⟩;exact Y (av results19 rfl rfl (fz hz)) rfl ⟨rfl,aq hz.right xz⟩
  ·have hkl:(y.ps.length:Int)≤k:=by omega
   clear hk;go_enter func19,ntmps19;go_wp2_with fail
   refine ak (fun wz=>N wz (aa w.heap.size #[j o 0,j o 0,J C] 41*(bS w w.heap.size))∧ad w wz) ⟨by first|(with_reducible exact h0)|(with_reducible exact h0.set3 _ _ _),ah⟩ ?_;rintro wz ⟨hz,xz⟩;exact Y (av results19 rfl rfl (fz hz)) rfl ⟨rfl,aq hz.right xz⟩
 case pos=>
  obtain⟨hk0,hkl⟩:=hk;obtain⟨k,rfl⟩:=T hk0;have hkn:k<σ.cs.length:=by omega
  have hkp:k<y.ps.length:=by omega
  obtain⟨Q,eQ,_⟩:=ke (O hkp) (Safe.at_core hkn);rw[eQ] at g0;obtain⟨bA,hA,lA,cA⟩:=iR g0.right (O hkp);have hon:σ.on k=(σ.core k).k.on :=by
   unfold Sc.on;rw[decide_eq_true hk0,decide_eq_true hkl];simp
  have hac:σ.acc k=if(σ.core k).k.on =S then(σ.core k).k.a else Ac.zero:=by unfold Sc.acc;rw[hon];simp
  have hcr:=g0.right.r3.a1;have HB:=K (rI y.ps[k] _ 0 _ _ _ hcr);have HA:=K (tJ y.ps[k] _ 0 _ _ _ hcr);rw[hon,hac];have hkl':(k:Int)<y.ps.length:=by omega
  have h0d:=h0;generalize y.ps[k]=p at*
  generalize (σ.core k).k =ck at*
  rw[hA] at c2;clear hon hac g0 eQ hcr hy hkl hkn;obtain⟨z0,z1,z2⟩:=h0.cells3;obtain⟨f0,f1,f2⟩:=h0.frees3;have zl:=h0.lt;cases hn:ck.on with
  |false=>
   rw[hn] at HB;rw[if_neg (by simp)];clear hn;go_enter func19,ntmps19;go_wp2_with(refine HB.out.mono ?_;rintro e w2 ⟨rfl,rfl⟩)
   refine ak (fun wz=>N wz (aa w.heap.size #[j o 0,j o 0,J C] 41*(bS w w.heap.size))∧ad w wz) ⟨by first|(with_reducible exact h0)|(with_reducible exact h0.set3 _ _ _),ah⟩ ?_;rintro wz ⟨hz,xz⟩;exact Y (av results19 rfl rfl (fz hz)) rfl ⟨rfl,aq hz.right xz⟩
  |true=>
   rw[hn] at HB;rw[if_pos rfl];clear hn;go_enter func19,ntmps19;go_wp2_with(refine HB.out.mono ?_;rintro e w2 ⟨rfl,hwz⟩;subst hwz)
   refine HA.out.mono ?_;rintro e w2 ⟨rfl,b2⟩;have g2:=h0.below b2;have x2:=x0.below b2;clear h0 x0 z0 z1 z2 f0 f1 f2 zl h0d c0 c1 c2 c3 c4 c5 cl cA lA;obtain⟨z0,z1,z2⟩:=g2.cells3;obtain⟨f0,f1,f2⟩:=g2.frees3;have zl:=g2.lt;go_wp2_with fail
   refine ak (fun wz=>N wz (aa w.heap.size #[j o ck.a.page,j o ck.a.kind,J ck.a.user] 41*(bS w w.heap.size))∧ad w wz) ⟨g2.set3 _ _ _,ah⟩ ?_;rintro wz ⟨hz,xz⟩;exact Y (av results19 rfl rfl (fz hz)) rfl ⟨rfl,aq hz.right xz⟩
end
theorem l7(A:Option Addr)(n c:Nat)(jy:Int)(w:U):Z prog 12 #[.slice A n c,j o jy] w (Same (J (decide (jy<n))) w):=by
 by_cases hm:jy<n
 ·rw[decide_eq_true hm]
  go_enter func12,ntmps12;go_wp2_with fail
  go_ret;exact⟨rfl,rfl⟩
 ·rw[decide_eq_false hm]
  go_enter func12,ntmps12;go_wp2_with fail
  go_ret;exact⟨rfl,rfl⟩
theorem Safe.calm{σ:Sc}{P:List Mp}(h:Safe σ P)(hb:σ.busy=C):dY σ.wait=S:=by
 have:=(h.quiet hb).2;unfold dY;simp[this]
theorem pR{P:Program}{fn:Func}{tmps:Array Value}{w:U}{a b:Nat}{t u:TypeId}{p q:Addr}{v x:Value}(hr:fn.results= #[.cell a t,.cell b u])(ha:tmps.getD a undef= .pointer (D p))(hb:tmps.getD b undef= .pointer (D q))
  (hl:(loadVar t p).run P w= .ok v w) (hl2:(loadVar u q).run P w= .ok x w):(results fn tmps).run P w= .ok (.tuple #[v,x]) w:=by
 unfold results;rw[hr];simp only[Array.getD_eq_getD_getElem?] at ha hb;simp[asAddr,ha,hb,hl,hl2]
theorem ul{σ:Sc}(h:σ.Ok)(k:Int):cL (σ.acc k).page :=by
 unfold Sc.acc;split
 ·rename_i hon
  have hon':(σ.core k.toNat).k.on =S:=by
   unfold Sc.on at hon;simp at hon;exact hon.2.2
  obtain⟨a,b⟩:=eD ((Sc.core_ok h k.toNat).2.acc hon');unfold cL;omega
 ·unfold Ac.zero cL
  dsimp only;omega
theorem oQ(G:Option Addr){c k:Nat}{l:List Int}{R:ab}{w:U}(h:N w (ao (.slice G l.length c) l*R))(hk:k<l.length)(v:Int):
  ∃g,G=D (I g 0 r)∧g<w.heap.size∧w.cell? (I g k r)=D (j o l[k])∧w.frozen? (I g k r)=C∧N (w.setCell (I g k r) (j o v)) (ao (.slice G l.length c) (l.set k v)*R):=by
 obtain⟨g,e,hb,hc,hf⟩:=Has.rowGet (e:=3) (size:=1) h (i:=k) (u:=j o l[k]) (by simp[hk]);subst e;refine⟨g,rfl,hb,hc,hf,?_⟩;have:=Has.rowSet (e:=3) (size:=1) h (i:=k) (by omega) (j o v);unfold ao;rw[List.length_set,List.map_set];exact this
set_option maxHeartbeats 8000000 in
theorem yn(b sp:Nat)(W:Wc)(P:List Mp)(x:Stp)(hW:W.Ok P)(hx:x.ok)(hH:W.H.length≤999999)(R:ab)(w:U)(h:N w (aZ b sp W.H W.f W.since*(aw sp W.σ*R))):
  Z prog 37 #[.pointer (D (I b 0 r)),.agg #[j o x.kind,j o x.core,j o x.m.page,j o x.m.size,j o x.m.frame,j o x.m.rights,j o x.a.page,j o x.a.kind,J x.a.user]] w
   (cI (.tuple #[(W.act x).2.val,.agg #[j o 0,j o 0]]) (aZ b sp (W.act x).1.H (W.act x).1.f (W.act x).1.since*(aw sp (W.act x).1.σ*R)) w):=by
 have hN:=K (hW.act x);have hRt:=K (hW.right x);have hFR:=K (hW.safe.fin_right x);have HON:=K (fun R w h=>yu sp W.σ R w h x.core);have HDO:=K (fun R w h=>yt sp W.σ x hW.safe.ok hW.safe.calm hx R w h);have hLast:=K hW.hist;have hAI:=K (fun h hc=>vx (σ:=W.σ) (x:=x) h hc);have hAc:=K (ul hW.safe.ok x.core);have hLen:=K hW.len;have hxo:=K hx;unfold Wc.from_ at hRt;unfold Wc.act at hN⊢;unfold rc at hRt;unfold Ev.val at HDO⊢;dsimp only at hN⊢;clear hW hx;obtain⟨σ,H,f,since⟩:=W;unfold Wc.sinceN at*
 dsimp only at*
 generalize σ.acc x.core=ac at*
 generalize σ.on x.core=on at*
 generalize hq:σ.act x=q at*
 obtain⟨σ2,⟨ec,ef,⟨ea,eb,er⟩,ek⟩⟩:=q;dsimp only at*
 clear hq;generalize hH2:cJ H x ⟨ec,ef,⟨ea,eb,er⟩,ek⟩=H2 at*
 generalize hF2:eo f H2 ⟨ec,ef,⟨ea,eb,er⟩,ek⟩=f2 at*
 generalize hS2:(if ec=0∧x.kind=4 then since.set x.core.toNat f else since)=S2 at*
 have hHl:Hid (H2.length≤1000000∧(ef=S→H2=H)):=K ⟨by rw[←hH2];unfold cJ;split;exact(by rw[List.length_append];show H.length+1≤1000000;omega);omega,fun he=>by rw[←hH2];exact Wc.hist_same (by have:=(hFR.out he).1;omega)⟩;have hSL:Hid (S2.length=σ.cs.length):=K (by rw[←hLen.out,←hS2];split<;>simp);replace hH2:=K hH2;replace hF2:=K hF2;replace hS2:=K hS2;have h0:N _ (aZ b sp H f since*(aw sp σ*(aa w.heap.size #[j o x.kind,j o x.core,j o x.m.page,j o x.m.size,j o x.m.frame,j o x.m.rights,j o x.a.page,j o x.a.kind,J x.a.user] 43*(aa (w.heap.size+1) #[j o 0,J C,j o 0,j o 0,j o 0,J C] 36*(aa (w.heap.size+2) #[j o 0,j o 0] 27*R))))):=(((h.new #[j o x.kind,j o x.core,j o x.m.page,j o x.m.size,j o x.m.frame,j o x.m.rights,j o x.a.page,j o x.a.kind,J x.a.user] 43).new #[j o 0,J C,j o 0,j o 0,j o 0,J C] 36).new #[j o 0,j o 0] 27).eq (by simp only[World.size_alloc]<;>ac_rfl);have x0:=(((Ext.refl w).alloc (.cells #[j o x.kind,j o x.core,j o x.m.page,j o x.m.size,j o x.m.frame,j o x.m.rights,j o x.a.page,j o x.a.kind,J x.a.user] 43)).alloc (.cells #[j o 0,J C,j o 0,j o 0,j o 0,J C] 36)).alloc (.cells #[j o 0,j o 0] 27);clear h;obtain⟨kx,cx,mx,ax⟩:=x;dsimp only at*
 go_enter func37,ntmps37;go_upto_region 1 with fail;generalize ((w.alloc (.cells #[j o kx,j o cx,j o mx.page,j o mx.size,j o mx.frame,j o mx.rights,j o ax.page,j o ax.kind,J ax.user] 43)).alloc (.cells #[j o 0,J C,j o 0,j o 0,j o 0,J C] 36)).alloc (.cells #[j o 0,j o 0] 27)=w1 at*
 generalize w.heap.size+2=F at*
 generalize w.heap.size+1=E at*
 generalize w.heap.size=X at*
 have HK:=K (fun(w':U) (R':ab) (σ':Sc) (h:N w' (aZ b sp H f since*(aw sp σ'*(aa X #[j o kx,j o cx,j o mx.page,j o mx.size,j o mx.frame,j o mx.rights,j o ax.page,j o ax.kind,J ax.user] 43*R'))))=>(by
  obtain⟨c0,c1,c2,c3,c4,c5,c6,c7,c8⟩:=h.right.right.cells9;exact⟨(gh h).2,c0,c1,c2,c3,c4,c5,c6,c7,c8⟩:w'.cell? (I b 0 r)=D (.pointer (D (I sp 0 r)))∧w'.cell? (I X 0 r)=D (j o kx)∧w'.cell? (I X 1 r)=D (j o cx)∧w'.cell? (I X 2 r)=D (j o mx.page)∧w'.cell? (I X 3 r)=D (j o mx.size)∧w'.cell? (I X 4 r)=D (j o mx.frame)∧w'.cell? (I X 5 r)=D (j o mx.rights)∧w'.cell? (I X 6 r)=D (j o ax.page)∧w'.cell? (I X 7 r)=D (j o ax.kind)∧w'.cell? (I X 8 r)=D (J ax.user)))
 have bl:=(gh h0).1;have xl:=h0.right.right.lt;go_cut [6,7] from 10 to 19 (fun s6 s7 wx=>∃M:Nat,s6= .pointer (D (I M 0 r))∧s7=J on∧N wx (aa M #[j o ac.page,j o ac.kind,J ac.user] 41*(aZ b sp H f since*(aw sp σ*(aa X #[j o kx,j o cx,j o mx.page,j o mx.size,j o mx.frame,j o mx.rights,j o ax.page,j o ax.kind,J ax.user] 43*(aa E #[j o 0,J C,j o 0,j o 0,j o 0,J C] 36*(aa F #[j o 0,j o 0] 27*R))))))∧ad w wx)
 case first=>
  clear hN hRt hFR HDO hLast hLen hxo;have hd:=h0.drew;have xd:=x0.drew;have zd:N (w1.alloc (.cells #[j o 0,j o 0,J C] 41)).drew (aa w1.heap.size #[j o 0,j o 0,J C] 41*(aZ b sp H f since*(aw sp σ*(aa X #[j o kx,j o cx,j o mx.page,j o mx.size,j o mx.frame,j o mx.rights,j o ax.page,j o ax.kind,J ax.user] 43*(aa E #[j o 0,J C,j o 0,j o 0,j o 0,J C] 36*(aa F #[j o 0,j o 0] 27*R)))))):=(h0.new #[j o 0,j o 0,J C] 41).drew;have yd:ad w (w1.alloc (.cells #[j o 0,j o 0,J C] 41)).drew :=(x0.alloc _).drew;go_region_held3 (fun w'=>w'.cell? (I b 0 r)=D (.pointer (D (I sp 0 r)))∧w'.cell? (I X 0 r)=D (j o kx)∧w'.cell? (I X 1 r)=D (j o cx)∧w'.cell? (I X 2 r)=D (j o mx.page)∧w'.cell? (I X 3 r)=D (j o mx.size)∧w'.cell? (I X 4 r)=D (j o mx.frame)∧w'.cell? (I X 5 r)=D (j o mx.rights)∧w'.cell? (I X 6 r)=D (j o ax.page)∧w'.cell? (I X 7 r)=D (j o ax.kind)∧w'.cell? (I X 8 r)=D (J ax.user)) (first|(with_reducible exact HK.out _ _ _ hd)|(with_reducible exact HK.out _ _ _ zd.right)|(with_reducible exact HK.out _ _ _ hL)|(with_reducible exact HK.out _ _ _ (hL.alloc _))|(with_reducible exact HK.out _ _ _ gL.right)|(with_reducible exact HK.out _ _ _ gM.right)|go_keep)
   (first
    |(go_at_call 19;(with_reducible refine(HON.out _ _ hd.p2).mono ?_);rintro e w5 ⟨rfl,b5⟩;have hL:=hd.below b5;have xL:=xd.below b5)
    |(go_at_call 19;(with_reducible refine(HON.out _ _ zd.right.p2).mono ?_);rintro e w5 ⟨rfl,b5⟩;have gL:=zd.below b5;have yL:=yd.below b5;obtain⟨y0,y1,y2⟩:=gL.frees3;obtain⟨z0,z1,z2⟩:=gL.cells3;have zl:=gL.lt;have gM:=gL.set3 (j o ac.page) (j o ac.kind) (J ac.user)))
  all_goals
   go_wp2_with fail
   go_meet
   case rel=>first|exact⟨_,rfl,rfl,hL.new #[j o ac.page,j o ac.kind,J ac.user] 41,xL.alloc _⟩|exact⟨_,rfl,rfl,gM,((yL.set _ _).set _ _).set _ _⟩
 case rest=>
  obtain⟨M,rfl,rfl,h1,x1⟩:=hcut;clear h0 x0 HON;have h2:N wc (aZ b sp H f since*(aw sp σ*(aa X #[j o kx,j o cx,j o mx.page,j o mx.size,j o mx.frame,j o mx.rights,j o ax.page,j o ax.kind,J ax.user] 43*(aa M #[j o ac.page,j o ac.kind,J ac.user] 41*(aa E #[j o 0,J C,j o 0,j o 0,j o 0,J C] 36*(aa F #[j o 0,j o 0] 27*R)))))):=h1.eq (by ac_rfl);clear h1;have bl:=(gh h2).1;have xl:=h2.right.right.lt;go_upto_region 2 with fail;go_cut [8] from 20 to 25 (fun s8 wx=>∃V:Nat,s8= .pointer (D (I V 0 r))∧N wx (aa V #[j o ec,J ef,j o ea,j o eb,j o er,J ek] 36*(aZ b sp H f since*(aw sp σ2*(aa X #[j o kx,j o cx,j o mx.page,j o mx.size,j o mx.frame,j o mx.rights,j o ax.page,j o ax.kind,J ax.user] 43*(aa M #[j o ac.page,j o ac.kind,J ac.user] 41*(aa E #[j o 0,J C,j o 0,j o 0,j o 0,J C] 36*(aa F #[j o 0,j o 0] 27*R)))))))∧ad w wx)
  case first=>
   clear hN hRt hFR hLast hLen hxo;have hd:=h2.drew;have xd:=x1.drew;have zd:N (wc.alloc (.cells #[j o 0,J C,j o 0,j o 0,j o 0,J C] 36)).drew (aa wc.heap.size #[j o 0,J C,j o 0,j o 0,j o 0,J C] 36*(aZ b sp H f since*(aw sp σ*(aa X #[j o kx,j o cx,j o mx.page,j o mx.size,j o mx.frame,j o mx.rights,j o ax.page,j o ax.kind,J ax.user] 43*(aa M #[j o ac.page,j o ac.kind,J ac.user] 41*(aa E #[j o 0,J C,j o 0,j o 0,j o 0,J C] 36*(aa F #[j o 0,j o 0] 27*R))))))):=(h2.new #[j o 0,J C,j o 0,j o 0,j o 0,J C] 36).drew;have yd:ad w (wc.alloc (.cells #[j o 0,J C,j o 0,j o 0,j o 0,J C] 36)).drew :=(x1.alloc _).drew;go_region_held3 (fun w'=>w'.cell? (I b 0 r)=D (.pointer (D (I sp 0 r)))∧w'.cell? (I X 0 r)=D (j o kx)∧w'.cell? (I X 1 r)=D (j o cx)∧w'.cell? (I X 2 r)=D (j o mx.page)∧w'.cell? (I X 3 r)=D (j o mx.size)∧w'.cell? (I X 4 r)=D (j o mx.frame)∧w'.cell? (I X 5 r)=D (j o mx.rights)∧w'.cell? (I X 6 r)=D (j o ax.page)∧w'.cell? (I X 7 r)=D (j o ax.kind)∧w'.cell? (I X 8 r)=D (J ax.user)) (first|(with_reducible exact HK.out _ _ _ hd)|(with_reducible exact HK.out _ _ _ zd.right)|(with_reducible exact HK.out _ _ _ hL)|(with_reducible exact HK.out _ _ _ (hL.alloc _))|(with_reducible exact HK.out _ _ _ gL.right)|(with_reducible exact HK.out _ _ _ gM.right)|go_keep)
    (first
     |(go_at_call 16;(with_reducible refine(HDO.out _ _ hd.p2).mono ?_);rintro e w5 ⟨rfl,h5,x5⟩;have hL:=h5.p2;have xL:=xd.trans x5)
     |(go_at_call 16;(with_reducible refine(HDO.out _ _ (zd.eq (show _=aw sp σ*(aa wc.heap.size #[j o 0,J C,j o 0,j o 0,j o 0,J C] 36*(aZ b sp H f since*(aa X #[j o kx,j o cx,j o mx.page,j o mx.size,j o mx.frame,j o mx.rights,j o ax.page,j o ax.kind,J ax.user] 43*(aa M #[j o ac.page,j o ac.kind,J ac.user] 41*(aa E #[j o 0,J C,j o 0,j o 0,j o 0,J C] 36*(aa F #[j o 0,j o 0] 27*R)))))) by ac_rfl))).mono ?_);rintro e w5 ⟨rfl,h5,x5⟩;have gL:N w5 (aa wc.heap.size #[j o 0,J C,j o 0,j o 0,j o 0,J C] 36*(aZ b sp H f since*(aw sp σ2*(aa X #[j o kx,j o cx,j o mx.page,j o mx.size,j o mx.frame,j o mx.rights,j o ax.page,j o ax.kind,J ax.user] 43*(aa M #[j o ac.page,j o ac.kind,J ac.user] 41*(aa E #[j o 0,J C,j o 0,j o 0,j o 0,J C] 36*(aa F #[j o 0,j o 0] 27*R))))))):=h5.eq (by ac_rfl);have yL:=yd.trans x5;obtain⟨y0,y1,y2,y3,y4,y5⟩:=gL.frees6;obtain⟨z0,z1,z2,z3,z4,z5⟩:=gL.cells6;have zl:=gL.lt;have gM:=gL.set6 (j o ec) (J ef) (j o ea) (j o eb) (j o er) (J ek)))
   all_goals
    go_wp2_with fail
    go_meet
    case rel=>first|exact⟨_,rfl,hL.new #[j o ec,J ef,j o ea,j o eb,j o er,J ek] 36,xL.alloc _⟩|exact⟨_,rfl,gM,(((((yL.set _ _).set _ _).set _ _).set _ _).set _ _).set _ _⟩
  case rest=>
   obtain⟨V,rfl,h3,x3⟩:=hcut;clear h2 x1 HDO HK bl xl;go_upto_block 0 with fail
   have h4:N wc (aZ b sp H f since*(aw sp σ2*(aa X #[j o kx,j o cx,j o mx.page,j o mx.size,j o mx.frame,j o mx.rights,j o ax.page,j o ax.kind,J ax.user] 43*(aa V #[j o ec,J ef,j o ea,j o eb,j o er,J ek] 36*(aa M #[j o ac.page,j o ac.kind,J ac.user] 41*(aa E #[j o 0,J C,j o 0,j o 0,j o 0,J C] 36*(aa F #[j o 0,j o 0] 27*R))))))):=h3.eq (by ac_rfl);clear h3;have bl:=(gh h4).1;obtain⟨e0,e1,e2,e3,e4,e5⟩:=h4.r3.cells6;have el:=h4.r3.lt;obtain⟨c0,c1,c2,c3,c4,c5,c6,c7,c8⟩:=h4.right.right.cells9;have xl:=h4.right.right.lt;go_cut [7,9] from 26 to 67 (fun s7 s9 wx=>∃(a2:Ac) (on2:Bool),s7=J on2∧s9=J S∧Hid (cL a2.page∧(ef=S→a2=(if kx=4 then ax else ac)∧on2=S))∧N wx (aZ b sp H2 f S2*(aw sp σ2*(aa X #[j o kx,j o cx,j o mx.page,j o mx.size,j o mx.frame,j o mx.rights,j o ax.page,j o ax.kind,J ax.user] 43*(aa V #[j o ec,J ef,j o ea,j o eb,j o er,J ek] 36*(aa M #[j o a2.page,j o a2.kind,J a2.user] 41*(aa E #[j o 0,J C,j o 0,j o 0,j o 0,J C] 36*(aa F #[j o 0,j o 0] 27*R)))))))∧ad w wx)
   case first=>
    clear hRt hF2;by_cases q0:ec=0
    ·replace hAI:=hAI.out
     subst q0;by_cases q13:1≤kx∧kx≤3
     ·
      obtain⟨k1,k3⟩:=q13;have hSe:S2=since:=hS2.out.symm.trans (if_neg (fun hc=>by omega));subst hSe;have hHn:H2=H++[cQ (H.getLastD []) ⟨kx,cx,mx,ax⟩ 0]:=by rw[←hH2.out];unfold cJ;rw[if_pos ⟨rfl,k1,k3⟩]
      have HCH:Hid (∀R w,N w (aZ b sp H f S2*R)→Z prog 82 #[.pointer (D (I b 0 r)),.agg #[j o kx,j o cx,j o mx.page,j o mx.size,j o mx.frame,j o mx.rights,j o ax.page,j o ax.kind,J ax.user]] w (cI (.tuple #[]) (aZ b sp H2 f S2*R) w)):=
       K (fun R w h=>by rw[hHn];exact uf b sp H f S2 ⟨kx,cx,mx,ax⟩ (dr σ.s 0) ⟨k1,k3⟩ hxo.out hLast.out.last (hLast.out.ok _ (List.mem_of_getLast? hLast.out.last)) (by omega) R w h)
      obtain⟨kk,hk,hkL,-⟩:=pO hN.out.hist.last;have hLo:=hN.out.hist.ok _ (List.mem_of_getLast? hN.out.hist.last);have HLS:=K (fun R w h=>uP sp σ2 hN.out.safe.wf R w h);have hfin:Hid (cL ac.page∧(ef=S→ac=(if kx=4 then ax else ac)∧on=S)):=K ⟨hAc.out,fun he=>by have:=(hFR.out he).1;omega⟩;generalize dr σ2.s 0=L at*
      have n4:(kx==4)=C:=by simp;omega
      have HLB:=K (fun p R w h=>uE p L R w (by have:=hLo.le;omega) h);have HE:=K (fun A n c B n' c' R w h=>vz L A B n c n' c' R w h);clear hH2 hS2 hN hFR hLast hAI hAc hxo hLen hHn hLo;go_wp2_with fail
      refine(HCH.out _ _ h4).mono ?_;rintro e w5 ⟨rfl,h5,x5⟩;have x6:=x3.trans x5;clear h4 x3 x5 HCH bl e0 e1 e2 e3 e4 e5 el c0 c1 c2 c3 c4 c5 c6 c7 c8 xl;obtain⟨y,hy,h6⟩:=dU h5;have HSH:=K (fun(w':U) (R':ab) (h:N w' (cN b sp H2 f S2 y R'))=>eF hy h);obtain⟨p,hp⟩:∃p,y.bs[kk]? =D p:=⟨_,O (show kk<y.bs.length by omega)⟩;obtain⟨Q,hQ⟩:=km hp hkL;have HLW:=K (fun R w h=>uN b sp H2 f S2 y p kk hk hy hp R w h);have HB:=K hQ;unfold cN at HSH HLW h6;clear hp hQ hkL hk hy h5;have HK7:=K (fun(w':U) (R':ab) (h:N w' (aa b #[.pointer (D (I sp 0 r)),.slice y.A y.bs.length y.c,j o f,.slice y.G S2.length y.d,j o 0,j o 0,j o y.z] 82*R'))=>(by exact h.cell 0:w'.cell? (I b 0 r)=D (.pointer (D (I sp 0 r)))));have bl:=h6.lt;go_upto_region 7 with fail;have hd:N w5.drew (aa b #[.pointer (D (I sp 0 r)),.slice y.A y.bs.length y.c,j o f,.slice y.G S2.length y.d,j o 0,j o 0,j o y.z] 82*(dt (.slice y.A y.bs.length y.c) y.bs*(ao (.slice y.G S2.length y.d) S2*(bc y.bs H2*(aw sp σ2*(aa X #[j o kx,j o cx,j o mx.page,j o mx.size,j o mx.frame,j o mx.rights,j o ax.page,j o ax.kind,J ax.user] 43*(aa V #[j o 0,J ef,j o ea,j o eb,j o er,J ek] 36*(aa M #[j o ac.page,j o ac.kind,J ac.user] 41*(aa E #[j o 0,J C,j o 0,j o 0,j o 0,J C] 36*(aa F #[j o 0,j o 0] 27*R)))))))))):=h6.drew;have xd:=x6.drew;clear h6 x6;go_region_held3 (fun w'=>w'.cell? (I b 0 r)=D (.pointer (D (I sp 0 r)))) (first|(with_reducible exact HK7.out _ _ hd)|(with_reducible exact HK7.out _ _ hP)|(with_reducible exact HK7.out _ _ hs.right)|(with_reducible exact HK7.out _ _ hPS.right)|(with_reducible exact HK7.out _ _ hB.right)|(with_reducible exact HK7.out _ _ hF.right.right)|(with_reducible exact HK7.out _ _ hQ.right.right)|go_keep)
       (first
        |(go_at_call 84;(with_reducible refine(HLW.out _ _ hd).mono ?_);rintro e w7 ⟨rfl,b7⟩;have hP:=hd.below b7;have xP:=xd.below b7)
        |(go_at_call 84;(with_reducible refine(HLW.out _ _ hs.right).mono ?_);rintro e w7 ⟨rfl,b7⟩;have hPS:=hs.below b7;have xPS:=xs.below b7)
        |(go_at_call 21;(with_reducible refine(HLS.out _ _ (hd.eq (show _=aw sp σ2*(aa b #[.pointer (D (I sp 0 r)),.slice y.A y.bs.length y.c,j o f,.slice y.G S2.length y.d,j o 0,j o 0,j o y.z] 82*(dt (.slice y.A y.bs.length y.c) y.bs*(ao (.slice y.G S2.length y.d) S2*(bc y.bs H2*(aa X #[j o kx,j o cx,j o mx.page,j o mx.size,j o mx.frame,j o mx.rights,j o ax.page,j o ax.kind,J ax.user] 43*(aa V #[j o 0,J ef,j o ea,j o eb,j o er,J ek] 36*(aa M #[j o ac.page,j o ac.kind,J ac.user] 41*(aa E #[j o 0,J C,j o 0,j o 0,j o 0,J C] 36*(aa F #[j o 0,j o 0] 27*R))))))))) by ac_rfl))).mono ?_);rintro e w7 ⟨A3,c3,rfl,h7,x7⟩;have hs:N w7 (bO (.slice A3 L.length c3) L*(aa b #[.pointer (D (I sp 0 r)),.slice y.A y.bs.length y.c,j o f,.slice y.G S2.length y.d,j o 0,j o 0,j o y.z] 82*(dt (.slice y.A y.bs.length y.c) y.bs*(ao (.slice y.G S2.length y.d) S2*(bc y.bs H2*(aw sp σ2*(aa X #[j o kx,j o cx,j o mx.page,j o mx.size,j o mx.frame,j o mx.rights,j o ax.page,j o ax.kind,J ax.user] 43*(aa V #[j o 0,J ef,j o ea,j o eb,j o er,J ek] 36*(aa M #[j o ac.page,j o ac.kind,J ac.user] 41*(aa E #[j o 0,J C,j o 0,j o 0,j o 0,J C] 36*(aa F #[j o 0,j o 0] 27*R))))))))))):=h7.eq (by ac_rfl);have xs:=xd.trans x7)
        |(go_at_call 21;(with_reducible refine(HLS.out _ _ (hP.eq (show _=aw sp σ2*(aa b #[.pointer (D (I sp 0 r)),.slice y.A y.bs.length y.c,j o f,.slice y.G S2.length y.d,j o 0,j o 0,j o y.z] 82*(dt (.slice y.A y.bs.length y.c) y.bs*(ao (.slice y.G S2.length y.d) S2*(bc y.bs H2*(aa X #[j o kx,j o cx,j o mx.page,j o mx.size,j o mx.frame,j o mx.rights,j o ax.page,j o ax.kind,J ax.user] 43*(aa V #[j o 0,J ef,j o ea,j o eb,j o er,J ek] 36*(aa M #[j o ac.page,j o ac.kind,J ac.user] 41*(aa E #[j o 0,J C,j o 0,j o 0,j o 0,J C] 36*(aa F #[j o 0,j o 0] 27*R))))))))) by ac_rfl))).mono ?_);rintro e w7 ⟨A3,c3,rfl,h7,x7⟩;have hPS:N w7 (bO (.slice A3 L.length c3) L*(aa b #[.pointer (D (I sp 0 r)),.slice y.A y.bs.length y.c,j o f,.slice y.G S2.length y.d,j o 0,j o 0,j o y.z] 82*(dt (.slice y.A y.bs.length y.c) y.bs*(ao (.slice y.G S2.length y.d) S2*(bc y.bs H2*(aw sp σ2*(aa X #[j o kx,j o cx,j o mx.page,j o mx.size,j o mx.frame,j o mx.rights,j o ax.page,j o ax.kind,J ax.user] 43*(aa V #[j o 0,J ef,j o ea,j o eb,j o er,J ek] 36*(aa M #[j o ac.page,j o ac.kind,J ac.user] 41*(aa E #[j o 0,J C,j o 0,j o 0,j o 0,J C] 36*(aa F #[j o 0,j o 0] 27*R))))))))))):=h7.eq (by ac_rfl);have xPS:=xP.trans x7)
        |(go_at_call 21;(with_reducible refine(HLS.out _ _ (hB.eq (show _=aw sp σ2*(bO (.slice A4 n4' c4') L*(aa b #[.pointer (D (I sp 0 r)),.slice y.A y.bs.length y.c,j o f,.slice y.G S2.length y.d,j o 0,j o 0,j o y.z] 82*(dt (.slice y.A y.bs.length y.c) y.bs*(ao (.slice y.G S2.length y.d) S2*(bc y.bs H2*(aa X #[j o kx,j o cx,j o mx.page,j o mx.size,j o mx.frame,j o mx.rights,j o ax.page,j o ax.kind,J ax.user] 43*(aa V #[j o 0,J ef,j o ea,j o eb,j o er,J ek] 36*(aa M #[j o ac.page,j o ac.kind,J ac.user] 41*(aa E #[j o 0,J C,j o 0,j o 0,j o 0,J C] 36*(aa F #[j o 0,j o 0] 27*R)))))))))) by ac_rfl))).mono ?_);rintro e w7 ⟨A3,c3,rfl,h7,x7⟩;have hF:N w7 (bO (.slice A4 n4' c4') L*(bO (.slice A3 L.length c3) L*(aa b #[.pointer (D (I sp 0 r)),.slice y.A y.bs.length y.c,j o f,.slice y.G S2.length y.d,j o 0,j o 0,j o y.z] 82*(dt (.slice y.A y.bs.length y.c) y.bs*(ao (.slice y.G S2.length y.d) S2*(bc y.bs H2*(aw sp σ2*(aa X #[j o kx,j o cx,j o mx.page,j o mx.size,j o mx.frame,j o mx.rights,j o ax.page,j o ax.kind,J ax.user] 43*(aa V #[j o 0,J ef,j o ea,j o eb,j o er,J ek] 36*(aa M #[j o ac.page,j o ac.kind,J ac.user] 41*(aa E #[j o 0,J C,j o 0,j o 0,j o 0,J C] 36*(aa F #[j o 0,j o 0] 27*R)))))))))))):=h7.eq (by ac_rfl);have xF:=xB.trans x7)
        |(go_at_call 85;(with_reducible refine(HLB.out p _ _ (hP.eq (show _=bq p L*(Q*(aa b #[.pointer (D (I sp 0 r)),.slice y.A y.bs.length y.c,j o f,.slice y.G S2.length y.d,j o 0,j o 0,j o y.z] 82*(dt (.slice y.A y.bs.length y.c) y.bs*(ao (.slice y.G S2.length y.d) S2*(aw sp σ2*(aa X #[j o kx,j o cx,j o mx.page,j o mx.size,j o mx.frame,j o mx.rights,j o ax.page,j o ax.kind,J ax.user] 43*(aa V #[j o 0,J ef,j o ea,j o eb,j o er,J ek] 36*(aa M #[j o ac.page,j o ac.kind,J ac.user] 41*(aa E #[j o 0,J C,j o 0,j o 0,j o 0,J C] 36*(aa F #[j o 0,j o 0] 27*R)))))))))) by rw[HB.out];ac_rfl))).mono ?_);rintro e w7 ⟨A4,n4',c4',rfl,h7,x7⟩;have hB:N w7 (bO (.slice A4 n4' c4') L*(aa b #[.pointer (D (I sp 0 r)),.slice y.A y.bs.length y.c,j o f,.slice y.G S2.length y.d,j o 0,j o 0,j o y.z] 82*(dt (.slice y.A y.bs.length y.c) y.bs*(ao (.slice y.G S2.length y.d) S2*(bc y.bs H2*(aw sp σ2*(aa X #[j o kx,j o cx,j o mx.page,j o mx.size,j o mx.frame,j o mx.rights,j o ax.page,j o ax.kind,J ax.user] 43*(aa V #[j o 0,J ef,j o ea,j o eb,j o er,J ek] 36*(aa M #[j o ac.page,j o ac.kind,J ac.user] 41*(aa E #[j o 0,J C,j o 0,j o 0,j o 0,J C] 36*(aa F #[j o 0,j o 0] 27*R))))))))))):=hP.onto' h7;have xB:=xP.trans x7)
        |(go_at_call 85;(with_reducible refine(HLB.out p _ _ (hPS.eq (show _=bq p L*(bO (.slice A3 L.length c3) L*(Q*(aa b #[.pointer (D (I sp 0 r)),.slice y.A y.bs.length y.c,j o f,.slice y.G S2.length y.d,j o 0,j o 0,j o y.z] 82*(dt (.slice y.A y.bs.length y.c) y.bs*(ao (.slice y.G S2.length y.d) S2*(aw sp σ2*(aa X #[j o kx,j o cx,j o mx.page,j o mx.size,j o mx.frame,j o mx.rights,j o ax.page,j o ax.kind,J ax.user] 43*(aa V #[j o 0,J ef,j o ea,j o eb,j o er,J ek] 36*(aa M #[j o ac.page,j o ac.kind,J ac.user] 41*(aa E #[j o 0,J C,j o 0,j o 0,j o 0,J C] 36*(aa F #[j o 0,j o 0] 27*R))))))))))) by rw[HB.out];ac_rfl))).mono ?_);rintro e w7 ⟨A4,n4',c4',rfl,h7,x7⟩;have hF:N w7 (bO (.slice A4 n4' c4') L*(bO (.slice A3 L.length c3) L*(aa b #[.pointer (D (I sp 0 r)),.slice y.A y.bs.length y.c,j o f,.slice y.G S2.length y.d,j o 0,j o 0,j o y.z] 82*(dt (.slice y.A y.bs.length y.c) y.bs*(ao (.slice y.G S2.length y.d) S2*(bc y.bs H2*(aw sp σ2*(aa X #[j o kx,j o cx,j o mx.page,j o mx.size,j o mx.frame,j o mx.rights,j o ax.page,j o ax.kind,J ax.user] 43*(aa V #[j o 0,J ef,j o ea,j o eb,j o er,J ek] 36*(aa M #[j o ac.page,j o ac.kind,J ac.user] 41*(aa E #[j o 0,J C,j o 0,j o 0,j o 0,J C] 36*(aa F #[j o 0,j o 0] 27*R)))))))))))):=hPS.onto' h7;have xF:=xPS.trans x7)
        |(go_at_call 83;(with_reducible refine(HE.out A4 n4' c4' A3 _ c3 _ _ hF).mono ?_);rintro e w7 ⟨rfl,b7⟩;have hQ:=hF.below b7;have xQ:=xF.below b7))
      all_goals
       go_wp2_with fail
       go_meet
       case rel=>exact⟨ac,on,rfl,by first|rfl|simp,hfin,HSH.out _ _ hQ.right.right,xQ⟩
     by_cases q4:kx=4
     ·
      have hHe:H2=H:=hH2.out.symm.trans (Wc.hist_same q13);subst hHe;subst q4;obtain⟨hc0,hcl⟩:=hAI (by show(4:Int)≤4;omega) rfl;obtain⟨k,hk⟩:=T hc0;subst hk;have hkl:k<since.length:=by rw[hLen.out];omega
      have hkl':(k:Int)<since.length:=by omega
      have hk0:¬(k:Int)<0:=by omega
      have hSe:since.set k f=S2:=by have:=hS2.out;rw[if_pos ⟨rfl,rfl⟩] at this;exact this
      have hfin:Hid (cL ax.page∧(ef=S→ax=(if(4:Int)=4 then ax else ac)∧S=S)):=K ⟨hxo.out.2.2.2.1,fun _=>⟨(if_pos rfl).symm,rfl⟩⟩;clear hH2 hS2 hN hFR hLast hAI hAc hxo hLen q13 hc0 hcl;obtain⟨y,hy,h6⟩:=dU h4;have HSH:=K (fun(w':U) (R':ab) (h:N w' (cN b sp H2 f S2 y R'))=>eF hy h);unfold cN at h6 HSH;have h7:N wc (aa M #[j o ac.page,j o ac.kind,J ac.user] 41*(aa b #[.pointer (D (I sp 0 r)),.slice y.A y.bs.length y.c,j o f,.slice y.G since.length y.d,j o 0,j o 0,j o y.z] 82*(ao (.slice y.G since.length y.d) since*(dt (.slice y.A y.bs.length y.c) y.bs*(bc y.bs H2*(aw sp σ2*(aa X #[j o 4,j o k,j o mx.page,j o mx.size,j o mx.frame,j o mx.rights,j o ax.page,j o ax.kind,J ax.user] 43*(aa V #[j o 0,J ef,j o ea,j o eb,j o er,J ek] 36*(aa E #[j o 0,J C,j o 0,j o 0,j o 0,J C] 36*(aa F #[j o 0,j o 0] 27*R)))))))))):=h6.eq (by ac_rfl);clear h4 h6 hy;have ml:=h7.lt;obtain⟨m0,m1,m2⟩:=h7.cells3;obtain⟨f0,f1,f2',-⟩:=(⟨h7.free 0,h7.free 1,h7.free 2,trivial⟩:wc.frozen? (I M 0 r)=C∧wc.frozen? (I M 1 r)=C∧wc.frozen? (I M 2 r)=C∧True);have h8:=h7.set3 (j o ax.page) (j o ax.kind) (J ax.user);have x8:=((x3.set (I M 0 r) (j o ax.page)).set (I M 1 r) (j o ax.kind)).set (I M 2 r) (J ax.user);clear h7;go_upto_region 10 with fail;generalize ((wc.setCell (I M 0 r) (j o ax.page)).setCell (I M 1 r) (j o ax.kind)).setCell (I M 2 r) (J ax.user)=w8 at*
      clear ml m0 m1 m2 f0 f1 f2' x3 bl e0 e1 e2 e3 e4 e5 el c0 c1 c2 c3 c4 c5 c6 c7 c8 xl;have hd:N w8 (ao (.slice y.G since.length y.d) since*(aa b #[.pointer (D (I sp 0 r)),.slice y.A y.bs.length y.c,j o f,.slice y.G since.length y.d,j o 0,j o 0,j o y.z] 82*(aa X #[j o 4,j o k,j o mx.page,j o mx.size,j o mx.frame,j o mx.rights,j o ax.page,j o ax.kind,J ax.user] 43*(aa M #[j o ax.page,j o ax.kind,J ax.user] 41*(dt (.slice y.A y.bs.length y.c) y.bs*(bc y.bs H2*(aw sp σ2*(aa V #[j o 0,J ef,j o ea,j o eb,j o er,J ek] 36*(aa E #[j o 0,J C,j o 0,j o 0,j o 0,J C] 36*(aa F #[j o 0,j o 0] 27*R)))))))))):=h8.eq (by ac_rfl);obtain⟨g,hg,gl,gc,gf,gs⟩:=oQ y.G hd hkl f;have hdd:=hd.drew;have i1:w8.drew.cell? (I X 1 r)=D (j o k):=hdd.right.right.cell 1;have b2:w8.drew.cell? (I b 2 r)=D (j o f):=hdd.right.cell 2;have b3:w8.drew.cell? (I b 3 r)=D (.slice y.G since.length y.d):=hdd.right.cell 3;have gd:=gs.drew;have i1':(w8.setCell (I g k r) (j o f)).drew.cell? (I X 1 r)=D (j o k):=gd.right.right.cell 1;have b2':(w8.setCell (I g k r) (j o f)).drew.cell? (I b 2 r)=D (j o f):=gd.right.cell 2;have b3':(w8.setCell (I g k r) (j o f)).drew.cell? (I b 3 r)=D (.slice y.G since.length y.d):=gd.right.cell 3;have gfd:w8.drew.frozen? (I g k r)=C:=gf;have gcd:w8.drew.cell? (I g k r)=D (j o since[k]):=gc;rw[hg] at b3 b3';have bl:=hd.right.lt;have xl:=hd.right.right.lt;clear h8;rw[hg] at gd;have HEN:N (w8.setCell (I g k r) (j o f)).drew (aZ b sp H2 f S2*(aw sp σ2*(aa X #[j o 4,j o k,j o mx.page,j o mx.size,j o mx.frame,j o mx.rights,j o ax.page,j o ax.kind,J ax.user] 43*(aa V #[j o 0,J ef,j o ea,j o eb,j o er,J ek] 36*(aa M #[j o ax.page,j o ax.kind,J ax.user] 41*(aa E #[j o 0,J C,j o 0,j o 0,j o 0,J C] 36*(aa F #[j o 0,j o 0] 27*R))))))):=by
       have e:(ao (.slice y.G S2.length y.d) S2:ab)=ao (.slice (D (I g 0 r)) since.length y.d) (since.set k f):=by rw[←hSe,hg,List.length_set]
       have l:S2.length=since.length:=by rw[←hSe,List.length_set]
       refine HSH.out _ _ ?_;rw[e,l,hg];exact gd.eq (by ac_rfl)
      have HXN:=(x8.set (I g k r) (j o f)).drew;clear hSe HSH gs gd hd hdd x8;go_region_held3 (fun w'=>w'.cell? (I b 2 r)=D (j o f)∧w'.cell? (I b 3 r)=D (.slice (D (I g 0 r)) since.length y.d)∧w'.cell? (I X 1 r)=D (j o k)) (first|exact⟨b2,b3,i1⟩|exact⟨b2',b3',i1'⟩|go_keep) (fail)
      all_goals
       go_wp2_with fail
       go_meet
       case rel=>exact⟨ax,S,rfl,rfl,K ⟨hfin.out.1,fun he=>⟨(hfin.out.2 he).1,rfl⟩⟩,HEN,HXN⟩
     ·
      have hHe:H2=H:=hH2.out.symm.trans (Wc.hist_same q13);have hSe:S2=since:=hS2.out.symm.trans (if_neg (fun hc=>q4 hc.2));subst hHe;subst hSe;have hfin:Hid (cL ac.page∧(ef=S→ac=(if kx=4 then ax else ac)∧on=S)):=K ⟨hAc.out,fun he=>⟨(if_neg q4).symm,(hFR.out he).2.2.2.2.2.1 (by rcases(hFR.out he).1 with h|h;exact absurd h q4;exact h)⟩⟩;have n4:(kx==4)=C:=by simpa using q4
      clear hH2 hS2 hN hFR hLast hAI hAc hxo hLen;by_cases k1:1≤kx
      ·have k3:¬kx≤3:=fun hh=>q13 ⟨k1,hh⟩
       clear q13 q4;go_wp2_with fail
       go_meet
       case rel=>exact⟨ac,on,rfl,rfl,hfin,h4,x3⟩
      ·clear q13 q4
       go_wp2_with fail
       go_meet
       case rel=>exact⟨ac,on,rfl,rfl,hfin,h4,x3⟩
    ·have hHe:H2=H:=hH2.out.symm.trans (Wc.hist_bad q0)
     have hSe:S2=since:=hS2.out.symm.trans (if_neg (fun hc=>q0 hc.1));subst hHe;subst hSe;have hfin:Hid (cL ac.page∧(ef=S→ac=(if kx=4 then ax else ac)∧on=S)):=K ⟨hAc.out,fun he=>absurd (hFR.out he).2.2.2.1 q0⟩;have hne:(ec !=0)=S:=by simpa using q0
     clear hH2 hS2 hN hFR hLast hAI hAc hxo hLen q0;go_wp2_with fail
     go_meet
     case rel=>exact⟨ac,on,rfl,rfl,hfin,h4,x3⟩
   case rest=>
    obtain⟨a2,on2,rfl,rfl,hA2,h5,x5⟩:=hcut;clear h4 x3 hLast hAI hAc bl xl el e0 e1 e2 e3 e4 e5 c0 c1 c2 c3 c4 c5 c6 c7 c8 hH2 hS2 hxo hLen;obtain⟨y,hy,h6⟩:=dU h5;have HSH:=K (fun(w':U) (R':ab) (z:Int) (h:N w' (cN b sp H2 f2 S2 {y with z:=z} R'))=>eF (y:={y with z:=z}) hy h);have HS1:=K (fun(w':U) (R':ab) (h:N w' (cN b sp H2 f S2 y R'))=>eF hy h);have hbs:=K (Has.rowSmall' h6.right);replace hy:=K hy;unfold cN at h6 HSH HS1;dsimp only at HSH;clear h5;have h7:N wc (aa V #[j o ec,J ef,j o ea,j o eb,j o er,J ek] 36*(aa b #[.pointer (D (I sp 0 r)),.slice y.A y.bs.length y.c,j o f,.slice y.G S2.length y.d,j o 0,j o 0,j o (y.z)] 82*((dt (.slice y.A y.bs.length y.c) y.bs*(ao (.slice y.G S2.length y.d) S2*bc y.bs H2))*(aw sp σ2*(aa X #[j o kx,j o cx,j o mx.page,j o mx.size,j o mx.frame,j o mx.rights,j o ax.page,j o ax.kind,J ax.user] 43*(aa M #[j o a2.page,j o a2.kind,J a2.user] 41*(aa E #[j o 0,J C,j o 0,j o 0,j o 0,J C] 36*(aa F #[j o 0,j o 0] 27*R)))))))):=h6.eq (by ac_rfl);clear h6;obtain⟨v0,v1,v2,v3,v4,v5⟩:=h7.cells6;have vl:=h7.lt;go_upto_if 69 with fail;go_cut [9] from 70 to 88 (fun s9 wx=>s9=J S∧N wx (aa V #[j o ec,J ef,j o ea,j o eb,j o er,J ek] 36*(aa b #[.pointer (D (I sp 0 r)),.slice y.A y.bs.length y.c,j o f,.slice y.G S2.length y.d,j o 0,j o 0,j o (y.z)] 82*((dt (.slice y.A y.bs.length y.c) y.bs*(ao (.slice y.G S2.length y.d) S2*bc y.bs H2))*(aw sp σ2*(aa X #[j o kx,j o cx,j o mx.page,j o mx.size,j o mx.frame,j o mx.rights,j o ax.page,j o ax.kind,J ax.user] 43*(aa M #[j o a2.page,j o a2.kind,J a2.user] 41*(aa E #[j o 0,J C,j o 0,j o 0,j o 0,J C] 36*(aa F #[j o 0,j o 0] 27*R))))))))∧ad w wx)
    case first=>
     cases ef with
     |false=>
      clear hN hRt hFR hHl hSL hA2 hF2 HSH HS1 hy;go_wp2_with fail
      go_meet
      case rel=>exact⟨rfl,h7,x5⟩
     |true=>
      obtain⟨ha,hb⟩:=hA2.out;obtain⟨ha2,rfl⟩:=hb rfl;obtain⟨h45,hc0,hcl,-⟩:=hFR.out rfl;obtain⟨r0,r1,r2⟩:=hRt.out rfl;obtain⟨k,hk⟩:=T hc0;subst hk;have hkl:k<S2.length:=by rw[hSL.out];omega
      have hkl':(k:Int)<S2.length:=by omega
      have hk0:¬(k:Int)<0:=by omega
      have hgd:S2.getD ((k:Int).toNat) 0=S2[k]:=by rw[Int.toNat_natCast,List.getD_eq_getElem?_getD,O hkl];rfl
      rw[hgd] at r0 r1 r2;rw[←ha2] at r2;clear ha2 hb;obtain⟨i,hi⟩:=T r0;have hHe:=hHl.out.2 rfl;have hle:=hN.out.hist.le;have hek:ek=C:=(hFR.out rfl).2.2.2.2.1;have hmn:f≤f2:=by rw[←hF2.out];unfold eo;rw[if_neg (by show¬ek=S;rw[hek];simp)];exact Nat.le_refl _
      have hii:(i:Int)=S2[k]:=hi.symm;have HRW:Hid (∀R w,N w (aZ b sp H2 f S2*R)→Z prog 86 #[.pointer (D (I b 0 r)),.agg #[j o a2.page,j o a2.kind,J a2.user],.agg #[j o ea,j o eb,j o er],j o S2[k]] w (Pure (J S) w)):=
       K (fun R w h=>by
        rw[←hii];refine vF b sp H2 f S2 a2 ⟨ea,eb,er⟩ i ha ?_ hHl.out.1 hN.out.hist.ok ?_ R w h
        ·have:f2+1≤H2.length:=hle
         omega
        ·rw[hHe]
         rw[←hii,Int.toNat_natCast] at r2;exact r2)
      obtain⟨g,hg,gl,gc,gf,gs⟩:=oQ y.G (h7.eq (show _=ao (.slice y.G S2.length y.d) S2*(aa b #[.pointer (D (I sp 0 r)),.slice y.A y.bs.length y.c,j o f,.slice y.G S2.length y.d,j o 0,j o 0,j o (y.z)] 82*(dt (.slice y.A y.bs.length y.c) y.bs*(bc y.bs H2*(aa V #[j o ec,J S,j o ea,j o eb,j o er,J ek] 36*(aw sp σ2*(aa X #[j o kx,j o k,j o mx.page,j o mx.size,j o mx.frame,j o mx.rights,j o ax.page,j o ax.kind,J ax.user] 43*(aa M #[j o a2.page,j o a2.kind,J a2.user] 41*(aa E #[j o 0,J C,j o 0,j o 0,j o 0,J C] 36*(aa F #[j o 0,j o 0] 27*R))))))))) by ac_rfl)) hkl 0;have HS2:=K (fun(w':U) (h:N w' (aa V #[j o ec,J S,j o ea,j o eb,j o er,J ek] 36*(aa b #[.pointer (D (I sp 0 r)),.slice y.A y.bs.length y.c,j o f,.slice (D (I g 0 r)) S2.length y.d,j o 0,j o 0,j o y.z] 82*((dt (.slice y.A y.bs.length y.c) y.bs*(ao (.slice (D (I g 0 r)) S2.length y.d) S2*bc y.bs H2))*(aw sp σ2*(aa X #[j o kx,j o k,j o mx.page,j o mx.size,j o mx.frame,j o mx.rights,j o ax.page,j o ax.kind,J ax.user] 43*(aa M #[j o a2.page,j o a2.kind,J a2.user] 41*(aa E #[j o 0,J C,j o 0,j o 0,j o 0,J C] 36*(aa F #[j o 0,j o 0] 27*R)))))))))=>HS1.out w' (aa V #[j o ec,J S,j o ea,j o eb,j o er,J ek] 36*(aw sp σ2*(aa X #[j o kx,j o k,j o mx.page,j o mx.size,j o mx.frame,j o mx.rights,j o ax.page,j o ax.kind,J ax.user] 43*(aa M #[j o a2.page,j o a2.kind,J a2.user] 41*(aa E #[j o 0,J C,j o 0,j o 0,j o 0,J C] 36*(aa F #[j o 0,j o 0] 27*R)))))) (h.eq (by rw[hg];ac_rfl)));have h8:N wc (aa V #[j o ec,J S,j o ea,j o eb,j o er,J ek] 36*(aa b #[.pointer (D (I sp 0 r)),.slice y.A y.bs.length y.c,j o f,.slice (D (I g 0 r)) S2.length y.d,j o 0,j o 0,j o y.z] 82*((dt (.slice y.A y.bs.length y.c) y.bs*(ao (.slice (D (I g 0 r)) S2.length y.d) S2*bc y.bs H2))*(aw sp σ2*(aa X #[j o kx,j o k,j o mx.page,j o mx.size,j o mx.frame,j o mx.rights,j o ax.page,j o ax.kind,J ax.user] 43*(aa M #[j o a2.page,j o a2.kind,J a2.user] 41*(aa E #[j o 0,J C,j o 0,j o 0,j o 0,J C] 36*(aa F #[j o 0,j o 0] 27*R)))))))):=h7.eq (by rw[hg]);have HEN:=K (fun(w':U) (h:N w' (aa V #[j o ec,J S,j o ea,j o eb,j o er,J ek] 36*(aa b #[.pointer (D (I sp 0 r)),.slice y.A y.bs.length y.c,j o f,.slice (D (I g 0 r)) S2.length y.d,j o 0,j o 0,j o y.z] 82*((dt (.slice y.A y.bs.length y.c) y.bs*(ao (.slice (D (I g 0 r)) S2.length y.d) S2*bc y.bs H2))*(aw sp σ2*(aa X #[j o kx,j o k,j o mx.page,j o mx.size,j o mx.frame,j o mx.rights,j o ax.page,j o ax.kind,J ax.user] 43*(aa M #[j o a2.page,j o a2.kind,J a2.user] 41*(aa E #[j o 0,J C,j o 0,j o 0,j o 0,J C] 36*(aa F #[j o 0,j o 0] 27*R)))))))))=>(h.eq (by rw[hg]):N w' (aa V #[j o ec,J S,j o ea,j o eb,j o er,J ek] 36*(aa b #[.pointer (D (I sp 0 r)),.slice y.A y.bs.length y.c,j o f,.slice y.G S2.length y.d,j o 0,j o 0,j o (y.z)] 82*((dt (.slice y.A y.bs.length y.c) y.bs*(ao (.slice y.G S2.length y.d) S2*bc y.bs H2))*(aw sp σ2*(aa X #[j o kx,j o k,j o mx.page,j o mx.size,j o mx.frame,j o mx.rights,j o ax.page,j o ax.kind,J ax.user] 43*(aa M #[j o a2.page,j o a2.kind,J a2.user] 41*(aa E #[j o 0,J C,j o 0,j o 0,j o 0,J C] 36*(aa F #[j o 0,j o 0] 27*R))))))))));have HK:=K (fun(w':U) (h:N w' (aa V #[j o ec,J S,j o ea,j o eb,j o er,J ek] 36*(aa b #[.pointer (D (I sp 0 r)),.slice y.A y.bs.length y.c,j o f,.slice (D (I g 0 r)) S2.length y.d,j o 0,j o 0,j o y.z] 82*((dt (.slice y.A y.bs.length y.c) y.bs*(ao (.slice (D (I g 0 r)) S2.length y.d) S2*bc y.bs H2))*(aw sp σ2*(aa X #[j o kx,j o k,j o mx.page,j o mx.size,j o mx.frame,j o mx.rights,j o ax.page,j o ax.kind,J ax.user] 43*(aa M #[j o a2.page,j o a2.kind,J a2.user] 41*(aa E #[j o 0,J C,j o 0,j o 0,j o 0,J C] 36*(aa F #[j o 0,j o 0] 27*R)))))))))=>(by
       have h1:N w' (ao (.slice (D (I g 0 r)) S2.length y.d) S2*(aa b #[.pointer (D (I sp 0 r)),.slice y.A y.bs.length y.c,j o f,.slice (D (I g 0 r)) S2.length y.d,j o 0,j o 0,j o y.z] 82*(aa X #[j o kx,j o k,j o mx.page,j o mx.size,j o mx.frame,j o mx.rights,j o ax.page,j o ax.kind,J ax.user] 43*(aa M #[j o a2.page,j o a2.kind,J a2.user] 41*(aa V #[j o ec,J S,j o ea,j o eb,j o er,J ek] 36*(dt (.slice y.A y.bs.length y.c) y.bs*(bc y.bs H2*(aw sp σ2*(aa E #[j o 0,J C,j o 0,j o 0,j o 0,J C] 36*(aa F #[j o 0,j o 0] 27*R)))))))))):=h.eq (by ac_rfl);obtain⟨g',e,-,hc⟩:=db h1 hkl;injection e with e
       injection e with e
       subst e;exact⟨h.cell 2,h.cell 3,h.cell 4,h1.r3.cell 0,h1.r3.cell 1,h1.r3.cell 2,h1.right.cell 3,h1.right.right.cell 1,hc⟩:w'.cell? (I V 2 r)=D (j o ea)∧w'.cell? (I V 3 r)=D (j o eb)∧w'.cell? (I V 4 r)=D (j o er)∧w'.cell? (I M 0 r)=D (j o a2.page)∧w'.cell? (I M 1 r)=D (j o a2.kind)∧w'.cell? (I M 2 r)=D (J a2.user)∧w'.cell? (I b 3 r)=D (.slice (D (I g 0 r)) S2.length y.d)∧w'.cell? (I X 1 r)=D (j o k)∧w'.cell? (I g k r)=D (j o S2[k])))
      have bl:=h7.right.lt;clear hN hRt hFR hHl hSL hA2 hF2 HSH HS1 hy r0 r1 r2 hi hii hHe hle hmn gf gs h45 hc0 hcl ha hgd gc hg h7 hek v0 v1 v2 v3 v4 v5;go_wp2_with fail
      have hd:=h8.drew;have xd:=x5.drew;clear h8 x5;go_region_held3 (fun w'=>w'.cell? (I V 2 r)=D (j o ea)∧w'.cell? (I V 3 r)=D (j o eb)∧w'.cell? (I V 4 r)=D (j o er)∧w'.cell? (I M 0 r)=D (j o a2.page)∧w'.cell? (I M 1 r)=D (j o a2.kind)∧w'.cell? (I M 2 r)=D (J a2.user)∧w'.cell? (I b 3 r)=D (.slice (D (I g 0 r)) S2.length y.d)∧w'.cell? (I X 1 r)=D (j o k)∧w'.cell? (I g k r)=D (j o S2[k])) (first|(with_reducible exact HK.out _ hd)|(with_reducible exact HK.out _ hL)|go_keep)
       (first
        |(go_at_call 86;(with_reducible refine(HRW.out _ _ (HS2.out _ hd)).mono ?_);rintro e w7 ⟨rfl,b7⟩;have hL:=hd.below b7;have xL:=xd.below b7))
      all_goals
       go_wp2_with fail
       go_meet
       case rel=>exact⟨by first|rfl|simp,HEN.out _ hL,xL⟩
    case rest=>
     obtain⟨rfl,h8,x8⟩:=hcut;clear h7 x5 v0 v1 v2 v3 v4 v5 vl hRt hFR hSL hA2 HS1;obtain⟨v0,v1,v2,v3,v4,v5⟩:=h8.cells6;have vl:=h8.lt;go_upto_if 90 with fail;go_cut [] from 91 to 99 (fun wx=>N wx (aa V #[j o ec,J ef,j o ea,j o eb,j o er,J ek] 36*(aa b #[.pointer (D (I sp 0 r)),.slice y.A y.bs.length y.c,j o f2,.slice y.G S2.length y.d,j o 0,j o 0,j o (y.z)] 82*((dt (.slice y.A y.bs.length y.c) y.bs*(ao (.slice y.G S2.length y.d) S2*bc y.bs H2))*(aw sp σ2*(aa X #[j o kx,j o cx,j o mx.page,j o mx.size,j o mx.frame,j o mx.rights,j o ax.page,j o ax.kind,J ax.user] 43*(aa M #[j o a2.page,j o a2.kind,J a2.user] 41*(aa E #[j o 0,J C,j o 0,j o 0,j o 0,J C] 36*(aa F #[j o 0,j o 0] 27*R))))))))∧ad w wx)
     case first=>
      cases ek with
      |false=>
       have hf:f=f2:=hF2.out;subst hf;clear hN hHl hF2 HSH hy;go_wp2_with fail
       go_meet
       case rel=>exact⟨h8,x8⟩
      |true=>
       have hf:H2.length - 1=f2:=hF2.out;have h1:1≤H2.length:=hN.out.hist.ne;have hl:=hHl.out.1;have hyo:=hy.out;have hw:IntKind.i64.wrap ((y.bs.length:Int) - 1)=(f2:Int):=by rw[IntKind.wrap_i64];omega
       have h9:=h8.p2;have b1:wc.cell? (I b 1 r)=D (.slice y.A y.bs.length y.c):=h9.cell 1;have b2:wc.cell? (I b 2 r)=D (j o f):=h9.cell 2;have bf:wc.frozen? (I b 2 r)=C:=h9.free 2;have bl:=h9.lt;have h10:N _ (aa b #[.pointer (D (I sp 0 r)),.slice y.A y.bs.length y.c,j o f2,.slice y.G S2.length y.d,j o 0,j o 0,j o (y.z)] 82*(aa V #[j o ec,J ef,j o ea,j o eb,j o er,J S] 36*((dt (.slice y.A y.bs.length y.c) y.bs*(ao (.slice y.G S2.length y.d) S2*bc y.bs H2))*(aw sp σ2*(aa X #[j o kx,j o cx,j o mx.page,j o mx.size,j o mx.frame,j o mx.rights,j o ax.page,j o ax.kind,J ax.user] 43*(aa M #[j o a2.page,j o a2.kind,J a2.user] 41*(aa E #[j o 0,J C,j o 0,j o 0,j o 0,J C] 36*(aa F #[j o 0,j o 0] 27*R)))))))):=h9.set 2 (j o f2);have x10:=x8.set (I b 2 r) (j o f2);have hbo:y.bs.length≤1000000:=by omega
       clear hN hHl hF2 HSH hy hyo hf h1 hl h8 x8 h9;go_wp2_with fail
       go_meet
       case rel=>exact⟨h10.p2,x10⟩
     case rest=>
      obtain⟨h9,x9⟩:=hcut;clear h8 x8 v0 v1 v2 v3 v4 v5 vl hN hHl hF2;have hb:=h9.p2;have b4:wc.cell? (I b 4 r)=D (j o 0):=hb.cell 4;have b6:wc.cell? (I b 6 r)=D (j o y.z):=hb.cell 6;have bf:wc.frozen? (I b 6 r)=C:=hb.free 6;have bl:=hb.lt;have h10:N _ (aa b #[.pointer (D (I sp 0 r)),.slice y.A y.bs.length y.c,j o f2,.slice y.G S2.length y.d,j o 0,j o 0,j o (wrap64 (y.z+1))] 82*(aa V #[j o ec,J ef,j o ea,j o eb,j o er,J ek] 36*((dt (.slice y.A y.bs.length y.c) y.bs*(ao (.slice y.G S2.length y.d) S2*bc y.bs H2))*(aw sp σ2*(aa X #[j o kx,j o cx,j o mx.page,j o mx.size,j o mx.frame,j o mx.rights,j o ax.page,j o ax.kind,J ax.user] 43*(aa M #[j o a2.page,j o a2.kind,J a2.user] 41*(aa E #[j o 0,J C,j o 0,j o 0,j o 0,J C] 36*(aa F #[j o 0,j o 0] 27*R)))))))):=hb.set 6 (j o (wrap64 (y.z+1)));have x10:=x9.set (I b 6 r) (j o (wrap64 (y.z+1)));clear h9 hb x9;go_upto_region 18 with fail;generalize wc.setCell (I b 6 r) (j o (wrap64 (y.z+1)))=w2 at*
      clear b4 b6 bf bl;generalize wrap64 (y.z+1)=z2 at*
      have hb:N w2 (aa E #[j o 0,J C,j o 0,j o 0,j o 0,J C] 36*(aa F #[j o 0,j o 0] 27*(aa V #[j o ec,J ef,j o ea,j o eb,j o er,J ek] 36*(aa b #[.pointer (D (I sp 0 r)),.slice y.A y.bs.length y.c,j o f2,.slice y.G S2.length y.d,j o 0,j o 0,j o (z2)] 82*((dt (.slice y.A y.bs.length y.c) y.bs*(ao (.slice y.G S2.length y.d) S2*bc y.bs H2))*(aw sp σ2*(aa X #[j o kx,j o cx,j o mx.page,j o mx.size,j o mx.frame,j o mx.rights,j o ax.page,j o ax.kind,J ax.user] 43*(aa M #[j o a2.page,j o a2.kind,J a2.user] 41*R)))))))):=h10.eq (by ac_rfl);clear h10;have hE:N _ (aa E #[j o ec,J ef,j o ea,j o eb,j o er,J ek] 36*(aa F #[j o 0,j o 0] 27*(aa V #[j o ec,J ef,j o ea,j o eb,j o er,J ek] 36*(aa b #[.pointer (D (I sp 0 r)),.slice y.A y.bs.length y.c,j o f2,.slice y.G S2.length y.d,j o 0,j o 0,j o (z2)] 82*((dt (.slice y.A y.bs.length y.c) y.bs*(ao (.slice y.G S2.length y.d) S2*bc y.bs H2))*(aw sp σ2*(aa X #[j o kx,j o cx,j o mx.page,j o mx.size,j o mx.frame,j o mx.rights,j o ax.page,j o ax.kind,J ax.user] 43*(aa M #[j o a2.page,j o a2.kind,J a2.user] 41*R)))))))):=(hb.set6 (j o ec) (J ef) (j o ea) (j o eb) (j o er) (J ek)).drew;have hF:N _ (aa F #[j o 0,j o 0] 27*(aa E #[j o 0,J C,j o 0,j o 0,j o 0,J C] 36*(aa V #[j o ec,J ef,j o ea,j o eb,j o er,J ek] 36*(aa b #[.pointer (D (I sp 0 r)),.slice y.A y.bs.length y.c,j o f2,.slice y.G S2.length y.d,j o 0,j o 0,j o (z2)] 82*((dt (.slice y.A y.bs.length y.c) y.bs*(ao (.slice y.G S2.length y.d) S2*bc y.bs H2))*(aw sp σ2*(aa X #[j o kx,j o cx,j o mx.page,j o mx.size,j o mx.frame,j o mx.rights,j o ax.page,j o ax.kind,J ax.user] 43*(aa M #[j o a2.page,j o a2.kind,J a2.user] 41*R)))))))):=((hb.p2.set 0 (j o 0)).set 1 (j o 0)).drew;have hEF:N _ (aa F #[j o 0,j o 0] 27*(aa E #[j o ec,J ef,j o ea,j o eb,j o er,J ek] 36*(aa V #[j o ec,J ef,j o ea,j o eb,j o er,J ek] 36*(aa b #[.pointer (D (I sp 0 r)),.slice y.A y.bs.length y.c,j o f2,.slice y.G S2.length y.d,j o 0,j o 0,j o (z2)] 82*((dt (.slice y.A y.bs.length y.c) y.bs*(ao (.slice y.G S2.length y.d) S2*bc y.bs H2))*(aw sp σ2*(aa X #[j o kx,j o cx,j o mx.page,j o mx.size,j o mx.frame,j o mx.rights,j o ax.page,j o ax.kind,J ax.user] 43*(aa M #[j o a2.page,j o a2.kind,J a2.user] 41*R)))))))):=(((hb.set6 (j o ec) (J ef) (j o ea) (j o eb) (j o er) (J ek)).p2.set 0 (j o 0)).set 1 (j o 0)).drew;have hFE:N _ (aa E #[j o ec,J ef,j o ea,j o eb,j o er,J ek] 36*(aa F #[j o 0,j o 0] 27*(aa V #[j o ec,J ef,j o ea,j o eb,j o er,J ek] 36*(aa b #[.pointer (D (I sp 0 r)),.slice y.A y.bs.length y.c,j o f2,.slice y.G S2.length y.d,j o 0,j o 0,j o (z2)] 82*((dt (.slice y.A y.bs.length y.c) y.bs*(ao (.slice y.G S2.length y.d) S2*bc y.bs H2))*(aw sp σ2*(aa X #[j o kx,j o cx,j o mx.page,j o mx.size,j o mx.frame,j o mx.rights,j o ax.page,j o ax.kind,J ax.user] 43*(aa M #[j o a2.page,j o a2.kind,J a2.user] 41*R)))))))):=(((hb.p2.set 0 (j o 0)).set 1 (j o 0)).p2.set6 (j o ec) (J ef) (j o ea) (j o eb) (j o er) (J ek)).drew;have hd:=hb.drew;obtain⟨e0,e1,e2,e3,e4,e5⟩:=hb.cells6;obtain⟨f0,f1,f2',f3,f4,f5⟩:=hb.frees6;have el:=hb.lt;have k0:w2.cell? (I F 0 r)=D (j o 0):=hb.right.cell 0;have k1:w2.cell? (I F 1 r)=D (j o 0):=hb.right.cell 1;have l0:w2.frozen? (I F 0 r)=C:=hb.right.free 0;have l1:w2.frozen? (I F 1 r)=C:=hb.right.free 1;have fl:=hb.right.lt;have HK:=K (fun(w':U) (P Q:ab) (h:N w' (P*(Q*(aa V #[j o ec,J ef,j o ea,j o eb,j o er,J ek] 36*(aa b #[.pointer (D (I sp 0 r)),.slice y.A y.bs.length y.c,j o f2,.slice y.G S2.length y.d,j o 0,j o 0,j o (z2)] 82*((dt (.slice y.A y.bs.length y.c) y.bs*(ao (.slice y.G S2.length y.d) S2*bc y.bs H2))*(aw sp σ2*(aa X #[j o kx,j o cx,j o mx.page,j o mx.size,j o mx.frame,j o mx.rights,j o ax.page,j o ax.kind,J ax.user] 43*(aa M #[j o a2.page,j o a2.kind,J a2.user] 41*R)))))))))=>(by
       obtain⟨c0,c1,c2,c3,c4,c5⟩:=h.right.right.cells6;exact⟨c0,c1,c2,c3,c4,c5,h.r3.cell 4,h.r3.cell 5⟩:w'.cell? (I V 0 r)=D (j o ec)∧w'.cell? (I V 1 r)=D (J ef)∧w'.cell? (I V 2 r)=D (j o ea)∧w'.cell? (I V 3 r)=D (j o eb)∧w'.cell? (I V 4 r)=D (j o er)∧w'.cell? (I V 5 r)=D (J ek)∧w'.cell? (I b 4 r)=D (j o 0)∧w'.cell? (I b 5 r)=D (j o 0)))
      have hne:E≠F:=hb.ne;have hne':F≠E:=fun e=>hne e.symm;have HEN:=K (fun(w':U) (h:N w' (aa V #[j o ec,J ef,j o ea,j o eb,j o er,J ek] 36*(aa b #[.pointer (D (I sp 0 r)),.slice y.A y.bs.length y.c,j o f2,.slice y.G S2.length y.d,j o 0,j o 0,j o (z2)] 82*((dt (.slice y.A y.bs.length y.c) y.bs*(ao (.slice y.G S2.length y.d) S2*bc y.bs H2))*(aw sp σ2*(aa X #[j o kx,j o cx,j o mx.page,j o mx.size,j o mx.frame,j o mx.rights,j o ax.page,j o ax.kind,J ax.user] 43*(aa M #[j o a2.page,j o a2.kind,J a2.user] 41*R)))))))=>(by
       have h1:=HSH.out w' (aw sp σ2*(aa X #[j o kx,j o cx,j o mx.page,j o mx.size,j o mx.frame,j o mx.rights,j o ax.page,j o ax.kind,J ax.user] 43*(aa M #[j o a2.page,j o a2.kind,J a2.user] 41*R))) z2 ((h.right).eq (by ac_rfl));exact(h1.eq (show _=aa X #[j o kx,j o cx,j o mx.page,j o mx.size,j o mx.frame,j o mx.rights,j o ax.page,j o ax.kind,J ax.user] 43*(aa M #[j o a2.page,j o a2.kind,J a2.user] 41*(aZ b sp H2 f2 S2*(aw sp σ2*R))) by ac_rfl)).right.right :N w' (aZ b sp H2 f2 S2*(aw sp σ2*R))))
      clear HSH hy hbs;go_region_held3 (fun w'=>w'.cell? (I V 0 r)=D (j o ec)∧w'.cell? (I V 1 r)=D (J ef)∧w'.cell? (I V 2 r)=D (j o ea)∧w'.cell? (I V 3 r)=D (j o eb)∧w'.cell? (I V 4 r)=D (j o er)∧w'.cell? (I V 5 r)=D (J ek)∧w'.cell? (I b 4 r)=D (j o 0)∧w'.cell? (I b 5 r)=D (j o 0)) (first|(with_reducible exact HK.out _ _ _ hd)|(with_reducible exact HK.out _ _ _ hE)|(with_reducible exact HK.out _ _ _ hF)|(with_reducible exact HK.out _ _ _ hEF)|(with_reducible exact HK.out _ _ _ hFE)|go_keep) (fail)
      all_goals
       go_wp2_with fail
       refine ak (fun wz=>N wz (aa E #[j o ec,J ef,j o ea,j o eb,j o er,J ek] 36*(aa F #[j o 0,j o 0] 27*(aa V #[j o ec,J ef,j o ea,j o eb,j o er,J ek] 36*(aa b #[.pointer (D (I sp 0 r)),.slice y.A y.bs.length y.c,j o f2,.slice y.G S2.length y.d,j o 0,j o 0,j o (z2)] 82*((dt (.slice y.A y.bs.length y.c) y.bs*(ao (.slice y.G S2.length y.d) S2*bc y.bs H2))*(aw sp σ2*(aa X #[j o kx,j o cx,j o mx.page,j o mx.size,j o mx.frame,j o mx.rights,j o ax.page,j o ax.kind,J ax.user] 43*(aa M #[j o a2.page,j o a2.kind,J a2.user] 41*R))))))))∧ad w wz) ?_ ?_
       ·first
         |exact⟨hEF.p2,(((((((((x10.set _ _).set _ _).set _ _).set _ _).set _ _).set _ _).set _ _).set _ _).drew)⟩
         |exact⟨hFE,(((((((((x10.set _ _).set _ _).set _ _).set _ _).set _ _).set _ _).set _ _).set _ _).drew)⟩
       ·rintro wz ⟨hz,xz⟩
        exact Y (pR results37 rfl rfl (aN hz) (cM hz.right)) rfl ⟨rfl,HEN.out _ hz.right.right,xz⟩
end Go.Proofs.YtmfheghbgihdmaaGreat
