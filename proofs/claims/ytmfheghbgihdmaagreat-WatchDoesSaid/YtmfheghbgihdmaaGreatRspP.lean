/- Contract of the document's Space: post. -/
import Derived.Test.YtmfheghbgihdmaaGreatWchN
import Derived.Test.YtmfheghbgihdmaaGreatInsM2
import Derived.Test.YtmfheghbgihdmaaGreatRefPage
import Derived.Test.YtmfheghbgihdmaaGreatRefEnt5
import Derived.BigQuiet
import Derived.Deep.RegionHeld3
import Derived.Deep.DeepCutAuto
namespace Go.Proofs.YtmfheghbgihdmaaGreat
open Go.IntKind renaming u64→vU
open Go.Value renaming int→a,bool→E
open Go.IntKind renaming i64→o,wrap_i64→O
open Option renaming none→B,some→D
open Go.Lib renaming hid→C
open Go.Addr renaming mk→F
open Bool renaming false→H,true→J
open Go.Proofs.YtmfheghbgihdmaaGreat renaming Has→I,lev→N,Ext→V
open List renaming getElem?_eq_some_iff→K,getElem?_eq_getElem→T
open Int renaming eq_ofNat_of_zero_le→M
open Go.Ending renaming returned→P
open Go renaming bodyPost_ret→S,World→U,Addr→Z,Calls→ad
open Tryz
open Go.RowKit
set_option maxRecDepth 100000
theorem ra{w:U}{R:ab}{b:Nat}{v0 v1 v2 v3 v4 v5 v6 v7 v8 v9:Value}{t:TypeId}(h:I w (aa b #[v0,v1,v2,v3,v4,v5,v6,v7,v8,v9] t*R))(u3 u4 u5 u6 u7 u8:Value):
  I ((((((w.setCell (F b 3 B) u3).setCell (F b 5 B) u5).setCell (F b 6 B) u6).setCell (F b 7 B) u7).setCell (F b 8 B) u8).setCell (F b 4 B) u4) (aa b #[v0,v1,v2,u3,u4,u5,u6,u7,u8,v9] t*R)∧
  I ((((((w.setCell (F b 3 B) u3).setCell (F b 4 B) u4).setCell (F b 5 B) u5).setCell (F b 6 B) u6).setCell (F b 7 B) u7).setCell (F b 8 B) u8) (aa b #[v0,v1,v2,u3,u4,u5,u6,u7,u8,v9] t*R)∧
  I ((((((w.setCell (F b 5 B) u5).setCell (F b 6 B) u6).setCell (F b 7 B) u7).setCell (F b 8 B) u8).setCell (F b 3 B) u3).setCell (F b 4 B) u4) (aa b #[v0,v1,v2,u3,u4,u5,u6,u7,u8,v9] t*R)∧
  I ((((((w.setCell (F b 5 B) u5).setCell (F b 6 B) u6).setCell (F b 7 B) u7).setCell (F b 8 B) u8).setCell (F b 4 B) u4).setCell (F b 3 B) u3) (aa b #[v0,v1,v2,u3,u4,u5,u6,u7,u8,v9] t*R)∧
  I ((((((w.setCell (F b 4 B) u4).setCell (F b 3 B) u3).setCell (F b 5 B) u5).setCell (F b 6 B) u6).setCell (F b 7 B) u7).setCell (F b 8 B) u8) (aa b #[v0,v1,v2,u3,u4,u5,u6,u7,u8,v9] t*R)∧
  I ((((((w.setCell (F b 4 B) u4).setCell (F b 5 B) u5).setCell (F b 6 B) u6).setCell (F b 7 B) u7).setCell (F b 8 B) u8).setCell (F b 3 B) u3) (aa b #[v0,v1,v2,u3,u4,u5,u6,u7,u8,v9] t*R):=by
 have a10:I _ (aa b #[v0,v1,v2,u3,v4,v5,v6,v7,v8,v9] t*R):=h.set 3 u3;have a11:I _ (aa b #[v0,v1,v2,u3,v4,u5,v6,v7,v8,v9] t*R):=a10.set 5 u5;have a12:I _ (aa b #[v0,v1,v2,u3,v4,u5,u6,v7,v8,v9] t*R):=a11.set 6 u6;have a13:I _ (aa b #[v0,v1,v2,u3,v4,u5,u6,u7,v8,v9] t*R):=a12.set 7 u7;have a14:I _ (aa b #[v0,v1,v2,u3,v4,u5,u6,u7,u8,v9] t*R):=a13.set 8 u8;have a15:I _ (aa b #[v0,v1,v2,u3,u4,u5,u6,u7,u8,v9] t*R):=a14.set 4 u4;have a20:I _ (aa b #[v0,v1,v2,u3,v4,v5,v6,v7,v8,v9] t*R):=h.set 3 u3;have a21:I _ (aa b #[v0,v1,v2,u3,u4,v5,v6,v7,v8,v9] t*R):=a20.set 4 u4;have a22:I _ (aa b #[v0,v1,v2,u3,u4,u5,v6,v7,v8,v9] t*R):=a21.set 5 u5;have a23:I _ (aa b #[v0,v1,v2,u3,u4,u5,u6,v7,v8,v9] t*R):=a22.set 6 u6;have a24:I _ (aa b #[v0,v1,v2,u3,u4,u5,u6,u7,v8,v9] t*R):=a23.set 7 u7;have a25:I _ (aa b #[v0,v1,v2,u3,u4,u5,u6,u7,u8,v9] t*R):=a24.set 8 u8;have a30:I _ (aa b #[v0,v1,v2,v3,v4,u5,v6,v7,v8,v9] t*R):=h.set 5 u5;have a31:I _ (aa b #[v0,v1,v2,v3,v4,u5,u6,v7,v8,v9] t*R):=a30.set 6 u6;have a32:I _ (aa b #[v0,v1,v2,v3,v4,u5,u6,u7,v8,v9] t*R):=a31.set 7 u7;have a33:I _ (aa b #[v0,v1,v2,v3,v4,u5,u6,u7,u8,v9] t*R):=a32.set 8 u8;have a34:I _ (aa b #[v0,v1,v2,u3,v4,u5,u6,u7,u8,v9] t*R):=a33.set 3 u3;have a35:I _ (aa b #[v0,v1,v2,u3,u4,u5,u6,u7,u8,v9] t*R):=a34.set 4 u4;have a40:I _ (aa b #[v0,v1,v2,v3,v4,u5,v6,v7,v8,v9] t*R):=h.set 5 u5;have a41:I _ (aa b #[v0,v1,v2,v3,v4,u5,u6,v7,v8,v9] t*R):=a40.set 6 u6;have a42:I _ (aa b #[v0,v1,v2,v3,v4,u5,u6,u7,v8,v9] t*R):=a41.set 7 u7;have a43:I _ (aa b #[v0,v1,v2,v3,v4,u5,u6,u7,u8,v9] t*R):=a42.set 8 u8;have a44:I _ (aa b #[v0,v1,v2,v3,u4,u5,u6,u7,u8,v9] t*R):=a43.set 4 u4;have a45:I _ (aa b #[v0,v1,v2,u3,u4,u5,u6,u7,u8,v9] t*R):=a44.set 3 u3;have a50:I _ (aa b #[v0,v1,v2,v3,u4,v5,v6,v7,v8,v9] t*R):=h.set 4 u4;have a51:I _ (aa b #[v0,v1,v2,u3,u4,v5,v6,v7,v8,v9] t*R):=a50.set 3 u3;have a52:I _ (aa b #[v0,v1,v2,u3,u4,u5,v6,v7,v8,v9] t*R):=a51.set 5 u5;have a53:I _ (aa b #[v0,v1,v2,u3,u4,u5,u6,v7,v8,v9] t*R):=a52.set 6 u6;have a54:I _ (aa b #[v0,v1,v2,u3,u4,u5,u6,u7,v8,v9] t*R):=a53.set 7 u7;have a55:I _ (aa b #[v0,v1,v2,u3,u4,u5,u6,u7,u8,v9] t*R):=a54.set 8 u8;have a60:I _ (aa b #[v0,v1,v2,v3,u4,v5,v6,v7,v8,v9] t*R):=h.set 4 u4;have a61:I _ (aa b #[v0,v1,v2,v3,u4,u5,v6,v7,v8,v9] t*R):=a60.set 5 u5;have a62:I _ (aa b #[v0,v1,v2,v3,u4,u5,u6,v7,v8,v9] t*R):=a61.set 6 u6;have a63:I _ (aa b #[v0,v1,v2,v3,u4,u5,u6,u7,v8,v9] t*R):=a62.set 7 u7;have a64:I _ (aa b #[v0,v1,v2,v3,u4,u5,u6,u7,u8,v9] t*R):=a63.set 8 u8;have a65:I _ (aa b #[v0,v1,v2,u3,u4,u5,u6,u7,u8,v9] t*R):=a64.set 3 u3;exact⟨a15,a25,a35,a45,a55,a65⟩
def ud(ws:Nat→Bool)(k:Nat):Nat→Bool:=fun i=>decide (i<k)||ws i
set_option maxHeartbeats 4000000 in
theorem wT(b:Nat)(σ:Sc)(m:Mp)(g:List Int)(G:Option Z)(gn gd:Nat)(hfew:σ.cs.length≤4)(R:ab)(w:U)(h:I w (cq b σ*(ao (.slice G gn gd) g*R))):
  ad prog 116 #[.pointer (D (F b 0 B)),.agg #[a o m.page,a o m.size,a o m.frame,a o m.rights],.slice G gn gd] w (cI (.tuple #[]) (cq b (σ.post σ.s m g)*R) w):=by
 obtain⟨y,hy,h⟩:=fQ h;obtain⟨ym,yA,yc,yps,yG,yd,ygw⟩:=y;obtain⟨s,cs,td,wt,bz,gn0⟩:=σ;unfold fy at h;dsimp only at*
 obtain rfl:=ei (h.eq (show _=ao (.slice G gn gd) g*(aa b #[.pointer (D (F ym 0 B)),a o 0,.slice yA yps.length yc,E bz,.slice yG gn0.length yd,a o td.page,a o td.size,a o td.frame,a o td.rights,.slice (D (F ygw 0 B)) yps.length yps.length] 52*(bF (.slice yA yps.length yc) yps*(ao (.slice yG gn0.length yd) gn0*(aa ygw (bm yps.length (bI wt)) 4*(aL yps cs*(az ym s*R)))))) by ac_rfl));have h0:I _ (aa b #[.pointer (D (F ym 0 B)),a o 0,.slice yA yps.length yc,E bz,.slice yG gn0.length yd,a o td.page,a o td.size,a o td.frame,a o td.rights,.slice (D (F ygw 0 B)) yps.length yps.length] 52*(aa ygw (bm yps.length (bI wt)) 4*(aa w.heap.size #[a o m.page,a o m.size,a o m.frame,a o m.rights] 39*(bF (.slice yA yps.length yc) yps*(aL yps cs*(az ym s*(ao (.slice G g.length gd) g*R))))))):=
  ((h.new #[a o m.page,a o m.size,a o m.frame,a o m.rights] 39).eq (show _=ao (.slice yG gn0.length yd) gn0*(aa b #[.pointer (D (F ym 0 B)),a o 0,.slice yA yps.length yc,E bz,.slice yG gn0.length yd,a o td.page,a o td.size,a o td.frame,a o td.rights,.slice (D (F ygw 0 B)) yps.length yps.length] 52*(aa ygw (bm yps.length (bI wt)) 4*(aa w.heap.size #[a o m.page,a o m.size,a o m.frame,a o m.rights] 39*(bF (.slice yA yps.length yc) yps*(aL yps cs*(az ym s*(ao (.slice G g.length gd) g*R))))))) by ac_rfl)).right
 have x0:=(Ext.refl w).alloc (.cells #[a o m.page,a o m.size,a o m.frame,a o m.rights] 39);have HS:=C (fun(w':U) (h:I w' (aa ygw (bm yps.length (bI (ud wt yps.length))) 4*(aa b #[.pointer (D (F ym 0 B)),a o 0,.slice yA yps.length yc,E J,.slice G g.length gd,a o m.page,a o m.size,a o m.frame,a o m.rights,.slice (D (F ygw 0 B)) yps.length yps.length] 52*(aa w.heap.size #[a o m.page,a o m.size,a o m.frame,a o m.rights] 39*(bF (.slice yA yps.length yc) yps*(aL yps cs*(az ym s*(ao (.slice G g.length gd) g*R))))))))=>show I w' (cq b (Sc.post ⟨s,cs,td,wt,bz,gn0⟩ s m g)*R) from by
  have h1:=h.tabExt (f':=bI (eM cs.length)) (fun j hj=>by unfold bI ud eM;rw[←hy,decide_eq_true hj];rfl);have h2:I w' (aa w.heap.size #[a o m.page,a o m.size,a o m.frame,a o m.rights] 39*(aa b #[.pointer (D (F ym 0 B)),a o 0,.slice yA yps.length yc,E J,.slice G g.length gd,a o m.page,a o m.size,a o m.frame,a o m.rights,.slice (D (F ygw 0 B)) yps.length yps.length] 52*(bF (.slice yA yps.length yc) yps*(ao (.slice G g.length gd) g*(aa ygw (bm yps.length (bI (eM cs.length))) 4*(aL yps cs*(az ym s*R))))))):=h1.eq (by ac_rfl);exact fR (y:=⟨ym,yA,yc,yps,G,gd,ygw⟩) hy h2.right)
 have hK:yps.length≤4:=by omega
 clear h hy hfew;obtain⟨c0,c1,c2,c3,c4,c5,c6,c7,c8,c9⟩:=h0.cells10;have f3:=h0.free 3;have f4:=h0.free 4;have f5:=h0.free 5;have f6:=h0.free 6;have f7:=h0.free 7;have f8:=h0.free 8;have cl:=h0.lt;obtain⟨m0,m1,m2,m3⟩:=h0.right.right.cells4;have ml:=h0.right.right.lt;go_enter func116,ntmps116;go_upto_region 1 with fail;have hne:b≠w.heap.size:=Has.ne (h0.eq (show _=aa b #[.pointer (D (F ym 0 B)),a o 0,.slice yA yps.length yc,E bz,.slice yG gn0.length yd,a o td.page,a o td.size,a o td.frame,a o td.rights,.slice (D (F ygw 0 B)) yps.length yps.length] 52*(aa w.heap.size #[a o m.page,a o m.size,a o m.frame,a o m.rights] 39*(aa ygw (bm yps.length (bI wt)) 4*(bF (.slice yA yps.length yc) yps*(aL yps cs*(az ym s*(ao (.slice G g.length gd) g*R)))))) by ac_rfl));have hne2:=hne.symm;generalize w.alloc _=w1 at*
 generalize w.heap.size=X at*
 go_cut [] from 7 to 17 (fun wx=>I wx (aa b #[.pointer (D (F ym 0 B)),a o 0,.slice yA yps.length yc,E J,.slice G g.length gd,a o m.page,a o m.size,a o m.frame,a o m.rights,.slice (D (F ygw 0 B)) yps.length yps.length] 52*(aa ygw (bm yps.length (bI wt)) 4*(aa X #[a o m.page,a o m.size,a o m.frame,a o m.rights] 39*(bF (.slice yA yps.length yc) yps*(aL yps cs*(az ym s*(ao (.slice G g.length gd) g*R)))))))∧V w wx)
 case first=>
  clear HS;obtain⟨k1,k2,k3,k4,k5,k6⟩:=ra h0 (E J) (.slice G g.length gd) (a o m.page) (a o m.size) (a o m.frame) (a o m.rights);go_region
  all_goals
   go_wp2_with fail
   go_meet
   case rel=>exact⟨by first|(with_reducible exact k1.drew)|(with_reducible exact k2.drew)|(with_reducible exact k3.drew)|(with_reducible exact k4.drew)|(with_reducible exact k5.drew)|(with_reducible exact k6.drew),ah⟩
 case rest=>
  obtain⟨h1,x1⟩:=hcut;clear h0 x0 c0 c1 c2 c3 c4 c5 c6 c7 c8 c9 f3 f4 f5 f6 f7 f8 cl m0 m1 m2 m3 ml hne hne2;have h2:I _ (aa ygw (bm yps.length (bI (ud wt 0))) 4*(aa b #[.pointer (D (F ym 0 B)),a o 0,.slice yA yps.length yc,E J,.slice G g.length gd,a o m.page,a o m.size,a o m.frame,a o m.rights,.slice (D (F ygw 0 B)) yps.length yps.length] 52*(aa X #[a o m.page,a o m.size,a o m.frame,a o m.rights] 39*(bF (.slice yA yps.length yc) yps*(aL yps cs*(az ym s*(ao (.slice G g.length gd) g*R))))))):=(h1.p2).tabExt (f':=bI (ud wt 0)) (fun j _=>by unfold bI ud;simp);go_wp2_with fail
  go_loopw [6] (fun t wz=>∃k:Nat,k≤yps.length∧t=a o k∧I wz (aa ygw (bm yps.length (bI (ud wt k))) 4*(aa b #[.pointer (D (F ym 0 B)),a o 0,.slice yA yps.length yc,E J,.slice G g.length gd,a o m.page,a o m.size,a o m.frame,a o m.rights,.slice (D (F ygw 0 B)) yps.length yps.length] 52*(aa X #[a o m.page,a o m.size,a o m.frame,a o m.rights] 39*(bF (.slice yA yps.length yc) yps*(aL yps cs*(az ym s*(ao (.slice G g.length gd) g*R)))))))∧V w wz) (fun t _=>yps.length - (intOf t).toNat)
  case atStart=>exact⟨0,by omega,rfl,h2,x1⟩
  case round=>
   clear h1 h2 x1;obtain⟨k,hk,rfl,hz,hxz⟩:=hrel;have c9:=hz.right.cell 9;have cl:=hz.right.lt;by_cases hkl:k<yps.length
   ·have q0:=hz.tabGet hkl
    have q1:=hz.free k;have ql:=hz.lt;have h3:I _ (aa ygw (bm yps.length (bI (ud wt (k+1)))) 4*(aa b #[.pointer (D (F ym 0 B)),a o 0,.slice yA yps.length yc,E J,.slice G g.length gd,a o m.page,a o m.size,a o m.frame,a o m.rights,.slice (D (F ygw 0 B)) yps.length yps.length] 52*(aa X #[a o m.page,a o m.size,a o m.frame,a o m.rights] 39*(bF (.slice yA yps.length yc) yps*(aL yps cs*(az ym s*(ao (.slice G g.length gd) g*R))))))):=(hz.tabSet k (E J)).tabExt (f':=bI (ud wt (k+1))) (fun j _=>by
     unfold bI ud bU;by_cases e:j=k
     ·rw[if_pos e,e,decide_eq_true (by omega)];rfl
     ·rw[if_neg e]
      show E (decide (j<k)||wt j)=E (decide (j<k+1)||wt j);by_cases e2:j<k
      ·rw[decide_eq_true e2,decide_eq_true (by omega)]
      ·rw[decide_eq_false e2,decide_eq_false (by omega)])
    have x3:=hxz.set (F ygw k B) (E J);clear hz hxz;go_wp2_with fail
    go_roundw
    case rel=>exact⟨k+1,by omega,by go_num,h3,x3⟩
    case measure=>simp[intOf];omega
   ·obtain rfl:k=yps.length:=by omega
    go_wp2_with fail
    exact S (v:= .tuple #[]) (by simp[results,results116]) rfl ⟨rfl,HS.out _ hz,hxz⟩
set_option maxHeartbeats 2000000 in
theorem iY(e:En)(l:Int)(w:U):ad prog 124 #[.agg #[E e.there,E e.leaf,a o e.rights,E e.used,E e.dirty,a o e.frame],.int .i64 l] w (Pure (.tuple #[a vU (bt e l),a o (aj e l)]) w):=by
 obtain⟨th,leaf,r,u,d,f⟩:=e;have h1:=Has.new (aT w) #[E th,E leaf,a o r,E u,E d,a o f] 70;have x1:=(Ext.refl w).alloc (.cells #[E th,E leaf,a o r,E u,E d,a o f] 70);have HC:=C (fun W=>fB ⟨th,leaf,r,u,d,f⟩ l W);by_cases hc:aj ⟨th,leaf,r,u,d,f⟩ l=0
 ·rw[hc] at HC⊢
  cases th with
  |false=>
   have hy:=C (show bt ⟨H,leaf,r,u,d,f⟩ l=0 by unfold bt;rw[if_neg (by simp)]);clear hc;go_enter func124,ntmps124;go_wp2_with fail
   refine(HC.out _).mono ?_;rintro e w2 ⟨rfl,bl⟩;have h2:=h1.below bl;obtain⟨c0,c1,c2,c3,c4,c5⟩:=h2.cells6;go_wp2;go_ret2
   exact⟨by rw[hy.out];rfl,aq h2.right (x1.below bl)⟩
  |true=>
   have hk:=dB hc rfl;have hy:=C (show bt ⟨J,leaf,r,u,d,f⟩ l=ft ⟨J,leaf,r,u,d,f⟩ l by unfold bt;rw[if_pos ⟨hc,rfl⟩]);have r0:0≤r:=hk.r0;have r7:r≤7:=hk.r7;have f0:0≤f:=hk.f0;have f1:f<1048576:=hk.f1;have l0:=hk.l0;have l4:=hk.l4;clear hc hk;by_cases lz:l=0
   ·subst lz
    cases leaf<;>cases u<;>cases d
    all_goals
     go_enter func124,ntmps124;go_wp2_with fail
     refine(HC.out _).mono ?_;rintro e w2 ⟨rfl,bl⟩;have h2:=h1.below bl;obtain⟨c0,c1,c2,c3,c4,c5⟩:=h2.cells6;have b2:=aq h2.right (x1.below bl);clear h1 x1 h2 bl HC;go_wp2;go_ret2
     refine⟨?_,b2⟩;rw[hy.out];show P (.tuple #[a vU _,a o 0])=_;refine congrArg (fun n:Int=>P (.tuple #[a vU n,a o 0])) ?_;unfold ft;simp[iC];try omega
   ·have hz:(l !=0)=J:=by simpa using lz
    have hz':=C hz;clear lz;cases leaf<;>cases u<;>cases d
    all_goals
     go_enter func124,ntmps124;go_wp2_with fail
     refine(HC.out _).mono ?_;rintro e w2 ⟨rfl,bl⟩;have h2:=h1.below bl;obtain⟨c0,c1,c2,c3,c4,c5⟩:=h2.cells6;have b2:=aq h2.right (x1.below bl);clear h1 x1 h2 bl HC;go_wp2;go_ret2
     refine⟨?_,b2⟩;rw[hy.out];show P (.tuple #[a vU _,a o 0])=_;refine congrArg (fun n:Int=>P (.tuple #[a vU n,a o 0])) ?_;unfold ft;simp[iC,hz'.out];try omega
 ·have hy:=C (show bt ⟨th,leaf,r,u,d,f⟩ l=0 from l6 hc)
  have hn:(aj ⟨th,leaf,r,u,d,f⟩ l !=0)=J:=by simpa using hc
  clear hc;generalize aj ⟨th,leaf,r,u,d,f⟩ l=c at*
  go_enter func124,ntmps124;go_wp2_with fail
  refine(HC.out _).mono ?_;rintro e w2 ⟨rfl,bl⟩;have h2:=h1.below bl;go_wp2;go_ret2
  exact⟨by rw[hy.out];rfl,aq h2.right (x1.below bl)⟩
theorem kj{s:Ms}{r:Int}{x:Mp}(h:cT s r x≠0):dJ s r x=s:=by unfold dJ;rw[if_neg h]
set_option maxHeartbeats 8000000 in
theorem xT(q:Nat)(s:Ms)(root:Int)(x:Mp)(R:ab)(w:U)(hs:s.Ok)(h:I w (az q s*R)):
  ad prog 113 #[.pointer (D (F q 0 B)),a o root,.agg #[a o x.page,a o x.size,a o x.frame,a o x.rights]] w (cI (a o (cT s root x)) (az q (dJ s root x)*R) w):=by
 have h0:=h.new #[a o x.page,a o x.size,a o x.frame,a o x.rights] 39;have x0:=(Ext.refl w).alloc (.cells #[a o x.page,a o x.size,a o x.frame,a o x.rights] 39);have HC:=C (gx x);by_cases hck:ba x=0
 case neg=>
  have hic:cT s root x=ba x:=by unfold cT;rw[if_pos hck]
  have HI:=C (And.intro hic (kj (s:=s) (r:=root) (x:=x) (by rw[hic];exact hck)));have hn:(ba x !=0)=J:=by simpa using hck
  rw[HI.out.1,HI.out.2];generalize ba x=cx at*
  clear hck h hic;obtain⟨c0,c1,c2,c3⟩:=h0.cells4;go_enter func113,ntmps113;go_wp2_with fail
  refine(HC.out _).mono ?_;rintro e w2 ⟨rfl,b2⟩;go_wp2_with fail
  go_ret;exact⟨rfl,h0.right.below b2,x0.below b2⟩
 obtain⟨hp,z,hz0,hz2⟩:=lE hck;have HZ:=C hz0;clear hz0;have W1:=C (fun w' (h:I w' (az q s*(aa w.heap.size #[a o x.page,a o x.size,a o x.frame,a o x.rights] 39*R)))=>jI q s root x.page _ w' hs h);rw[hck] at HC;by_cases hcode:(bp s root x.page).code =0
 case neg=>
  have hic:cT s root x=(bp s root x.page).code :=by unfold cT;rw[if_neg (by rw[hck];simp),if_pos hcode]
  have HI:=C (And.intro hic (kj (s:=s) (r:=root) (x:=x) (by rw[hic];exact hcode)));rw[HI.out.1,HI.out.2];clear hic hck h;generalize bp s root x.page=y at*
  obtain⟨code,tabs,N,th,lf,rg,us,di,fr⟩:=y;dsimp only at*
  have hn:(code !=0)=J:=by simpa using hcode
  clear hcode;obtain⟨c0,c1,c2,c3⟩:=h0.cells4;have cl:=h0.lt;go_enter func113,ntmps113;go_wp2_with fail
  refine(HC.out _).mono ?_;rintro e w2 ⟨rfl,b2⟩;have h2:=h0.below b2;have x2:=x0.below b2;clear h0 x0 b2 c0 c1 c2 c3 cl;obtain⟨c0,c1,c2,c3⟩:=h2.cells4;have cl:=h2.lt;go_wp2_with fail
  refine(W1.out _ h2.p2).mono ?_;rintro e w3 hF;obtain⟨A,c,rfl,h3,x3⟩:∃(A:Option Z) (c:Nat),e= .returned (.tuple #[.agg #[.slice A tabs.length c,E th,E lf,a o rg,E us,E di,a o fr,a o N],a o code])∧I w3 (ao (.slice A tabs.length c) tabs*bS w2 w2.heap.size)∧V w2 w3:=hF;have h5:I _ (aa w3.heap.size #[.slice A tabs.length c,E th,E lf,a o rg,E us,E di,a o fr,a o N] 146*(ao (.slice A tabs.length c) tabs*(aa w.heap.size #[a o x.page,a o x.size,a o x.frame,a o x.rights] 39*(az q s*R)))):=(h2.onto' h3).new #[.slice A tabs.length c,E th,E lf,a o rg,E us,E di,a o fr,a o N] 146;have x5:=(x2.trans x3).alloc (.cells #[.slice A tabs.length c,E th,E lf,a o rg,E us,E di,a o fr,a o N] 146);clear h2 x2 h3 x3 c0 c1 c2 c3 cl W1 HC;go_upto_region 5 with fail;generalize w3.alloc _=w5 at*
  generalize w3.heap.size=X1 at*
  generalize w.heap.size=X0 at*
  obtain⟨c0,c1,c2,c3⟩:=h5.right.right.cells4;have cl:=h5.right.right.lt;obtain⟨k0,k1,k2,k3,k4,k5,k6,k7⟩:=h5.cells8;have kl:=h5.lt;go_wp2_with fail
  go_ret;exact⟨rfl,h5.r3,x5⟩
 by_cases hbad:(bp s root x.page).e.there =J∨(bp s root x.page).lev <x.size
 case pos=>
  have hic:cT s root x=4:=by unfold cT;rw[if_neg (by rw[hck];simp),if_neg (by rw[hcode];simp),if_pos hbad]
  have HI:=C (And.intro hic (kj (s:=s) (r:=root) (x:=x) (by rw[hic];decide)));rw[HI.out.1,HI.out.2];clear hic hck h;generalize bp s root x.page=y at*
  obtain⟨code,tabs,N,th,lf,rg,us,di,fr⟩:=y;dsimp only at*
  subst hcode;cases th with
  |true=>
   clear hbad;obtain⟨c0,c1,c2,c3⟩:=h0.cells4;have cl:=h0.lt;go_enter func113,ntmps113;go_wp2_with fail
   refine(HC.out _).mono ?_;rintro e w2 ⟨rfl,b2⟩;have h2:=h0.below b2;have x2:=x0.below b2;clear h0 x0 b2 c0 c1 c2 c3 cl;obtain⟨c0,c1,c2,c3⟩:=h2.cells4;have cl:=h2.lt;go_wp2_with fail
   refine(W1.out _ h2.p2).mono ?_;rintro e w3 hF;obtain⟨A,c,rfl,h3,x3⟩:∃(A:Option Z) (c:Nat),e= .returned (.tuple #[.agg #[.slice A tabs.length c,E J,E lf,a o rg,E us,E di,a o fr,a o N],a o 0])∧I w3 (ao (.slice A tabs.length c) tabs*bS w2 w2.heap.size)∧V w2 w3:=hF;have h5:I _ (aa w3.heap.size #[.slice A tabs.length c,E J,E lf,a o rg,E us,E di,a o fr,a o N] 146*(ao (.slice A tabs.length c) tabs*(aa w.heap.size #[a o x.page,a o x.size,a o x.frame,a o x.rights] 39*(az q s*R)))):=(h2.onto' h3).new #[.slice A tabs.length c,E J,E lf,a o rg,E us,E di,a o fr,a o N] 146;have x5:=(x2.trans x3).alloc (.cells #[.slice A tabs.length c,E J,E lf,a o rg,E us,E di,a o fr,a o N] 146);clear h2 x2 h3 x3 c0 c1 c2 c3 cl W1 HC;go_upto_region 5 with fail;generalize w3.alloc _=w5 at*
   generalize w3.heap.size=X1 at*
   generalize w.heap.size=X0 at*
   obtain⟨c0,c1,c2,c3⟩:=h5.right.right.cells4;have cl:=h5.right.right.lt;obtain⟨k0,k1,k2,k3,k4,k5,k6,k7⟩:=h5.cells8;have kl:=h5.lt;go_wp2_with fail
   go_ret;exact⟨rfl,h5.r3,x5⟩
  |false=>
   have hlt:N<x.size:=by rcases hbad with h|h;· cases h
                         ·exact h
   clear hbad;obtain⟨c0,c1,c2,c3⟩:=h0.cells4;have cl:=h0.lt;go_enter func113,ntmps113;go_wp2_with fail
   refine(HC.out _).mono ?_;rintro e w2 ⟨rfl,b2⟩;have h2:=h0.below b2;have x2:=x0.below b2;clear h0 x0 b2 c0 c1 c2 c3 cl;obtain⟨c0,c1,c2,c3⟩:=h2.cells4;have cl:=h2.lt;go_wp2_with fail
   refine(W1.out _ h2.p2).mono ?_;rintro e w3 hF;obtain⟨A,c,rfl,h3,x3⟩:∃(A:Option Z) (c:Nat),e= .returned (.tuple #[.agg #[.slice A tabs.length c,E H,E lf,a o rg,E us,E di,a o fr,a o N],a o 0])∧I w3 (ao (.slice A tabs.length c) tabs*bS w2 w2.heap.size)∧V w2 w3:=hF;have h5:I _ (aa w3.heap.size #[.slice A tabs.length c,E H,E lf,a o rg,E us,E di,a o fr,a o N] 146*(ao (.slice A tabs.length c) tabs*(aa w.heap.size #[a o x.page,a o x.size,a o x.frame,a o x.rights] 39*(az q s*R)))):=(h2.onto' h3).new #[.slice A tabs.length c,E H,E lf,a o rg,E us,E di,a o fr,a o N] 146;have x5:=(x2.trans x3).alloc (.cells #[.slice A tabs.length c,E H,E lf,a o rg,E us,E di,a o fr,a o N] 146);clear h2 x2 h3 x3 c0 c1 c2 c3 cl W1 HC;go_upto_region 5 with fail;generalize w3.alloc _=w5 at*
   generalize w3.heap.size=X1 at*
   generalize w.heap.size=X0 at*
   obtain⟨c0,c1,c2,c3⟩:=h5.right.right.cells4;have cl:=h5.right.right.lt;obtain⟨k0,k1,k2,k3,k4,k5,k6,k7⟩:=h5.cells8;have kl:=h5.lt;go_wp2_with fail
   go_ret;exact⟨rfl,h5.r3,x5⟩
 obtain⟨_,n,hn,hn3,hl,hu⟩:=eK hcode
 have hth:(bp s root x.page).e.there =H:=by cases h:(bp s root x.page).e.there;· rfl
                                            ·exact absurd (.inl h) hbad
 obtain⟨m,hm⟩:∃m:Nat,n+m+z=3:=⟨3 - n - z,by have:=HZ.out;have hls:¬((bp s root x.page).lev <x.size):=fun h=>hbad (.inr h);omega⟩;have hmm:(bp s root x.page).lev - x.size=(m:Int):=by have:=HZ.out;omega
 have HFR:=C (fun R w h=>uI (q:=q) (s:=s) (R:=R) (w:=w) h hs);have hmw:IntKind.i64.wrap (m:Int)=(m:Int):=by rw[O];omega
 by_cases hfull:s.frees.length<m
 case pos=>
  have hic:cT s root x=6:=by
   unfold cT;rw[if_neg (by rw[hck];simp),if_neg (by rw[hcode];simp),if_neg hbad,if_pos (by have:=HZ.out;omega)]
  have HI:=C (And.intro hic (kj (s:=s) (r:=root) (x:=x) (by rw[hic];decide)));rw[HI.out.1,HI.out.2];clear hic hck h hu hn hl;generalize bp s root x.page=y at*
  obtain⟨code,tabs,N,th,lf,rg,us,di,fr⟩:=y;dsimp only at*
  subst hcode hth;clear hbad;obtain⟨c0,c1,c2,c3⟩:=h0.cells4;have cl:=h0.lt;go_enter func113,ntmps113;go_wp2_with fail
  refine(HC.out _).mono ?_;rintro e w2 ⟨rfl,b2⟩;have h2:=h0.below b2;have x2:=x0.below b2;clear h0 x0 b2 c0 c1 c2 c3 cl;obtain⟨c0,c1,c2,c3⟩:=h2.cells4;have cl:=h2.lt;go_wp2_with fail
  refine(W1.out _ h2.p2).mono ?_;rintro e w3 hF;obtain⟨A,c,rfl,h3,x3⟩:∃(A:Option Z) (c:Nat),e= .returned (.tuple #[.agg #[.slice A tabs.length c,E H,E lf,a o rg,E us,E di,a o fr,a o N],a o 0])∧I w3 (ao (.slice A tabs.length c) tabs*bS w2 w2.heap.size)∧V w2 w3:=hF;have h5:I _ (aa w3.heap.size #[.slice A tabs.length c,E H,E lf,a o rg,E us,E di,a o fr,a o N] 146*(ao (.slice A tabs.length c) tabs*(aa w.heap.size #[a o x.page,a o x.size,a o x.frame,a o x.rights] 39*(az q s*R)))):=(h2.onto' h3).new #[.slice A tabs.length c,E H,E lf,a o rg,E us,E di,a o fr,a o N] 146;have x5:=(x2.trans x3).alloc (.cells #[.slice A tabs.length c,E H,E lf,a o rg,E us,E di,a o fr,a o N] 146);clear h2 x2 h3 x3 c0 c1 c2 c3 cl W1 HC;go_upto_region 5 with fail;generalize w3.alloc _=w5 at*
  generalize w3.heap.size=X1 at*
  generalize w.heap.size=X0 at*
  obtain⟨c0,c1,c2,c3⟩:=h5.right.right.cells4;have cl:=h5.right.right.lt;obtain⟨k0,k1,k2,k3,k4,k5,k6,k7⟩:=h5.cells8;have kl:=h5.lt;have hmw2:IntKind.i64.wrap (N - x.size)=(m:Int):=by rw[hmm];exact hmw
  have hfi:(s.frees.length:Int)< (m:Int):=by omega
  go_upto_region 9 with fail;have v1:=ae c1;have v7:=ae k7;have HFW:=C (fun u=>HFR.out _ _ ((h5.via u).eq (show _=az q s*(aa X1 #[.slice A tabs.length c,E H,E lf,a o rg,E us,E di,a o fr,a o N] 146*(ao (.slice A tabs.length c) tabs*(aa X0 #[a o x.page,a o x.size,a o x.frame,a o x.rights] 39*R))) by ac_rfl)));refine ap (by kernel_rfl) (by kernel_rfl) ?_;repeat(first|go_big_quiet_step ((go_at_call 26;exact Pure.via (HFW.out _)))|quiet_step ((go_at_call 26;exact Pure.via (HFW.out _))))
  refine wpQuiet_nil ?_;intro _ hw';obtain⟨uq,hw''⟩:=hw';subst hw'';have h6:=h5.via uq;have x6:=x5.below (aB _ uq);generalize fJ w5 uq=w6 at*
  go_wp2_with fail
  go_ret;exact⟨rfl,h6.r3,x6⟩
 have hic:cT s root x=0:=by
  unfold cT;rw[if_neg (by rw[hck];simp),if_neg (by rw[hcode];simp),if_neg hbad,if_neg (by have:=HZ.out;omega)]
 obtain⟨t,ht⟩:∃t,(bp s root x.page).tabs[n]? =D t:=⟨_,T (by omega)⟩;have hht:s.has t=J:=hu t (by obtain⟨hl,e⟩:=K.1 ht;exact e▸List.getElem_mem hl);have hins:dJ s root x=dD s x.page (bt (dj x) x.size) z m t:=by
  unfold dJ;rw[if_pos hic,jE hn ht];have e1:((bp s root x.page).lev - x.size).toNat =m:=by omega
  have e2:x.size.toNat=z:=by have:=HZ.out;omega
  rw[e1,e2]
 have HIC:=C hic;have HINS:=C hins;rw[HIC.out];obtain⟨ht0,htn,_⟩:=Ms.has_iff.1 hht;obtain⟨tn,rfl⟩:=M ht0;generalize dJ s root x=sF at*
 have HN:=C hn;have HT:=C ht;have HHT:=C hht;clear hic hck h hu hn ht hins ht0 HIC hht htn;generalize bp s root x.page=y at*
 obtain⟨code,tabs,N,th,lf,rg,us,di,fr⟩:=y;dsimp only at*
 subst hcode hth;have HLV:=C hl;clear hbad hl;obtain⟨c0,c1,c2,c3⟩:=h0.cells4;have cl:=h0.lt;go_enter func113,ntmps113;go_wp2_with fail
 refine(HC.out _).mono ?_;rintro e w2 ⟨rfl,b2⟩;have h2:=h0.below b2;have x2:=x0.below b2;clear h0 x0 b2 c0 c1 c2 c3 cl;obtain⟨c0,c1,c2,c3⟩:=h2.cells4;have cl:=h2.lt;go_wp2_with fail
 refine(W1.out _ h2.p2).mono ?_;rintro e w3 hF;obtain⟨A,c,rfl,h3,x3⟩:∃(A:Option Z) (c:Nat),e= .returned (.tuple #[.agg #[.slice A tabs.length c,E H,E lf,a o rg,E us,E di,a o fr,a o N],a o 0])∧I w3 (ao (.slice A tabs.length c) tabs*bS w2 w2.heap.size)∧V w2 w3:=hF;have h5:I _ (aa w3.heap.size #[.slice A tabs.length c,E H,E lf,a o rg,E us,E di,a o fr,a o N] 146*(ao (.slice A tabs.length c) tabs*(aa w.heap.size #[a o x.page,a o x.size,a o x.frame,a o x.rights] 39*(az q s*R)))):=(h2.onto' h3).new #[.slice A tabs.length c,E H,E lf,a o rg,E us,E di,a o fr,a o N] 146;have x5:=(x2.trans x3).alloc (.cells #[.slice A tabs.length c,E H,E lf,a o rg,E us,E di,a o fr,a o N] 146);clear h2 x2 h3 x3 c0 c1 c2 c3 cl W1 HC;go_upto_region 5 with fail;generalize w3.alloc _=w5 at*
 generalize w3.heap.size=X1 at*
 generalize w.heap.size=X0 at*
 obtain⟨c0,c1,c2,c3⟩:=h5.right.right.cells4;have cl:=h5.right.right.lt;obtain⟨k0,k1,k2,k3,k4,k5,k6,k7⟩:=h5.cells8;have kl:=h5.lt;have hmw2:IntKind.i64.wrap (N - x.size)=(m:Int):=by rw[hmm];exact hmw
 have hfi:¬((s.frees.length:Int)< (m:Int)):=by omega
 go_upto_region 9 with fail;have v1:=ae c1;have v7:=ae k7;have HFW:=C (fun u=>HFR.out _ _ ((h5.via u).eq (show _=az q s*(aa X1 #[.slice A tabs.length c,E H,E lf,a o rg,E us,E di,a o fr,a o N] 146*(ao (.slice A tabs.length c) tabs*(aa X0 #[a o x.page,a o x.size,a o x.frame,a o x.rights] 39*R))) by ac_rfl)));refine ap (by kernel_rfl) (by kernel_rfl) ?_;repeat(first|go_big_quiet_step ((go_at_call 26;exact Pure.via (HFW.out _)))|quiet_step ((go_at_call 26;exact Pure.via (HFW.out _))))
 refine wpQuiet_nil ?_;intro _ hw';obtain⟨uq,hw''⟩:=hw';subst hw'';have h6:=h5.via uq;have x6:=x5.below (aB _ uq);generalize fJ w5 uq=w6 at*
 clear h5 x5 v1 v7 HFW HFR c0 c1 c2 c3 cl k0 k1 k2 k3 k4 k5 k6 k7 kl;obtain⟨bA,hA1,hA2,hA3⟩:=db h6.right (k:=n) (by have:=HN.out;omega);rw[(K.1 HT.out).2] at hA3;subst hA1;have hlen1:((tabs.length:Nat):Int) - 1=(n:Int):=by have:=HN.out;omega
 have hni:(n:Int)<tabs.length:=by have:=HN.out;omega
 have hn0:¬((n:Int)<0):=by omega
 have hn00:(0:Int)≤(n:Int):=by omega
 have hwn:IntKind.i64.wrap (n:Int)=(n:Int):=by rw[O];omega
 have hwn2:IntKind.i64.wrap (((tabs.length:Nat):Int) - 1)=(n:Int):=by rw[hlen1];exact hwn
 obtain⟨k0,k1,k2,k3,k4,k5,k6,k7⟩:=h6.cells8;have kl:=h6.lt;go_upto_region 13 with fail;obtain⟨QQ,hQQ⟩:∃Q:ab,Q=(aa X1 #[.slice (D (F bA 0 B)) tabs.length c,E H,E lf,a o rg,E us,E di,a o fr,a o N] 146*ao (.slice (D (F bA 0 B)) tabs.length c) tabs):=⟨_,rfl⟩;have h7:I w6 (az q s*(aa X0 #[a o x.page,a o x.size,a o x.frame,a o x.rights] 39*(QQ*R))):=by rw[hQQ];exact h6.eq (by ac_rfl)
 obtain⟨g0,hg0⟩:∃g0:Nat,N=(g0:Int):=⟨z+m,by have:=HLV.out;omega⟩;have hlw:=gX (dj x) x.size;have HOUT:=C (show g0=z+m∧m≤m∧m≤s.frees.length∧s.Ok∧s.has (tn:Int)=J∧sF=dD s x.page (bt (dj x) x.size) z m tn from⟨by have:=HLV.out;omega,Nat.le_refl _,by omega,hs,HHT.out,HINS.out⟩);have HG0:=C hg0;clear h6 k0 k1 k2 k3 k4 k5 k6 k7 kl hA2 hA3 hQQ hlen1 hni hn0 hn00 hwn hwn2 hmw2 hfi hfull hg0;go_loopw [10,11] (fun t10 t11 wr=>∃(m' g tt:Nat) (σ:Ms),t10=a o (tt:Int)∧t11=a o (g:Int)∧Hid (g=z+m'∧m'≤m∧m'≤σ.frees.length∧σ.Ok∧σ.has (tt:Int)=J∧sF=dD σ x.page (bt (dj x) x.size) z m' tt)∧I wr (az q σ*(aa X0 #[a o x.page,a o x.size,a o x.frame,a o x.rights] 39*(QQ*R)))∧V w wr) (fun _ t11 _=>(intOf t11).toNat)
 case atStart=>exact⟨m,g0,tn,s,rfl,by rw[HG0.out],HOUT,h7,x6⟩
 case round=>
  clear h7 x6 HOUT;obtain⟨m',g,tt,σ,rfl,rfl,HO,hr,hx⟩:=hrel;obtain⟨hgz,hmm',hmf,hσ,hht,hch⟩:=HO.out;obtain⟨_,htn',_⟩:=Ms.has_iff.1 hht;have hixr:=gQ (p:=x.page) (L:=(g:Int)) hp (by omega) (by omega);obtain⟨j,hj⟩:=M hixr.1;have hj8n:j<8:=by have:=hixr.2;omega
  have hj8:(j:Int)<8:=by omega
  obtain⟨c0,c1,c2,c3⟩:=hr.right.cells4;have cl:=hr.right.lt;by_cases hm0:m'=0
  ·have hcond:¬(x.size< (g:Int)):=by have:=HZ.out;omega
   have hfin:sF=σ.setW tt j (bt (dj x) x.size):=by
    rw[hch,hm0];show σ.setW (tt:Int).toNat (am x.page z).toNat _=_;have e:((z:Nat):Int)=(g:Int):=by omega
    rw[e,hj];rfl
   have hjs:am x.page x.size=(j:Int):=by
    have e:x.size=(g:Int):=by have:=HZ.out;omega
    rw[e,hj];done
   have HWD:=C (fun Y=>iY (dj x) x.size Y);unfold dj at HWD;dsimp only at HWD;have HI2:=C (fun Y=>dP x.page x.size Y);rw[hjs] at HI2;have htn:tt<σ.n:=by omega
   have htnz:(tt:Int)< (σ.n:Int):=by omega
   have HFIN:=C hfin;unfold dj at HFIN;clear hgz hmm' hmf hσ hht hch htn' hixr hj hm0 HO hjs hfin;generalize bt ⟨J,J,x.rights,H,H,x.frame⟩ x.size=nw at*
   generalize aj ⟨J,J,x.rights,H,H,x.frame⟩ x.size=ff at*
   obtain⟨gw,gi,vk,hq⟩:=cm hr;have HK:=C (fun(w':U) (sx:Ms) (h:I w' (da q gw gi vk sx (aa X0 #[a o x.page,a o x.size,a o x.frame,a o x.rights] 39*(QQ*R))))=>(by
    obtain⟨m0,m1,m2,m3⟩:=h.right.r3.cells4;exact⟨Has.cell h 0,m0,m1,m2,m3⟩:w'.cell? (F q 0 B)=D (.slice (D (F gw 0 B)) sx.n sx.n)∧w'.cell? (F X0 0 B)=D (a o x.page)∧w'.cell? (F X0 1 B)=D (a o x.size)∧w'.cell? (F X0 2 B)=D (a o x.frame)∧w'.cell? (F X0 3 B)=D (a o x.rights)))
   have hq0:=hq.drew;have xq0:=hx.drew;go_upto_region 18 with fail;go_cut [] from 84 to 107 (fun wx=>I wx (az q (σ.setW tt j nw)*(aa X0 #[a o x.page,a o x.size,a o x.frame,a o x.rights] 39*(QQ*R)))∧V w wx)
   case first=>
    go_region_held3 (fun w'=>w'.cell? (F q 0 B)=D (.slice (D (F gw 0 B)) σ.n σ.n)∧w'.cell? (F X0 0 B)=D (a o x.page)∧w'.cell? (F X0 1 B)=D (a o x.size)∧w'.cell? (F X0 2 B)=D (a o x.frame)∧w'.cell? (F X0 3 B)=D (a o x.rights)) (first|(with_reducible exact HK.out _ σ hq0)|(with_reducible exact HK.out _ σ hi5)|(with_reducible exact HK.out _ σ hw6)|(exact HK.out _ (σ.setW tt j nw) (df (k:=tt) (i:=j) hw6 hj8n nw))|(exact HK.out _ (σ.setW tt j nw) (df (k:=tt) (i:=j) hi5 hj8n nw))|go_keep) (first|(go_at_call 120;(with_reducible refine(HI2.out _).mono ?_);rintro e2 w5 ⟨rfl,b5⟩;first|(have hi5:=hw6.below b5;have xi5:=xw6.below b5;have y0:=bX hi5 htn hj8n;have y1:=hi5.right.free (tt*8+j);have y2:=hi5.right.lt)|(have hi5:=hq0.below b5;have xi5:=xq0.below b5))|(go_at_call 124;(with_reducible refine(HWD.out _).mono ?_);rintro e2 w6 ⟨rfl,b6⟩;first|(have hw6:=hi5.below b6;have xw6:=xi5.below b6;have y0:=bX hw6 htn hj8n;have y1:=hw6.right.free (tt*8+j);have y2:=hw6.right.lt)|(have hw6:=hq0.below b6;have xw6:=xq0.below b6)))
    all_goals
     go_wp2_with fail
     go_meet
     case rel=>first|exact⟨cR (df (k:=tt) (i:=j) hw6 hj8n nw),xw6.set _ _⟩|exact⟨cR (df (k:=tt) (i:=j) hi5 hj8n nw),xi5.set _ _⟩
   case rest=>
    clear hq hq0 xq0 hr hx HK c0 c1 c2 c3 cl;obtain⟨h9,x10⟩:=hcut;go_wp2_with fail
    go_ret;exact⟨rfl,by rw[HFIN.out];exact(h9.eq (show _=aa X0 #[a o x.page,a o x.size,a o x.frame,a o x.rights] 39*(QQ*(az q (σ.setW tt j nw)*R)) by ac_rfl)).right.right,x10⟩
  ·obtain⟨m2,hm2⟩:∃m2,m'=m2+1:=⟨m' - 1,by omega⟩
   have hcond:x.size< (g:Int):=by have:=HZ.out;omega
   obtain⟨k,hk⟩:=jd (s:=σ) (by omega);have hkl:=Ms.top_lt hσ.inv hk;have e1:σ.takeS=σ.take k:=by unfold Ms.takeS;rw[hk]
   have eV:σ.topV=(k:Int):=by unfold Ms.topV;rw[hk]
   have hok2:=hσ.takeS;have hfl2:=jC hk;have HT:=C (fun R w h=>uJ q σ R w h hσ);rw[e1] at HT hok2;rw[eV] at HT;have hnw:bt ⟨J,H,7,H,H,(k:Int)⟩ (g:Int)=iA k (z+m2+1):=by
    unfold iA rA;congr 1
    omega
   have hu64:=gX ⟨J,H,7,H,H,(k:Int)⟩ (g:Int);have hch2:sF=dD ((σ.take k).setW tt j (bt ⟨J,H,7,H,H,(k:Int)⟩ (g:Int))) x.page (bt (dj x) x.size) z m2 (k:Int):=by
    rw[hch,hm2];conv=>lhs;unfold dD
    rw[hk];dsimp only;rw[hnw];have e:((z+m2+1:Nat):Int)=(g:Int):=by omega
    rw[e,hj];rfl
   have HO2:=C (show g - 1=z+m2∧m2≤m∧m2≤((σ.take k).setW tt j (bt ⟨J,H,7,H,H,(k:Int)⟩ (g:Int))).frees.length ∧((σ.take k).setW tt j (bt ⟨J,H,7,H,H,(k:Int)⟩ (g:Int))).Ok ∧((σ.take k).setW tt j (bt ⟨J,H,7,H,H,(k:Int)⟩ (g:Int))).has (k:Int)=J∧sF=dD ((σ.take k).setW tt j (bt ⟨J,H,7,H,H,(k:Int)⟩ (g:Int))) x.page (bt (dj x) x.size) z m2 (k:Int) from
    ⟨by omega,by omega,by show m2≤(σ.take k).frees.length;omega,⟨hok2.inv.setW _ _ hu64,hok2.small⟩,by show(σ.take k).has (k:Int)=J;exact dI hkl.1,hch2⟩)
   have HWD:=C (fun Y=>iY ⟨J,H,7,H,H,(k:Int)⟩ (g:Int) Y);dsimp only at HWD;have HI2:=C (fun Y=>dP x.page (g:Int) Y);rw[hj] at HI2;have hn2:(σ.take k).n =σ.n:=rfl;have htnn:tt< (σ.take k).n :=by rw[hn2];omega
   have hg1:(g:Int) - 1=((g - 1:Nat):Int):=by omega
   have hgw:IntKind.i64.wrap (((g - 1:Nat)):Int)=((g - 1:Nat):Int):=by rw[O];omega
   have hgpos:0<g:=by omega
   have HGP:=C (And.intro hg1 (And.intro hgw hgpos));clear hgz hmm' hmf hσ hht hch htn' hixr hj hm0 hm2 hk hkl e1 eV hok2 hfl2 hnw hu64 hch2 hn2 hg1 hgw hgpos HO;generalize bt ⟨J,H,7,H,H,(k:Int)⟩ (g:Int)=nw at*
   generalize aj ⟨J,H,7,H,H,(k:Int)⟩ (g:Int)=ff at*
   generalize σ.take k=σ2 at*
   go_wp2_with fail
   refine(HT.out _ _ hr).mono ?_;rintro e w8 ⟨rfl,h8,x8⟩;have x9:=hx.trans x8;clear c0 c1 c2 c3 cl hr hx x8 HT;obtain⟨gw,gi,vk,hq⟩:=cm h8;have HK:=C (fun(w':U) (sx:Ms) (h:I w' (da q gw gi vk sx (aa X0 #[a o x.page,a o x.size,a o x.frame,a o x.rights] 39*(QQ*R))))=>(by
    obtain⟨m0,m1,m2,m3⟩:=h.right.r3.cells4;exact⟨Has.cell h 0,m0⟩:w'.cell? (F q 0 B)=D (.slice (D (F gw 0 B)) sx.n sx.n)∧w'.cell? (F X0 0 B)=D (a o x.page)))
   have htn:tt<σ2.n:=htnn;have htnz:(tt:Int)< (σ2.n:Int):=by omega
   have hn128:True:=trivial;have hq0:=hq.drew;have xq0:=x9.drew;go_upto_region 16 with fail;go_cut [] from 65 to 83 (fun wx=>I wx (az q (σ2.setW tt j nw)*(aa X0 #[a o x.page,a o x.size,a o x.frame,a o x.rights] 39*(QQ*R)))∧V w wx)
   case first=>
    go_region_held3 (fun w'=>w'.cell? (F q 0 B)=D (.slice (D (F gw 0 B)) σ2.n σ2.n)∧w'.cell? (F X0 0 B)=D (a o x.page)) (first|(with_reducible exact HK.out _ σ2 hq0)|(with_reducible exact HK.out _ σ2 hi5)|(with_reducible exact HK.out _ σ2 hw6)|(exact HK.out _ (σ2.setW tt j nw) (df (k:=tt) (i:=j) hw6 hj8n nw))|(exact HK.out _ (σ2.setW tt j nw) (df (k:=tt) (i:=j) hi5 hj8n nw))|go_keep) (first|(go_at_call 120;(with_reducible refine(HI2.out _).mono ?_);rintro e2 w5 ⟨rfl,b5⟩;first|(have hi5:=hw6.below b5;have xi5:=xw6.below b5;have y0:=bX hi5 htn hj8n;have y1:=hi5.right.free (tt*8+j);have y2:=hi5.right.lt)|(have hi5:=hq0.below b5;have xi5:=xq0.below b5))|(go_at_call 124;(with_reducible refine(HWD.out _).mono ?_);rintro e2 w6 ⟨rfl,b6⟩;first|(have hw6:=hi5.below b6;have xw6:=xi5.below b6;have y0:=bX hw6 htn hj8n;have y1:=hw6.right.free (tt*8+j);have y2:=hw6.right.lt)|(have hw6:=hq0.below b6;have xw6:=xq0.below b6)))
    all_goals
     go_wp2_with fail
     go_meet
     case rel=>first|exact⟨cR (df (k:=tt) (i:=j) hw6 hj8n nw),xw6.set _ _⟩|exact⟨cR (df (k:=tt) (i:=j) hi5 hj8n nw),xi5.set _ _⟩
   case rest=>
    clear hq hq0 xq0 h8 x9 HK;obtain⟨h9,x10⟩:=hcut;obtain⟨c0,c1,c2,c3⟩:=h9.right.cells4;have cl:=h9.right.lt;obtain⟨hg1,hgw,hgpos⟩:=HGP.out;have HGZ:=C hgpos;clear hgpos;go_wp2_with fail
    go_roundw
    case rel=>exact⟨m2,g - 1,k,_,rfl,by first|rfl|go_num,HO2,h9,x10⟩
    case measure=>have:=HGZ.out;simp[intOf];omega
set_option maxHeartbeats 8000000 in
theorem yr(q:Nat)(s:Ms)(root p ri:Int)(R:ab)(w:U)(hs:s.Ok)(h:I w (az q s*R)):
  ad prog 115 #[.pointer (D (F q 0 B)),a o root,a o p,a o ri] w (cI (.tuple #[(ku s root p ri).val,a o (iB s root p ri)]) (az q (gG s root p ri)*R) w):=by
 have h0:=h.new #[a o 0,a o 0,a o 0,a o 0] 39;have x0:=(Ext.refl w).alloc (.cells #[a o 0,a o 0,a o 0,a o 0] 39);by_cases hri:ri<0∨7<ri
 ·have hc:iB s root p ri=1:=by unfold iB;rw[if_pos hri]
  have hm:ku s root p ri=Mp.zero:=by unfold ku;rw[if_neg (by rw[hc];decide)]
  have hss:gG s root p ri=s:=by unfold gG;rw[if_neg (by rw[hc];decide)]
  rw[hc,hm,hss];clear hc hm hss h;obtain⟨c0,c1,c2,c3⟩:=h0.cells4;obtain⟨g0,g1,g2,g3⟩:=h0.frees4;have cl:=h0.lt;rcases hri with hri|hri
  ·go_enter func115,ntmps115
   go_wp2_with fail
   refine ak (fun wz=>I wz (aa w.heap.size #[a o 0,a o 0,a o 0,a o 0] 39*(az q s*R))∧V w wz) ⟨h0,ah⟩ ?_;rintro wz ⟨hz,xz⟩;exact S (av results115 rfl rfl (aV hz)) rfl ⟨rfl,hz.right,xz⟩
  ·by_cases hr0:ri<0
   ·omega
   go_enter func115,ntmps115;go_wp2_with fail
   refine ak (fun wz=>I wz (aa w.heap.size #[a o 0,a o 0,a o 0,a o 0] 39*(az q s*R))∧V w wz) ⟨h0,ah⟩ ?_;rintro wz ⟨hz,xz⟩;exact S (av results115 rfl rfl (aV hz)) rfl ⟨rfl,hz.right,xz⟩
 have hpc:iB s root p ri=bw s root p:=by unfold iB;rw[if_neg hri]
 have hr0:¬ri<0:=by omega
 have hr7:¬7<ri:=by omega
 have HFI:=C (fun R w h=>lN q s root p R w hs h);by_cases hfc:bw s root p=0
 case neg=>
  have hss:gG s root p ri=s:=by unfold gG;rw[if_neg (by rw[hpc];exact hfc)]
  have hm:ku s root p ri=Mp.zero:=by unfold ku;rw[if_neg (by rw[hpc];exact hfc)]
  rw[hss,hm,hpc];have hn:(bw s root p !=0)=J:=by simpa using hfc
  generalize bw s root p=fc at*
  generalize bK s root p=fm at*
  generalize iP s root p=fe at*
  clear hss hm hpc h hri hfc;go_enter func115,ntmps115;go_wp2_with fail
  refine(HFI.out _ _ h0.p2).mono ?_;rintro e w1 ⟨rfl,b1⟩;have h1:=h0.below b1;have x1:=x0.below b1;clear h0 x0 b1 HFI;have h4:I _ (aa w.heap.size #[a o 0,a o 0,a o 0,a o 0] 39*(az q s*(aa (w1.heap.size+1) #[E fe.there,E fe.leaf,a o fe.rights,E fe.used,E fe.dirty,a o fe.frame] 70*(aa w1.heap.size #[a o fm.page,a o fm.size,a o fm.frame,a o fm.rights] 39*R)))):=((h1.new #[a o fm.page,a o fm.size,a o fm.frame,a o fm.rights] 39).new #[E fe.there,E fe.leaf,a o fe.rights,E fe.used,E fe.dirty,a o fe.frame] 70).eq (by simp only[World.size_alloc];ac_rfl);have x4:=(x1.alloc (.cells #[a o fm.page,a o fm.size,a o fm.frame,a o fm.rights] 39)).alloc (.cells #[E fe.there,E fe.leaf,a o fe.rights,E fe.used,E fe.dirty,a o fe.frame] 70);clear h1 x1;unfold wI;go_upto_region 4 with fail;generalize (w1.alloc (.cells #[a o fm.page,a o fm.size,a o fm.frame,a o fm.rights] 39)).alloc (.cells #[E fe.there,E fe.leaf,a o fe.rights,E fe.used,E fe.dirty,a o fe.frame] 70)=w3 at*
  generalize w1.heap.size=X2 at*
  generalize w.heap.size=X0 at*
  obtain⟨r0,r1,r2,r3⟩:=h4.cells4;obtain⟨q0,q1,q2,q3⟩:=h4.frees4;have rl:=h4.lt;go_wp2_with fail
  refine ak (fun wz=>I wz (aa X0 #[a o 0,a o 0,a o 0,a o 0] 39*(az q s*(aa (X2+1) #[E fe.there,E fe.leaf,a o fe.rights,E fe.used,E fe.dirty,a o fe.frame] 70*(aa X2 #[a o fm.page,a o fm.size,a o fm.frame,a o fm.rights] 39*R))))∧V w wz) ⟨h4.set4 _ _ _ _,ah⟩ ?_;rintro wz ⟨hz,xz⟩;exact S (av results115 rfl rfl (aV hz)) rfl ⟨rfl,hz.right.eq (show _=aa (X2+1) #[E fe.there,E fe.leaf,a o fe.rights,E fe.used,E fe.dirty,a o fe.frame] 70*(aa X2 #[a o fm.page,a o fm.size,a o fm.frame,a o fm.rights] 39*(az q s*R)) by ac_rfl) |>.right.right,xz⟩
 have hcode:(bp s root p).code =0:=by
  unfold bw at hfc;split at hfc
  ·rename_i hn;exact absurd hfc hn
  ·rename_i hn;simpa using hn
 obtain⟨hp,n,hn,hn3,hl,hu⟩:=eK hcode;obtain⟨t,ht⟩:∃t,(bp s root p).tabs[n]? =D t:=⟨_,T (by omega)⟩;have hht:s.has t=J:=hu t (by obtain⟨hl,e⟩:=K.1 ht;exact e▸List.getElem_mem hl);have hixr:=gQ (p:=p) (L:=(bp s root p).lev) hp (by omega) (by omega);obtain⟨j,hj⟩:=M hixr.1;have hj8n:j<8:=by have:=hixr.2;omega
 have hj8:(j:Int)<8:=by omega
 have hfe:iP s root p=(bp s root p).e :=by unfold iP;rw[if_pos hfc]
 have hss:gG s root p ri=s.setW t.toNat j (bt {(iP s root p) with rights:=ri} (bp s root p).lev):=by
  unfold gG;rw[if_pos (by rw[hpc];exact hfc),jE hn ht,hj,hfe];rfl
 have hm:ku s root p ri={bK s root p with rights:=ri}:=by unfold ku;rw[if_pos (by rw[hpc];exact hfc)]
 obtain⟨ht0,htn',_⟩:=Ms.has_iff.1 hht;obtain⟨tn,rfl⟩:=M ht0;have htn:tn<s.n:=by omega
 have htnz:(tn:Int)< (s.n:Int):=by omega
 have HWD:=C (fun Y=>iY {(iP s root p) with rights:=ri} (bp s root p).lev Y);dsimp only at HWD;have HI2:=C (fun Y=>dP p (bp s root p).lev Y);rw[hj] at HI2;have HWT:=C (fun R w h=>jI q s root p R w hs h);rw[hpc,hm,hss,hfc];rw[hfc] at HFI;have HN:=C hn;have HT:=C ht;clear hss hm hpc hri h hcode hu hl hfc hn ht hj hixr hht ht0 htn';generalize bt {(iP s root p) with rights:=ri} (bp s root p).lev =nw at*
 generalize aj {(iP s root p) with rights:=ri} (bp s root p).lev =ff at*
 clear hfe;generalize bK s root p=fm at*
 generalize iP s root p=fe at*
 generalize bp s root p=y at*
 go_enter func115,ntmps115;go_wp2_with fail
 refine(HFI.out _ _ h0.p2).mono ?_;rintro e w1 ⟨rfl,b1⟩;have h1:=h0.below b1;have x1:=x0.below b1;clear h0 x0 b1 HFI;have h4:I _ (az q s*(aa w.heap.size #[a o 0,a o 0,a o 0,a o 0] 39*(aa (w1.heap.size+1) #[E fe.there,E fe.leaf,a o fe.rights,E fe.used,E fe.dirty,a o fe.frame] 70*(aa w1.heap.size #[a o fm.page,a o fm.size,a o fm.frame,a o fm.rights] 39*R)))):=((h1.new #[a o fm.page,a o fm.size,a o fm.frame,a o fm.rights] 39).new #[E fe.there,E fe.leaf,a o fe.rights,E fe.used,E fe.dirty,a o fe.frame] 70).eq (by simp only[World.size_alloc];ac_rfl);have x4:=(x1.alloc (.cells #[a o fm.page,a o fm.size,a o fm.frame,a o fm.rights] 39)).alloc (.cells #[E fe.there,E fe.leaf,a o fe.rights,E fe.used,E fe.dirty,a o fe.frame] 70);clear h1 x1;unfold wI;go_upto_region 4 with fail;generalize (w1.alloc (.cells #[a o fm.page,a o fm.size,a o fm.frame,a o fm.rights] 39)).alloc (.cells #[E fe.there,E fe.leaf,a o fe.rights,E fe.used,E fe.dirty,a o fe.frame] 70)=w3 at*
 generalize w1.heap.size=X2 at*
 generalize w.heap.size=X0 at*
 go_wp2_with fail
 refine(HWT.out _ _ h4).mono ?_;rintro e w5 hF;obtain⟨A,c,rfl,h5,x5⟩:∃(A:Option Z) (c:Nat),e= .returned (.tuple #[.agg #[.slice A y.tabs.length c,E y.e.there,E y.e.leaf,a o y.e.rights,E y.e.used,E y.e.dirty,a o y.e.frame,a o y.lev],a o y.code])∧I w5 (ao (.slice A y.tabs.length c) y.tabs*bS w3 w3.heap.size)∧V w3 w5:=hF;have h6:I _ (aa w5.heap.size #[.slice A y.tabs.length c,E y.e.there,E y.e.leaf,a o y.e.rights,E y.e.used,E y.e.dirty,a o y.e.frame,a o y.lev] 146*(ao (.slice A y.tabs.length c) y.tabs*(az q s*(aa X0 #[a o 0,a o 0,a o 0,a o 0] 39*(aa (X2+1) #[E fe.there,E fe.leaf,a o fe.rights,E fe.used,E fe.dirty,a o fe.frame] 70*(aa X2 #[a o fm.page,a o fm.size,a o fm.frame,a o fm.rights] 39*R)))))):=(h4.onto' h5).new #[.slice A y.tabs.length c,E y.e.there,E y.e.leaf,a o y.e.rights,E y.e.used,E y.e.dirty,a o y.e.frame,a o y.lev] 146;have x6:=(x4.trans x5).alloc (.cells #[.slice A y.tabs.length c,E y.e.there,E y.e.leaf,a o y.e.rights,E y.e.used,E y.e.dirty,a o y.e.frame,a o y.lev] 146);clear h4 x4 h5 x5 HWT;go_upto_region 7 with fail;generalize w5.alloc _=w6 at*
 generalize w5.heap.size=X5 at*
 obtain⟨bA,hA1,-,-⟩:=db h6.right (k:=n) (by have:=HN.out;omega);subst hA1;have h7:I w6 (aa (X2+1) #[E fe.there,E fe.leaf,a o fe.rights,E fe.used,E fe.dirty,a o fe.frame] 70*(aa X2 #[a o fm.page,a o fm.size,a o fm.frame,a o fm.rights] 39*(az q s*(aa X5 #[.slice (D (F bA 0 B)) y.tabs.length c,E y.e.there,E y.e.leaf,a o y.e.rights,E y.e.used,E y.e.dirty,a o y.e.frame,a o y.lev] 146*(ao (.slice (D (F bA 0 B)) y.tabs.length c) y.tabs*(aa X0 #[a o 0,a o 0,a o 0,a o 0] 39*R)))))):=h6.eq (by ac_rfl);obtain⟨e0,e1,e2,e3,e4,e5⟩:=h7.cells6;obtain⟨f0,f1,f2,f3,f4,f5⟩:=h7.frees6;have el:=h7.lt;have m3:=h7.right.cell 3;have g3:=h7.right.free 3;have ml:=h7.right.lt;have nn:=h7.ne;have nn':=nn.symm;have h8:I ((w6.setCell ⟨X2+1,2,B⟩ (a o ri)).setCell (F X2 3 B) (a o ri)) (aa X2 #[a o fm.page,a o fm.size,a o fm.frame,a o ri] 39*(aa (X2+1) #[E fe.there,E fe.leaf,a o ri,E fe.used,E fe.dirty,a o fe.frame] 70*(az q s*(aa X5 #[.slice (D (F bA 0 B)) y.tabs.length c,E y.e.there,E y.e.leaf,a o y.e.rights,E y.e.used,E y.e.dirty,a o y.e.frame,a o y.lev] 146*(ao (.slice (D (F bA 0 B)) y.tabs.length c) y.tabs*(aa X0 #[a o 0,a o 0,a o 0,a o 0] 39*R)))))):=(h7.set 2 (a o ri)).p2.set 3 (a o ri);have x8:=(x6.set ⟨X2+1,2,B⟩ (a o ri)).set (F X2 3 B) (a o ri);go_upto_region 8 with fail;generalize (w6.setCell ⟨X2+1,2,B⟩ (a o ri)).setCell (F X2 3 B) (a o ri)=w8 at*
 clear h6 x6 h7 e0 e1 e2 e3 e4 e5 f0 f1 f2 f3 f4 f5 el m3 g3 ml nn nn';have h9:I w8 (az q s*(aa X5 #[.slice (D (F bA 0 B)) y.tabs.length c,E y.e.there,E y.e.leaf,a o y.e.rights,E y.e.used,E y.e.dirty,a o y.e.frame,a o y.lev] 146*(ao (.slice (D (F bA 0 B)) y.tabs.length c) y.tabs*(aa (X2+1) #[E fe.there,E fe.leaf,a o ri,E fe.used,E fe.dirty,a o fe.frame] 70*(aa X0 #[a o 0,a o 0,a o 0,a o 0] 39*(aa X2 #[a o fm.page,a o fm.size,a o fm.frame,a o ri] 39*R)))))):=h8.eq (by ac_rfl);clear h8;obtain⟨gw,gi,vk,hq⟩:=cm h9;have HK:=C (fun(w':U) (sx:Ms) (h:I w' (da q gw gi vk sx (aa X5 #[.slice (D (F bA 0 B)) y.tabs.length c,E y.e.there,E y.e.leaf,a o y.e.rights,E y.e.used,E y.e.dirty,a o y.e.frame,a o y.lev] 146*(ao (.slice (D (F bA 0 B)) y.tabs.length c) y.tabs*(aa (X2+1) #[E fe.there,E fe.leaf,a o ri,E fe.used,E fe.dirty,a o fe.frame] 70*(aa X0 #[a o 0,a o 0,a o 0,a o 0] 39*(aa X2 #[a o fm.page,a o fm.size,a o fm.frame,a o ri] 39*R)))))))=>(by
  have hR:=h.right.r3;obtain⟨b1,e1,_,q1⟩:=db hR.right (k:=n) (by have:=HN.out;omega);injection e1 with e1;injection e1 with e1
  subst e1;rw[(K.1 HT.out).2] at q1;exact⟨Has.cell h 0,hR.cell 0,hR.cell 7,q1,hR.right.right.cells6⟩:w'.cell? (F q 0 B)=D (.slice (D (F gw 0 B)) sx.n sx.n)∧w'.cell? (F X5 0 B)=D (.slice (D (F bA 0 B)) y.tabs.length c)∧w'.cell? (F X5 7 B)=D (a o y.lev)∧w'.cell? (F bA n B)=D (a o tn)∧(w'.cell? ⟨X2+1,0,B⟩=D (E fe.there)∧w'.cell? ⟨X2+1,1,B⟩=D (E fe.leaf)∧w'.cell? ⟨X2+1,2,B⟩=D (a o ri)∧w'.cell? ⟨X2+1,3,B⟩=D (E fe.used)∧w'.cell? ⟨X2+1,4,B⟩=D (E fe.dirty)∧w'.cell? ⟨X2+1,5,B⟩=D (a o fe.frame))))
 have hlen1:((y.tabs.length:Nat):Int) - 1=(n:Int):=by have:=HN.out;omega
 have hni:(n:Int)<y.tabs.length:=by have:=HN.out;omega
 have hn0:¬((n:Int)<0):=by omega
 have hn00:(0:Int)≤(n:Int):=by omega
 have hwn:IntKind.i64.wrap (n:Int)=(n:Int):=by rw[O];omega
 have hwn2:IntKind.i64.wrap (((y.tabs.length:Nat):Int) - 1)=(n:Int):=by rw[hlen1];exact hwn
 have hq0:=hq.drew;have xq0:=x8.drew;go_cut [] from 45 to 70 (fun wx=>I wx (az q (s.setW tn j nw)*(aa X5 #[.slice (D (F bA 0 B)) y.tabs.length c,E y.e.there,E y.e.leaf,a o y.e.rights,E y.e.used,E y.e.dirty,a o y.e.frame,a o y.lev] 146*(ao (.slice (D (F bA 0 B)) y.tabs.length c) y.tabs*(aa (X2+1) #[E fe.there,E fe.leaf,a o ri,E fe.used,E fe.dirty,a o fe.frame] 70*(aa X0 #[a o 0,a o 0,a o 0,a o 0] 39*(aa X2 #[a o fm.page,a o fm.size,a o fm.frame,a o ri] 39*R))))))∧V w wx)
 case first=>
  go_region_held3 (fun w'=>w'.cell? (F q 0 B)=D (.slice (D (F gw 0 B)) s.n s.n)∧w'.cell? (F X5 0 B)=D (.slice (D (F bA 0 B)) y.tabs.length c)∧w'.cell? (F X5 7 B)=D (a o y.lev)∧w'.cell? (F bA n B)=D (a o tn)∧(w'.cell? ⟨X2+1,0,B⟩=D (E fe.there)∧w'.cell? ⟨X2+1,1,B⟩=D (E fe.leaf)∧w'.cell? ⟨X2+1,2,B⟩=D (a o ri)∧w'.cell? ⟨X2+1,3,B⟩=D (E fe.used)∧w'.cell? ⟨X2+1,4,B⟩=D (E fe.dirty)∧w'.cell? ⟨X2+1,5,B⟩=D (a o fe.frame))) (first|(with_reducible exact HK.out _ s hq0)|(with_reducible exact HK.out _ s hi5)|(with_reducible exact HK.out _ s hw6)|(exact HK.out _ (s.setW tn j nw) (df (k:=tn) (i:=j) hw6 hj8n nw))|(exact HK.out _ (s.setW tn j nw) (df (k:=tn) (i:=j) hi5 hj8n nw))|go_keep) (first|(go_at_call 120;(with_reducible refine(HI2.out _).mono ?_);rintro e2 w5 ⟨rfl,b5⟩;first|(have hi5:=hw6.below b5;have xi5:=xw6.below b5;have y0:=bX hi5 htn hj8n;have y1:=hi5.right.free (tn*8+j);have y2:=hi5.right.lt)|(have hi5:=hq0.below b5;have xi5:=xq0.below b5))|(go_at_call 124;(with_reducible refine(HWD.out _).mono ?_);rintro e2 w6 ⟨rfl,b6⟩;first|(have hw6:=hi5.below b6;have xw6:=xi5.below b6;have y0:=bX hw6 htn hj8n;have y1:=hw6.right.free (tn*8+j);have y2:=hw6.right.lt)|(have hw6:=hq0.below b6;have xw6:=xq0.below b6)))
  all_goals
   go_wp2_with fail
   go_meet
   case rel=>first|exact⟨cR (df (k:=tn) (i:=j) hw6 hj8n nw),xw6.set _ _⟩|exact⟨cR (df (k:=tn) (i:=j) hi5 hj8n nw),xi5.set _ _⟩
 case rest=>
  clear hq hq0 xq0 h9 x8 HK;obtain⟨h10,x10⟩:=hcut;have h11:I wc (aa X0 #[a o 0,a o 0,a o 0,a o 0] 39*(aa X2 #[a o fm.page,a o fm.size,a o fm.frame,a o ri] 39*(aa X5 #[.slice (D (F bA 0 B)) y.tabs.length c,E y.e.there,E y.e.leaf,a o y.e.rights,E y.e.used,E y.e.dirty,a o y.e.frame,a o y.lev] 146*(ao (.slice (D (F bA 0 B)) y.tabs.length c) y.tabs*(aa (X2+1) #[E fe.there,E fe.leaf,a o ri,E fe.used,E fe.dirty,a o fe.frame] 70*(az q (s.setW tn j nw)*R)))))):=h10.eq (by ac_rfl);obtain⟨m0,m1,m2,m3⟩:=h11.right.cells4;have ml:=h11.right.lt;obtain⟨r0,r1,r2,r3⟩:=h11.cells4;obtain⟨q0,q1,q2,q3⟩:=h11.frees4;have rl:=h11.lt;go_wp2_with fail
  refine ak (fun wz=>I wz (aa X0 #[a o fm.page,a o fm.size,a o fm.frame,a o ri] 39*(aa X2 #[a o fm.page,a o fm.size,a o fm.frame,a o ri] 39*(aa X5 #[.slice (D (F bA 0 B)) y.tabs.length c,E y.e.there,E y.e.leaf,a o y.e.rights,E y.e.used,E y.e.dirty,a o y.e.frame,a o y.lev] 146*(ao (.slice (D (F bA 0 B)) y.tabs.length c) y.tabs*(aa (X2+1) #[E fe.there,E fe.leaf,a o ri,E fe.used,E fe.dirty,a o fe.frame] 70*(az q (s.setW tn j nw)*R))))))∧V w wz) ⟨h11.set4 _ _ _ _,ah⟩ ?_;rintro wz ⟨hz,xz⟩;exact S (av results115 rfl rfl (aV hz)) rfl ⟨rfl,hz.right.right.r3,xz⟩
end Go.Proofs.YtmfheghbgihdmaaGreat
