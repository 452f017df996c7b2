/- The document's Times: NewTimes, Change. -/
import Derived.Test.YtmfheghbgihdmaaGreatScE
namespace Go.Proofs.YtmfheghbgihdmaaGreat
open Go.Value renaming int→d,bool→t
open Go.IntKind renaming i64→i,wrap_i64→C
open Option renaming none→j,some→o
open Go.Lib renaming hid→l
open Go.Addr renaming mk→r
open List renaming length_append→s
open Go.World renaming size_alloc→B
open Tryz
open Go.RowKit
set_option maxRecDepth 100000
theorem uN(R:ae)(w:World)(h:Has w R):
  Calls prog 36 #[] w fun e w'=>∃b,cN (.pointer (o (r b 0 j))) (aV b [[]] 0*R) w e w':=by
 have h1:Has (w.alloc (.cells #[.slice j 0 0] 91)) (be w.heap.size []*R):=cJ (A:=j) (c:=0) (Has.p2 (Has.rowNil (h.new #[.slice j 0 0] 91)));have h2:=(h1.new #[.pointer (o (r w.heap.size 0 j))] 92);simp only[B] at h2;have h3:Has ((w.alloc (.cells #[.slice j 0 0] 91)).alloc (.cells #[.pointer (o (r w.heap.size 0 j))] 92)) (ey (.slice (o ⟨w.heap.size+1,0,j⟩) 1 1) [w.heap.size]*(be w.heap.size []*R)):=
  Has.rowOf (e:=92) (size:=1) h2 (by simp) (Nat.le_refl 1) (by unfold maxLen;omega) rfl rfl
 have h4:=h3.new #[.slice (o ⟨w.heap.size+1,0,j⟩) 1 1,d i 0] 87;simp only[B] at h4;have h5:=dz (b:=w.heap.size+1+1) (H:=[[]]) (f:=0) (y:=⟨o ⟨w.heap.size+1,0,j⟩,1,[w.heap.size]⟩) (R:=R) rfl (w:=((w.alloc (.cells #[.slice j 0 0] 91)).alloc (.cells #[.pointer (o (r w.heap.size 0 j))] 92)).alloc (.cells #[.slice (o ⟨w.heap.size+1,0,j⟩) 1 1,d i 0] 87)) (by
  unfold bt;dsimp only;show Has _ (aa _ _ _*(ey _ [w.heap.size]*((be w.heap.size []*ei True)*R)));rw[show be w.heap.size []*ei True=be w.heap.size [] from by rw[bo];exact fJ _];exact h4)
 have x5:=(((Ext.refl w).alloc (.cells #[.slice j 0 0] 91)).alloc (.cells #[.pointer (o (r w.heap.size 0 j))] 92)).alloc (.cells #[.slice (o ⟨w.heap.size+1,0,j⟩) 1 1,d i 0] 87);clear h h1 h2 h3 h4;go_enter func36,ntmps36;go_wp2_with fail
 go_ret;exact⟨_,rfl,h5,x5⟩
theorem uO(q:Nat):∀u∈([.pointer (o (r q 0 j))]:List Value),u.oneCell'=true:=by
 intro u hu;simp at hu;subst hu;rfl
set_option maxHeartbeats 4000000 in
theorem nj(b:Nat)(H:List (List Mp))(f:Nat)(x:Stp)(e:Ev)(L:List Mp)(hxo:x.ok)(hL:H.getLast?=o L)(hLo:Bk.Ok L)(hH:H.length≤999999)(R:ae)(w:World)(h:Has w (aV b H f*R)):
  Calls prog 39 #[.pointer (o (r b 0 j)),.agg #[d i x.kind,d i x.core,d i x.m.page,d i x.m.size,d i x.m.frame,d i x.m.rights,d i x.a.page,d i x.a.kind,t x.a.user],.agg #[d i e.code,t e.fin,d i e.an.fin,d i e.an.frame,d i e.an.rights,t e.back]] w
   (cN (.tuple #[]) (aV b (cV H x e) (eD f (cV H x e) e)*R) w):=by
 obtain⟨k,hk,hkL,hLD⟩:=mT hL;have hH2:=l (rfl:cV H x e=cV H x e);have hxp:=hxo.2.2.1.1;obtain⟨kx,cx,mx,ax⟩:=x;obtain⟨ec,ef,⟨ea,eb,er⟩,ek⟩:=e;have hHn:∀(h0:ec=0) (h1:1≤kx) (h3:kx≤3),cV H ⟨kx,cx,mx,ax⟩ ⟨ec,ef,⟨ea,eb,er⟩,ek⟩=H++[da L ⟨kx,cx,mx,ax⟩ 0]:=fun h0 h1 h3=>by
  rw[←hLD];unfold cV;rw[if_pos ⟨h0,h1,h3⟩]
 have hHs:¬(ec=0∧1≤kx∧kx≤3)→cV H ⟨kx,cx,mx,ax⟩ ⟨ec,ef,⟨ea,eb,er⟩,ek⟩=H:=fun hn=>by
  unfold cV;rw[if_neg hn]
 have hHl:(cV H ⟨kx,cx,mx,ax⟩ ⟨ec,ef,⟨ea,eb,er⟩,ek⟩).length ≤1000000∧1≤(cV H ⟨kx,cx,mx,ax⟩ ⟨ec,ef,⟨ea,eb,er⟩,ek⟩).length :=by
  unfold cV;split
  ·rw[s];show H.length+1≤1000000∧1≤H.length+1;omega
  ·omega
 clear hH2;generalize cV H ⟨kx,cx,mx,ax⟩ ⟨ec,ef,⟨ea,eb,er⟩,ek⟩=H2 at*
 generalize hF2:eD f H2 ⟨ec,ef,⟨ea,eb,er⟩,ek⟩=f2 at*
 have hF:=l (show(if ek=true then H2.length - 1 else f)=f2 from hF2);have HHn:=l hHn;have HHs:=l hHs;have HHl:=l hHl;clear hF2 hHn hHs hHl hL hLD;dsimp only at hxp;have HCP:=l (fun p R w h=>yn p L R w (by have:=hLo.le;omega) h);have HAD:=l (fun q (h1:kx=1) R w h=>(show da L ⟨kx,cx,mx,ax⟩ 0=Bk.add L mx from by unfold da;simp[h1])▸yo q L mx R w hLo hxp h);have HDR:=l (fun q (h2:kx=2) R w h=>(show da L ⟨kx,cx,mx,ax⟩ 0=Bk.dropL L mx.page from by unfold da;simp[h2])▸ww q L mx.page R w hLo hxp h);have HPR:=l (fun q (h3:kx=3) R w h=>(show da L ⟨kx,cx,mx,ax⟩ 0=Bk.protL L mx.page mx.rights from by unfold da;simp[h3])▸tS q L mx.page mx.rights R w hLo hxp h);generalize da L ⟨kx,cx,mx,ax⟩ 0=L2 at*
 have h0:Has _ (aV b H f*(aa w.heap.size #[d i kx,d i cx,d i mx.page,d i mx.size,d i mx.frame,d i mx.rights,d i ax.page,d i ax.kind,t ax.user] 43*(aa (w.heap.size+1) #[d i ec,t ef,d i ea,d i eb,d i er,t ek] 36*R))):=((h.new #[d i kx,d i cx,d i mx.page,d i mx.size,d i mx.frame,d i mx.rights,d i ax.page,d i ax.kind,t ax.user] 43).new #[d i ec,t ef,d i ea,d i eb,d i er,t ek] 36).eq (by simp only[B]<;>ac_rfl);have x0:=((Ext.refl w).alloc (.cells #[d i kx,d i cx,d i mx.page,d i mx.size,d i mx.frame,d i mx.rights,d i ax.page,d i ax.kind,t ax.user] 43)).alloc (.cells #[d i ec,t ef,d i ea,d i eb,d i er,t ek] 36);clear h hLo hxp hxo;dsimp only;go_enter func39,ntmps39;go_upto_region 1 with fail;generalize (w.alloc (.cells #[d i kx,d i cx,d i mx.page,d i mx.size,d i mx.frame,d i mx.rights,d i ax.page,d i ax.kind,t ax.user] 43)).alloc (.cells #[d i ec,t ef,d i ea,d i eb,d i er,t ek] 36)=w1 at*
 generalize w.heap.size+1=V at*
 generalize w.heap.size=X at*
 obtain⟨c0,c1,c2,c3,c4,c5,c6,c7,c8⟩:=h0.right.cells9;have xl:=h0.right.lt;obtain⟨e0,e1,e2,e3,e4,e5⟩:=h0.right.right.cells6;have el:=h0.right.right.lt;obtain⟨cd,hcd⟩:∃z,decide (ec=0∧1≤kx∧kx≤3)=z:=⟨_,rfl⟩;replace hcd:=l hcd;go_cut [19] from 7 to 19 (fun s19 wx=>s19=t cd∧wx=w1)
 case first=>
  clear HCP HAD HDR HPR hF HHn HHs HHl;by_cases q0:ec=0
  ·subst q0
   by_cases q1:1≤kx
   ·by_cases q3:kx≤3
    ·have hz:cd=true:=by rw[←hcd.out];exact decide_eq_true ⟨rfl,q1,q3⟩
     subst hz;clear hcd;go_wp2_with fail
     go_meet
     case rel=>exact⟨rfl,rfl⟩
    ·have hz:cd=false:=by rw[←hcd.out];exact decide_eq_false (fun h=>q3 h.2.2)
     subst hz;clear hcd;go_wp2_with fail
     go_meet
     case rel=>exact⟨rfl,rfl⟩
   ·have hz:cd=false:=by rw[←hcd.out];exact decide_eq_false (fun h=>q1 h.2.1)
    subst hz;clear hcd;go_wp2_with fail
    go_meet
    case rel=>exact⟨rfl,rfl⟩
  ·have hz:cd=false:=by rw[←hcd.out];exact decide_eq_false (fun h=>q0 h.1)
   subst hz;have hne:(ec==0)=false:=by simpa using q0
   clear hcd q0;go_wp2_with fail
   go_meet
   case rel=>exact⟨rfl,rfl⟩
 case rest=>
  obtain⟨rfl,hw⟩:=hcut;replace hw:=hw.symm;subst hw;go_upto_if 19 with fail;go_cut [6] from 20 to 65 (fun _ wx=>Has wx (aV b H2 f*(aa X #[d i kx,d i cx,d i mx.page,d i mx.size,d i mx.frame,d i mx.rights,d i ax.page,d i ax.kind,t ax.user] 43*(aa V #[d i ec,t ef,d i ea,d i eb,d i er,t ek] 36*R)))∧Ext w wx)
  case first=>
   cases cd with
   |false=>
    have hs:H2=H:=HHs.out (of_decide_eq_false hcd.out);subst hs;clear HCP HAD HDR HPR hF HHn HHs HHl hcd;go_wp2_with fail
    go_meet
    case rel=>exact⟨h0,x0⟩
   |true=>
    obtain⟨q0,q1,q3⟩:=of_decide_eq_true hcd.out;subst q0;have hs:H2=H++[L2]:=HHn.out rfl q1 q3;subst hs;obtain⟨y,hy,h1⟩:=dK h0;obtain⟨yA,yc,ybs⟩:=y;unfold bt at h1;dsimp only at hy h1;have hkb:k<ybs.length:=by omega
    obtain⟨p,hp⟩:∃p,ybs[k]? =o p:=⟨ybs[k],List.getElem?_eq_getElem hkb⟩;obtain⟨Q,hQ⟩:=jM hp hkL;obtain⟨g,hA,gl,gc⟩:=kZ h1.right hp;obtain⟨n1,hn1⟩:∃n,k+1=n:=⟨_,rfl⟩;have hyk:ybs.length=n1:=by omega
    have HB:=l hQ;have HA:=l hA;have HP:=l hp;have HY:=l hy;have HYK:=l hyk;have HSN:=l (fun q=>mS ybs H q L2 hy);have h2:Has w1 (aa b #[.slice (o (r g 0 j)) (n1) yc,d i f] 87*(ey (.slice yA ybs.length yc) ybs*(dZ ybs H*(aa X #[d i kx,d i cx,d i mx.page,d i mx.size,d i mx.frame,d i mx.rights,d i ax.page,d i ax.kind,t ax.user] 43*(aa V #[d i 0,t ef,d i ea,d i eb,d i er,t ek] 36*R))))):=h1.eq (by rw[hA,hyk]);have HK:=l (fun(w':World) (R':ae) (h:Has w' (aa b #[.slice (o (r g 0 j)) (n1) yc,d i f] 87*(ey (.slice yA ybs.length yc) ybs*R')))=>(by
     obtain⟨g',hA',-,gc'⟩:=kZ h.right hp;have e:=hA.symm.trans hA';injection e with e
     injection e with e
     subst e;exact⟨h.cell 0,gc'⟩:w'.cell? (r b 0 j)=o (.slice (o (r g 0 j)) n1 yc)∧w'.cell? (r g k j)=o (.pointer (o (r p 0 j)))))
    have bl:=h2.lt;have hkk:IntKind.i64.wrap ((n1:Int) - 1)=(k:Int):=by rw[C];omega
    have hk9:(k:Int)< (n1:Int):=by omega
    have hk8:k<n1:=by omega
    have hk7:(0:Int)≤(k:Int):=by omega
    have hbs:n1≤1000000:=by omega
    clear hkL hp hQ hA hy hyk h1 h0 hcd HHs HHl gc hkb hk hn1;go_wp2_with fail
    have hd:=h2.drew;have xd:=x0.drew;clear h2 x0;go_region_held3 (fun w'=>w'.cell? (r b 0 j)=o (.slice (o (r g 0 j)) n1 yc)∧w'.cell? (r g k j)=o (.pointer (o (r p 0 j)))) (first|(with_reducible exact HK.out _ _ hd)|(with_reducible exact HK.out _ _ hL.right)|go_keep)
     (first
      |(go_at_call 87;(with_reducible refine(HCP.out p _ _ (hd.eq (show _=be p L*(Q*(aa b #[.slice (o (r g 0 j)) (n1) yc,d i f] 87*(ey (.slice yA ybs.length yc) ybs*(aa X #[d i kx,d i cx,d i mx.page,d i mx.size,d i mx.frame,d i mx.rights,d i ax.page,d i ax.kind,t ax.user] 43*(aa V #[d i 0,t ef,d i ea,d i eb,d i er,t ek] 36*R))))) by rw[HB.out];ac_rfl))).mono ?_);rintro e w7 ⟨q,rfl,h7,x7⟩;have hL:Has w7 (be q L*(aa b #[.slice (o (r g 0 j)) (n1) yc,d i f] 87*(ey (.slice yA ybs.length yc) ybs*(dZ ybs H*(aa X #[d i kx,d i cx,d i mx.page,d i mx.size,d i mx.frame,d i mx.rights,d i ax.page,d i ax.kind,t ax.user] 43*(aa V #[d i 0,t ef,d i ea,d i eb,d i er,t ek] 36*R)))))):=h7.eq (by rw[HB.out];ac_rfl);have xL:=xd.trans x7))
    clear HK HCP HB HP hd xd hkk hk9 hk8 hk7 c0 c1 c2 c3 c4 c5 c6 c7 c8 xl e0 e1 e2 e3 e4 e5 el;obtain⟨c0,-,c2,c3,c4,c5,-,-,-⟩:=hL.right.r3.cells9;have xl:=hL.right.r3.lt;go_upto_block 0 with fail
    go_cut [] from 35 to 55 (fun wx=>Has wx (be q L2*(aa b #[.slice (o (r g 0 j)) (n1) yc,d i f] 87*(ey (.slice yA ybs.length yc) ybs*(dZ ybs H*(aa X #[d i kx,d i cx,d i mx.page,d i mx.size,d i mx.frame,d i mx.rights,d i ax.page,d i ax.kind,t ax.user] 43*(aa V #[d i 0,t ef,d i ea,d i eb,d i er,t ek] 36*R))))))∧Ext w wx)
    case first=>
     clear HSN HY HYK HA hF;by_cases k1:kx=1
     ·have HA2:=l (fun R w h=>HAD.out q k1 R w h)
      subst k1;clear HAD HDR HPR;go_wp2_with fail
      refine(HA2.out _ _ hL).mono ?_;rintro e w5 ⟨rfl,h5,x5⟩;go_wp2_with fail
      go_meet
      case rel=>exact⟨h5,xL.trans x5⟩
     by_cases k2:kx=2
     ·have HA2:=l (fun R w h=>HDR.out q k2 R w h)
      subst k2;clear HAD HDR HPR;go_wp2_with fail
      refine(HA2.out _ _ hL).mono ?_;rintro e w5 ⟨rfl,h5,x5⟩;go_wp2_with fail
      go_meet
      case rel=>exact⟨h5,xL.trans x5⟩
     have k3:kx=3:=by omega
     ·have HA2:=l (fun R w h=>HPR.out q k3 R w h)
      subst k3;clear HAD HDR HPR;go_wp2_with fail
      refine(HA2.out _ _ hL).mono ?_;rintro e w5 ⟨rfl,h5,x5⟩;go_wp2_with fail
      go_meet
      case rel=>exact⟨h5,xL.trans x5⟩
    case rest=>
     obtain⟨h5,x5⟩:=hcut;clear hL xL HAD HDR HPR c0 c2 c3 c4 c5 xl hF;have c1:=h5.right.cell 0;have cl:=h5.right.lt;have h6:Has _ (ey (.slice (o (r g 0 j)) n1 yc) ybs*(aa b #[.slice (o (r g 0 j)) (n1) yc,d i f] 87*((be q L2*dZ ybs H)*(aa X #[d i kx,d i cx,d i mx.page,d i mx.size,d i mx.frame,d i mx.rights,d i ax.page,d i ax.kind,t ax.user] 43*(aa V #[d i 0,t ef,d i ea,d i eb,d i er,t ek] 36*R))))):=h5.eq (by rw[HA.out,HYK.out];ac_rfl);clear h5;go_wp2_with(at_builtin;(refine aN rfl _ _ 85 rfl underlying85 vx _ _ _ rfl (h6.alloc _) (r wc.heap.size 0 j) 1 1 [.pointer (o (r q 0 j))] rfl rfl (eM _ _ _) ?c1 ?c2 ?c3 ?_))
     case c1=>exact uO _
     case c2=>have:=HYK.out;unfold maxLen;omega
     case c3=>have:=HYK.out;omega
     intro v9 w9 h9 x9;rw[show ybs.length=n1 from HYK.out] at h9;obtain⟨A',c',rfl⟩:=Has.rowForm (e:=92) (size:=1) h9;have y2:=h9.right.cell 0;have yf:=h9.right.free 0;have yl:=h9.right.lt;have h10:Has (w9.setCell (r b 0 j) (.slice A' (n1+1) c')) (aV b (H++[L2]) f*(aa X #[d i kx,d i cx,d i mx.page,d i mx.size,d i mx.frame,d i mx.rights,d i ax.page,d i ax.kind,t ax.user] 43*(aa V #[d i 0,t ef,d i ea,d i eb,d i er,t ek] 36*R))):=by
      have h12:=(h9.p2.set 0 (.slice A' (n1+1) c'));have h13:Has _ (aa b #[.slice (A') (n1+1) c',d i f] 87*(ey (.slice A' (ybs++[q]).length c') (ybs++[q])*(dZ (ybs++[q]) (H++[L2])*(aa X #[d i kx,d i cx,d i mx.page,d i mx.size,d i mx.frame,d i mx.rights,d i ax.page,d i ax.kind,t ax.user] 43*(aa V #[d i 0,t ef,d i ea,d i eb,d i er,t ek] 36*R))))):=h12.eq (by
       rw[HSN.out q];unfold ey;rw[s,List.map_append];show _*(cj 92 1 (.slice A' (n1+1) c') (n1+1) (ybs.map rd++[.pointer (o (r q 0 j))])*_)=_*(cj 92 1 (.slice A' (ybs.length+1) c') (ybs.length+1) (ybs.map rd++[.pointer (o (r q 0 j))])*_);rw[HYK.out];ac_rfl)
      exact dz (b:=b) (H:=H++[L2]) (f:=f) (y:=⟨A',c',ybs++[q]⟩) (by simp[HY.out]) (by
       unfold bt;dsimp only;rw[s] at h13⊢;rw[show ybs.length+[q].length =n1+1 from by rw[HYK.out];rfl] at h13⊢;exact h13)
     have x10:=((x5.alloc (.cells #[.pointer (o (r q 0 j))] 92)).trans x9).set (r b 0 j) (.slice A' (n1+1) c');clear h9 h6 x9 x5 c1 cl HSN HY HYK HA;go_wp2_with fail
     go_meet
     case rel=>exact⟨h10,x10⟩
  case rest=>
   obtain⟨h1,x1⟩:=hcut;clear h0 x0 HCP HAD HDR HPR HHn HHs hcd c0 c1 c2 c3 c4 c5 c6 c7 c8 xl e0 e1 e2 e3 e4 e5 el;cases ek with
   |false=>
    have hf:f=f2:=hF.out;subst hf;have hz:Has wc (aa X #[d i kx,d i cx,d i mx.page,d i mx.size,d i mx.frame,d i mx.rights,d i ax.page,d i ax.kind,t ax.user] 43*(aa V #[d i ec,t ef,d i ea,d i eb,d i er,t false] 36*(aV b H2 f*R))):=h1.eq (by ac_rfl);have v5:=hz.right.cell 5;have vl:=hz.right.lt;clear hF HHl h1;go_wp2_with fail
    exact bodyPost_ret (v:= .tuple #[]) (by simp[results,results39]) rfl ⟨rfl,hz.right.right,x1⟩
   |true=>
    have hf:H2.length - 1=f2:=hF.out;obtain⟨y,hy,h2⟩:=dK h1;obtain⟨l1,l2⟩:=HHl.out;have hw:IntKind.i64.wrap ((y.bs.length:Int) - 1)=(f2:Int):=by rw[C];omega
    have hyl:y.bs.length≤1000000:=by omega
    have HSH:=l (fun(w':World) (R':ae) (h:Has w' (bt b H2 f2 y R'))=>dz hy h);unfold bt at h2 HSH;have b0:wc.cell? (r b 0 j)=o (.slice y.A y.bs.length y.c):=h2.cell 0;have b1:wc.cell? (r b 1 j)=o (d i f):=h2.cell 1;have bf:wc.frozen? (r b 1 j)=false:=h2.free 1;have bl:=h2.lt;have v5:=h2.right.r3.cell 5;have vl:=h2.right.r3.lt;have h3:=HSH.out _ _ (h2.set 1 (d i f2));have x3:=x1.set (r b 1 j) (d i f2);have h4:=(h3.eq (show _=aa X #[d i kx,d i cx,d i mx.page,d i mx.size,d i mx.frame,d i mx.rights,d i ax.page,d i ax.kind,t ax.user] 43*(aa V #[d i ec,t ef,d i ea,d i eb,d i er,t true] 36*(aV b H2 f2*R)) by ac_rfl)).right.right;clear hF HHl h1 h2 h3 hf hy l1 l2 HSH x1;go_wp2_with fail
    exact bodyPost_ret (v:= .tuple #[]) (by simp[results,results39]) rfl ⟨rfl,h4,x3⟩
end Go.Proofs.YtmfheghbgihdmaaGreat
