/- Watch.Do: what is watched goes on as the plain watched space does. -/
import Derived.Deep.MidRow
import Derived.Test.YtmfheghbgihdmaaGreatDoorDkF
import Derived.Test.YtmfheghbgihdmaaGreatDoorSpcA
import Derived.Test.YtmfheghbgihdmaaGreatDoorEntBits
import Derived.Test.YtmfheghbgihdmaaGreatDoorTabF
import Derived.Test.YtmfheghbgihdmaaGreatDoorDkS
import Derived.Test.YtmfheghbgihdmaaGreatDoorPage
import Derived.Test.YtmfheghbgihdmaaGreatDoorScI
namespace Go.Proofs.YtmfheghbgihdmaaGreatDoor
open Go.Value renaming int→o,bool→K
open Go.IntKind renaming i64→r
open Option renaming none→C,some→I
open Bool renaming false→D,true→T
open Go.Addr renaming mk→J
open Go.Lib renaming hid→N
open List renaming getElem?_eq_getElem→O,getElem?_eq_some_iff→Z
open Go.Proofs.YtmfheghbgihdmaaGreatDoor renaming Has→S
open Go renaming World→U,Value→ad,Addr→af
open Int renaming eq_ofNat_of_zero_le→Y
open Tryz
open Go.RowKit
set_option maxRecDepth 100000
theorem nb{P:Program}{fn:Func}{tmps:Array ad}{w:U}{a b:Nat}{t u:TypeId}{p q:af}{v x:ad}(hr:fn.results= #[.cell a t,.cell b u])(ha:tmps.getD a undef= .pointer (I p))(hb:tmps.getD b undef= .pointer (I q))
  (hl:(loadVar t p).run P w= .ok v w) (hl2:(loadVar u q).run P w= .ok x w):(results fn tmps).run P w= .ok (.tuple #[v,x]) w:=by
 unfold results;rw[hr];simp only[Array.getD_eq_getD_getElem?] at ha hb;simp[asAddr,ha,hb,hl,hl2]
theorem xG{σ:Sc}(h:σ.Ok)(k:Int):bX (σ.acc k).page :=by
 unfold Sc.acc;split
 ·rename_i hon
  have hon':(σ.core k.toNat).k.on =T:=by
   unfold Sc.on at hon;simp at hon;exact hon.2.2
  obtain⟨a,b⟩:=dY ((Sc.core_ok h k.toNat).2.acc hon');unfold bX;omega
 ·unfold Ac.zero bX
  dsimp only;omega
theorem qv(G:Option af){c k:Nat}{l:List Int}{R:ab}{w:U}(h:S w (aq (.slice G l.length c) l*R))(hk:k<l.length)(v:Int):
  ∃g,G=I (J g 0 C)∧g<w.heap.size∧w.cell? (J g k C)=I (o r l[k])∧w.frozen? (J g k C)=D∧S (w.setCell (J g k C) (o r v)) (aq (.slice G l.length c) (l.set k v)*R):=by
 obtain⟨g,e,hb,hc,hf⟩:=Has.rowGet (e:=3) (size:=1) h (i:=k) (u:=o r l[k]) (by simp[hk]);subst e;refine⟨g,rfl,hb,hc,hf,?_⟩;have:=Has.rowSet (e:=3) (size:=1) h (i:=k) (by omega) (o r v);unfold aq;rw[List.length_set,List.map_set];exact this
set_option maxHeartbeats 8000000 in
theorem Bl(b sp:Nat)(W:Wc)(P:List Mp)(x:Stp)(hW:W.Ok P)(hx:x.ok)(hH:W.H.length≤999999)(R:ab)(w:U)(h:S w (aE b sp W.H W.f W.since*(ah sp W.σ*R))):
  Calls prog 72 #[.pointer (I (J b 0 C)),.agg #[o r x.kind,o r x.core,o r x.m.page,o r x.m.size,o r x.m.frame,o r x.m.rights,o r x.a.page,o r x.a.kind,K x.a.user]] w
   (cF (.tuple #[(W.act x).2.val,.agg #[o r 0,o r 0]]) (aE b sp (W.act x).1.H (W.act x).1.f (W.act x).1.since*(ah sp (W.act x).1.σ*R)) w):=by
 have hN:=N (hW.act x);have hRt:=N (hW.right x);have hFR:=N (hW.safe.fin_right x);have HON:=N (fun R w h=>AK sp W.σ R w h x.core);have HDO:=N (fun R w h=>Bm sp W.σ x hW.safe.ok hW.safe.calm hx R w h);have hLast:=N hW.hist;have hAI:=N (fun h hc=>y9 (σ:=W.σ) (x:=x) h hc);have hAc:=N (xG hW.safe.ok x.core);have hLen:=N hW.len;have hxo:=N hx;unfold Wc.from_ at hRt;unfold Wc.act at hN⊢;unfold tq at hRt;unfold Ev.val at HDO⊢;dsimp only at hN⊢;clear hW hx;obtain⟨σ,H,f,since⟩:=W;unfold Wc.sinceN at*
 dsimp only at*
 generalize σ.acc x.core=ac at*
 generalize σ.on x.core=on at*
 generalize hq:σ.act x=q at*
 obtain⟨σ2,⟨ec,ef,⟨ea,eb,er⟩,ek⟩⟩:=q;dsimp only at*
 clear hq;generalize hH2:dj H x ⟨ec,ef,⟨ea,eb,er⟩,ek⟩=H2 at*
 generalize hF2:eJ f H2 ⟨ec,ef,⟨ea,eb,er⟩,ek⟩=f2 at*
 generalize hS2:(if ec=0∧x.kind=4 then since.set x.core.toNat f else since)=S2 at*
 have hHl:Hid (H2.length≤1000000∧(ef=T→H2=H)):=N ⟨by rw[←hH2];unfold dj;split;exact(by rw[List.length_append];show H.length+1≤1000000;omega);omega,fun he=>by rw[←hH2];exact Wc.hist_same (by have:=(hFR.out he).1;omega)⟩;have hSL:Hid (S2.length=σ.cs.length):=N (by rw[←hLen.out,←hS2];split<;>simp);replace hH2:=N hH2;replace hF2:=N hF2;replace hS2:=N hS2;have h0:S _ (aE b sp H f since*(ah sp σ*(aa w.heap.size #[o r x.kind,o r x.core,o r x.m.page,o r x.m.size,o r x.m.frame,o r x.m.rights,o r x.a.page,o r x.a.kind,K x.a.user] 79*(aa (w.heap.size+1) #[o r 0,K D,o r 0,o r 0,o r 0,K D] 72*(aa (w.heap.size+2) #[o r 0,o r 0] 33*R))))):=(((h.new #[o r x.kind,o r x.core,o r x.m.page,o r x.m.size,o r x.m.frame,o r x.m.rights,o r x.a.page,o r x.a.kind,K x.a.user] 79).new #[o r 0,K D,o r 0,o r 0,o r 0,K D] 72).new #[o r 0,o r 0] 33).eq (by simp only[World.size_alloc]<;>ac_rfl);have x0:=(((Ext.refl w).alloc (.cells #[o r x.kind,o r x.core,o r x.m.page,o r x.m.size,o r x.m.frame,o r x.m.rights,o r x.a.page,o r x.a.kind,K x.a.user] 79)).alloc (.cells #[o r 0,K D,o r 0,o r 0,o r 0,K D] 72)).alloc (.cells #[o r 0,o r 0] 33);clear h;obtain⟨kx,cx,mx,ax⟩:=x;dsimp only at*
 go_enter func72,ntmps72;go_upto_region 1 with fail;generalize ((w.alloc (.cells #[o r kx,o r cx,o r mx.page,o r mx.size,o r mx.frame,o r mx.rights,o r ax.page,o r ax.kind,K ax.user] 79)).alloc (.cells #[o r 0,K D,o r 0,o r 0,o r 0,K D] 72)).alloc (.cells #[o r 0,o r 0] 33)=w1 at*
 generalize w.heap.size+2=F at*
 generalize w.heap.size+1=E at*
 generalize w.heap.size=X at*
 have HK:=N (fun(w':U) (R':ab) (σ':Sc) (h:S w' (aE b sp H f since*(ah sp σ'*(aa X #[o r kx,o r cx,o r mx.page,o r mx.size,o r mx.frame,o r mx.rights,o r ax.page,o r ax.kind,K ax.user] 79*R'))))=>(by
  obtain⟨c0,c1,c2,c3,c4,c5,c6,c7,c8⟩:=h.right.right.cells9;exact⟨(cu h).2,c0,c1,c2,c3,c4,c5,c6,c7,c8⟩:w'.cell? (J b 0 C)=I (.pointer (I (J sp 0 C)))∧w'.cell? (J X 0 C)=I (o r kx)∧w'.cell? (J X 1 C)=I (o r cx)∧w'.cell? (J X 2 C)=I (o r mx.page)∧w'.cell? (J X 3 C)=I (o r mx.size)∧w'.cell? (J X 4 C)=I (o r mx.frame)∧w'.cell? (J X 5 C)=I (o r mx.rights)∧w'.cell? (J X 6 C)=I (o r ax.page)∧w'.cell? (J X 7 C)=I (o r ax.kind)∧w'.cell? (J X 8 C)=I (K ax.user)))
 have bl:=(cu h0).1;have xl:=h0.right.right.lt;go_cut [6,7] from 10 to 19 (fun s6 s7 wx=>∃M:Nat,s6= .pointer (I (J M 0 C))∧s7=K on∧S wx (aa M #[o r ac.page,o r ac.kind,K ac.user] 77*(aE b sp H f since*(ah sp σ*(aa X #[o r kx,o r cx,o r mx.page,o r mx.size,o r mx.frame,o r mx.rights,o r ax.page,o r ax.kind,K ax.user] 79*(aa E #[o r 0,K D,o r 0,o r 0,o r 0,K D] 72*(aa F #[o r 0,o r 0] 33*R))))))∧Ext w wx)
 case first=>
  clear hN hRt hFR HDO hLast hLen hxo;have hd:=h0.drew;have xd:=x0.drew;have zd:S (w1.alloc (.cells #[o r 0,o r 0,K D] 77)).drew (aa w1.heap.size #[o r 0,o r 0,K D] 77*(aE b sp H f since*(ah sp σ*(aa X #[o r kx,o r cx,o r mx.page,o r mx.size,o r mx.frame,o r mx.rights,o r ax.page,o r ax.kind,K ax.user] 79*(aa E #[o r 0,K D,o r 0,o r 0,o r 0,K D] 72*(aa F #[o r 0,o r 0] 33*R)))))):=(h0.new #[o r 0,o r 0,K D] 77).drew;have yd:Ext w (w1.alloc (.cells #[o r 0,o r 0,K D] 77)).drew :=(x0.alloc _).drew;go_region_held3 (fun w'=>w'.cell? (J b 0 C)=I (.pointer (I (J sp 0 C)))∧w'.cell? (J X 0 C)=I (o r kx)∧w'.cell? (J X 1 C)=I (o r cx)∧w'.cell? (J X 2 C)=I (o r mx.page)∧w'.cell? (J X 3 C)=I (o r mx.size)∧w'.cell? (J X 4 C)=I (o r mx.frame)∧w'.cell? (J X 5 C)=I (o r mx.rights)∧w'.cell? (J X 6 C)=I (o r ax.page)∧w'.cell? (J X 7 C)=I (o r ax.kind)∧w'.cell? (J X 8 C)=I (K ax.user)) (first|(with_reducible exact HK.out _ _ _ hd)|(with_reducible exact HK.out _ _ _ zd.right)|(with_reducible exact HK.out _ _ _ hL)|(with_reducible exact HK.out _ _ _ (hL.alloc _))|(with_reducible exact HK.out _ _ _ gL.right)|(with_reducible exact HK.out _ _ _ gM.right)|go_keep)
   (first
    |(go_at_call 114;(with_reducible refine(HON.out _ _ hd.p2).mono ?_);rintro e w5 ⟨rfl,b5⟩;have hL:=hd.below b5;have xL:=xd.below b5)
    |(go_at_call 114;(with_reducible refine(HON.out _ _ zd.right.p2).mono ?_);rintro e w5 ⟨rfl,b5⟩;have gL:=zd.below b5;have yL:=yd.below b5;obtain⟨y0,y1,y2⟩:=gL.frees3;obtain⟨z0,z1,z2⟩:=gL.cells3;have zl:=gL.lt;have gM:=gL.set3 (o r ac.page) (o r ac.kind) (K ac.user)))
  all_goals
   go_wp2_with fail
   go_meet
   case rel=>first|exact⟨_,rfl,rfl,hL.new #[o r ac.page,o r ac.kind,K ac.user] 77,xL.alloc _⟩|exact⟨_,rfl,rfl,gM,((yL.set _ _).set _ _).set _ _⟩
 case rest=>
  obtain⟨M,rfl,rfl,h1,x1⟩:=hcut;clear h0 x0 HON;have h2:S wc (aE b sp H f since*(ah sp σ*(aa X #[o r kx,o r cx,o r mx.page,o r mx.size,o r mx.frame,o r mx.rights,o r ax.page,o r ax.kind,K ax.user] 79*(aa M #[o r ac.page,o r ac.kind,K ac.user] 77*(aa E #[o r 0,K D,o r 0,o r 0,o r 0,K D] 72*(aa F #[o r 0,o r 0] 33*R)))))):=h1.eq (by ac_rfl);clear h1;have bl:=(cu h2).1;have xl:=h2.right.right.lt;go_upto_region 2 with fail;go_cut [8] from 20 to 25 (fun s8 wx=>∃V:Nat,s8= .pointer (I (J V 0 C))∧S wx (aa V #[o r ec,K ef,o r ea,o r eb,o r er,K ek] 72*(aE b sp H f since*(ah sp σ2*(aa X #[o r kx,o r cx,o r mx.page,o r mx.size,o r mx.frame,o r mx.rights,o r ax.page,o r ax.kind,K ax.user] 79*(aa M #[o r ac.page,o r ac.kind,K ac.user] 77*(aa E #[o r 0,K D,o r 0,o r 0,o r 0,K D] 72*(aa F #[o r 0,o r 0] 33*R)))))))∧Ext w wx)
  case first=>
   clear hN hRt hFR hLast hLen hxo;have hd:=h2.drew;have xd:=x1.drew;have zd:S (wc.alloc (.cells #[o r 0,K D,o r 0,o r 0,o r 0,K D] 72)).drew (aa wc.heap.size #[o r 0,K D,o r 0,o r 0,o r 0,K D] 72*(aE b sp H f since*(ah sp σ*(aa X #[o r kx,o r cx,o r mx.page,o r mx.size,o r mx.frame,o r mx.rights,o r ax.page,o r ax.kind,K ax.user] 79*(aa M #[o r ac.page,o r ac.kind,K ac.user] 77*(aa E #[o r 0,K D,o r 0,o r 0,o r 0,K D] 72*(aa F #[o r 0,o r 0] 33*R))))))):=(h2.new #[o r 0,K D,o r 0,o r 0,o r 0,K D] 72).drew;have yd:Ext w (wc.alloc (.cells #[o r 0,K D,o r 0,o r 0,o r 0,K D] 72)).drew :=(x1.alloc _).drew;go_region_held3 (fun w'=>w'.cell? (J b 0 C)=I (.pointer (I (J sp 0 C)))∧w'.cell? (J X 0 C)=I (o r kx)∧w'.cell? (J X 1 C)=I (o r cx)∧w'.cell? (J X 2 C)=I (o r mx.page)∧w'.cell? (J X 3 C)=I (o r mx.size)∧w'.cell? (J X 4 C)=I (o r mx.frame)∧w'.cell? (J X 5 C)=I (o r mx.rights)∧w'.cell? (J X 6 C)=I (o r ax.page)∧w'.cell? (J X 7 C)=I (o r ax.kind)∧w'.cell? (J X 8 C)=I (K ax.user)) (first|(with_reducible exact HK.out _ _ _ hd)|(with_reducible exact HK.out _ _ _ zd.right)|(with_reducible exact HK.out _ _ _ hL)|(with_reducible exact HK.out _ _ _ (hL.alloc _))|(with_reducible exact HK.out _ _ _ gL.right)|(with_reducible exact HK.out _ _ _ gM.right)|go_keep)
    (first
     |(go_at_call 115;(with_reducible refine(HDO.out _ _ hd.p2).mono ?_);rintro e w5 ⟨rfl,h5,x5⟩;have hL:=h5.p2;have xL:=xd.trans x5)
     |(go_at_call 115;(with_reducible refine(HDO.out _ _ (zd.eq (show _=ah sp σ*(aa wc.heap.size #[o r 0,K D,o r 0,o r 0,o r 0,K D] 72*(aE b sp H f since*(aa X #[o r kx,o r cx,o r mx.page,o r mx.size,o r mx.frame,o r mx.rights,o r ax.page,o r ax.kind,K ax.user] 79*(aa M #[o r ac.page,o r ac.kind,K ac.user] 77*(aa E #[o r 0,K D,o r 0,o r 0,o r 0,K D] 72*(aa F #[o r 0,o r 0] 33*R)))))) by ac_rfl))).mono ?_);rintro e w5 ⟨rfl,h5,x5⟩;have gL:S w5 (aa wc.heap.size #[o r 0,K D,o r 0,o r 0,o r 0,K D] 72*(aE b sp H f since*(ah sp σ2*(aa X #[o r kx,o r cx,o r mx.page,o r mx.size,o r mx.frame,o r mx.rights,o r ax.page,o r ax.kind,K ax.user] 79*(aa M #[o r ac.page,o r ac.kind,K ac.user] 77*(aa E #[o r 0,K D,o r 0,o r 0,o r 0,K D] 72*(aa F #[o r 0,o r 0] 33*R))))))):=h5.eq (by ac_rfl);have yL:=yd.trans x5;obtain⟨y0,y1,y2,y3,y4,y5⟩:=gL.frees6;obtain⟨z0,z1,z2,z3,z4,z5⟩:=gL.cells6;have zl:=gL.lt;have gM:=gL.set6 (o r ec) (K ef) (o r ea) (o r eb) (o r er) (K ek)))
   all_goals
    go_wp2_with fail
    go_meet
    case rel=>first|exact⟨_,rfl,hL.new #[o r ec,K ef,o r ea,o r eb,o r er,K ek] 72,xL.alloc _⟩|exact⟨_,rfl,gM,(((((yL.set _ _).set _ _).set _ _).set _ _).set _ _).set _ _⟩
  case rest=>
   obtain⟨V,rfl,h3,x3⟩:=hcut;clear h2 x1 HDO HK bl xl;go_upto_block 0 with fail
   have h4:S wc (aE b sp H f since*(ah sp σ2*(aa X #[o r kx,o r cx,o r mx.page,o r mx.size,o r mx.frame,o r mx.rights,o r ax.page,o r ax.kind,K ax.user] 79*(aa V #[o r ec,K ef,o r ea,o r eb,o r er,K ek] 72*(aa M #[o r ac.page,o r ac.kind,K ac.user] 77*(aa E #[o r 0,K D,o r 0,o r 0,o r 0,K D] 72*(aa F #[o r 0,o r 0] 33*R))))))):=h3.eq (by ac_rfl);clear h3;have bl:=(cu h4).1;obtain⟨e0,e1,e2,e3,e4,e5⟩:=h4.r3.cells6;have el:=h4.r3.lt;obtain⟨c0,c1,c2,c3,c4,c5,c6,c7,c8⟩:=h4.right.right.cells9;have xl:=h4.right.right.lt;go_cut [7,9] from 26 to 67 (fun s7 s9 wx=>∃(a2:Ac) (on2:Bool),s7=K on2∧s9=K T∧Hid (bX a2.page∧(ef=T→a2=(if kx=4 then ax else ac)∧on2=T))∧S wx (aE b sp H2 f S2*(ah sp σ2*(aa X #[o r kx,o r cx,o r mx.page,o r mx.size,o r mx.frame,o r mx.rights,o r ax.page,o r ax.kind,K ax.user] 79*(aa V #[o r ec,K ef,o r ea,o r eb,o r er,K ek] 72*(aa M #[o r a2.page,o r a2.kind,K a2.user] 77*(aa E #[o r 0,K D,o r 0,o r 0,o r 0,K D] 72*(aa F #[o r 0,o r 0] 33*R)))))))∧Ext w wx)
   case first=>
    clear hRt hF2;by_cases q0:ec=0
    ·replace hAI:=hAI.out
     subst q0;by_cases q13:1≤kx∧kx≤3
     ·
      obtain⟨k1,k3⟩:=q13;have hSe:S2=since:=hS2.out.symm.trans (if_neg (fun hc=>by omega));subst hSe;have hHn:H2=H++[cW (H.getLastD []) ⟨kx,cx,mx,ax⟩ 0]:=by rw[←hH2.out];unfold dj;rw[if_pos ⟨rfl,k1,k3⟩]
      have HCH:Hid (∀R w,S w (aE b sp H f S2*R)→Calls prog 116 #[.pointer (I (J b 0 C)),.agg #[o r kx,o r cx,o r mx.page,o r mx.size,o r mx.frame,o r mx.rights,o r ax.page,o r ax.kind,K ax.user]] w (cF (.tuple #[]) (aE b sp H2 f S2*R) w)):=
       N (fun R w h=>by rw[hHn];exact wI b sp H f S2 ⟨kx,cx,mx,ax⟩ (cJ σ.s 0) ⟨k1,k3⟩ hxo.out hLast.out.last (hLast.out.ok _ (List.mem_of_getLast? hLast.out.last)) (by omega) R w h)
      obtain⟨kk,hk,hkL,-⟩:=un hN.out.hist.last;have hLo:=hN.out.hist.ok _ (List.mem_of_getLast? hN.out.hist.last);have HLS:=N (fun R w h=>xV sp σ2 hN.out.safe.wf R w h);have hfin:Hid (bX ac.page∧(ef=T→ac=(if kx=4 then ax else ac)∧on=T)):=N ⟨hAc.out,fun he=>by have:=(hFR.out he).1;omega⟩;generalize cJ σ2.s 0=L at*
      have n4:(kx==4)=D:=by simp;omega
      have HLB:=N (fun p R w h=>xK p L R w (by have:=hLo.le;omega) h);have HE:=N (fun A n c B n' c' R w h=>yH L A B n c n' c' R w h);clear hH2 hS2 hN hFR hLast hAI hAc hxo hLen hHn hLo;go_wp2_with fail
      refine(HCH.out _ _ h4).mono ?_;rintro e w5 ⟨rfl,h5,x5⟩;have x6:=x3.trans x5;clear h4 x3 x5 HCH bl e0 e1 e2 e3 e4 e5 el c0 c1 c2 c3 c4 c5 c6 c7 c8 xl;obtain⟨y,hy,h6⟩:=dV h5;have HSH:=N (fun(w':U) (R':ab) (h:S w' (cB b sp H2 f S2 y R'))=>dW hy h);obtain⟨p,hp⟩:∃p,y.bs[kk]? =I p:=⟨_,O (show kk<y.bs.length by omega)⟩;obtain⟨Q,hQ⟩:=kj hp hkL;have HLW:=N (fun R w h=>xR b sp H2 f S2 y p kk hk hy hp R w h);have HB:=N hQ;unfold cB at HSH HLW h6;clear hp hQ hkL hk hy h5;have HK7:=N (fun(w':U) (R':ab) (h:S w' (aa b #[.pointer (I (J sp 0 C)),.slice y.A y.bs.length y.c,o r f,.slice y.G S2.length y.d,o r 0,o r 0,o r y.z] 143*R'))=>(by exact h.cell 0:w'.cell? (J b 0 C)=I (.pointer (I (J sp 0 C)))));have bl:=h6.lt;go_upto_region 7 with fail;have hd:S w5.drew (aa b #[.pointer (I (J sp 0 C)),.slice y.A y.bs.length y.c,o r f,.slice y.G S2.length y.d,o r 0,o r 0,o r y.z] 143*(cV (.slice y.A y.bs.length y.c) y.bs*(aq (.slice y.G S2.length y.d) S2*(aS y.bs H2*(ah sp σ2*(aa X #[o r kx,o r cx,o r mx.page,o r mx.size,o r mx.frame,o r mx.rights,o r ax.page,o r ax.kind,K ax.user] 79*(aa V #[o r 0,K ef,o r ea,o r eb,o r er,K ek] 72*(aa M #[o r ac.page,o r ac.kind,K ac.user] 77*(aa E #[o r 0,K D,o r 0,o r 0,o r 0,K D] 72*(aa F #[o r 0,o r 0] 33*R)))))))))):=h6.drew;have xd:=x6.drew;clear h6 x6;go_region_held3 (fun w'=>w'.cell? (J b 0 C)=I (.pointer (I (J sp 0 C)))) (first|(with_reducible exact HK7.out _ _ hd)|(with_reducible exact HK7.out _ _ hP)|(with_reducible exact HK7.out _ _ hs.right)|(with_reducible exact HK7.out _ _ hPS.right)|(with_reducible exact HK7.out _ _ hB.right)|(with_reducible exact HK7.out _ _ hF.right.right)|(with_reducible exact HK7.out _ _ hQ.right.right)|go_keep)
       (first
        |(go_at_call 118;(with_reducible refine(HLW.out _ _ hd).mono ?_);rintro e w7 ⟨rfl,b7⟩;have hP:=hd.below b7;have xP:=xd.below b7)
        |(go_at_call 118;(with_reducible refine(HLW.out _ _ hs.right).mono ?_);rintro e w7 ⟨rfl,b7⟩;have hPS:=hs.below b7;have xPS:=xs.below b7)
        |(go_at_call 77;(with_reducible refine(HLS.out _ _ (hd.eq (show _=ah sp σ2*(aa b #[.pointer (I (J sp 0 C)),.slice y.A y.bs.length y.c,o r f,.slice y.G S2.length y.d,o r 0,o r 0,o r y.z] 143*(cV (.slice y.A y.bs.length y.c) y.bs*(aq (.slice y.G S2.length y.d) S2*(aS y.bs H2*(aa X #[o r kx,o r cx,o r mx.page,o r mx.size,o r mx.frame,o r mx.rights,o r ax.page,o r ax.kind,K ax.user] 79*(aa V #[o r 0,K ef,o r ea,o r eb,o r er,K ek] 72*(aa M #[o r ac.page,o r ac.kind,K ac.user] 77*(aa E #[o r 0,K D,o r 0,o r 0,o r 0,K D] 72*(aa F #[o r 0,o r 0] 33*R))))))))) by ac_rfl))).mono ?_);rintro e w7 ⟨A3,c3,rfl,h7,x7⟩;have hs:S w7 (cz (.slice A3 L.length c3) L*(aa b #[.pointer (I (J sp 0 C)),.slice y.A y.bs.length y.c,o r f,.slice y.G S2.length y.d,o r 0,o r 0,o r y.z] 143*(cV (.slice y.A y.bs.length y.c) y.bs*(aq (.slice y.G S2.length y.d) S2*(aS y.bs H2*(ah sp σ2*(aa X #[o r kx,o r cx,o r mx.page,o r mx.size,o r mx.frame,o r mx.rights,o r ax.page,o r ax.kind,K ax.user] 79*(aa V #[o r 0,K ef,o r ea,o r eb,o r er,K ek] 72*(aa M #[o r ac.page,o r ac.kind,K ac.user] 77*(aa E #[o r 0,K D,o r 0,o r 0,o r 0,K D] 72*(aa F #[o r 0,o r 0] 33*R))))))))))):=h7.eq (by ac_rfl);have xs:=xd.trans x7)
        |(go_at_call 77;(with_reducible refine(HLS.out _ _ (hP.eq (show _=ah sp σ2*(aa b #[.pointer (I (J sp 0 C)),.slice y.A y.bs.length y.c,o r f,.slice y.G S2.length y.d,o r 0,o r 0,o r y.z] 143*(cV (.slice y.A y.bs.length y.c) y.bs*(aq (.slice y.G S2.length y.d) S2*(aS y.bs H2*(aa X #[o r kx,o r cx,o r mx.page,o r mx.size,o r mx.frame,o r mx.rights,o r ax.page,o r ax.kind,K ax.user] 79*(aa V #[o r 0,K ef,o r ea,o r eb,o r er,K ek] 72*(aa M #[o r ac.page,o r ac.kind,K ac.user] 77*(aa E #[o r 0,K D,o r 0,o r 0,o r 0,K D] 72*(aa F #[o r 0,o r 0] 33*R))))))))) by ac_rfl))).mono ?_);rintro e w7 ⟨A3,c3,rfl,h7,x7⟩;have hPS:S w7 (cz (.slice A3 L.length c3) L*(aa b #[.pointer (I (J sp 0 C)),.slice y.A y.bs.length y.c,o r f,.slice y.G S2.length y.d,o r 0,o r 0,o r y.z] 143*(cV (.slice y.A y.bs.length y.c) y.bs*(aq (.slice y.G S2.length y.d) S2*(aS y.bs H2*(ah sp σ2*(aa X #[o r kx,o r cx,o r mx.page,o r mx.size,o r mx.frame,o r mx.rights,o r ax.page,o r ax.kind,K ax.user] 79*(aa V #[o r 0,K ef,o r ea,o r eb,o r er,K ek] 72*(aa M #[o r ac.page,o r ac.kind,K ac.user] 77*(aa E #[o r 0,K D,o r 0,o r 0,o r 0,K D] 72*(aa F #[o r 0,o r 0] 33*R))))))))))):=h7.eq (by ac_rfl);have xPS:=xP.trans x7)
        |(go_at_call 77;(with_reducible refine(HLS.out _ _ (hB.eq (show _=ah sp σ2*(cz (.slice A4 n4' c4') L*(aa b #[.pointer (I (J sp 0 C)),.slice y.A y.bs.length y.c,o r f,.slice y.G S2.length y.d,o r 0,o r 0,o r y.z] 143*(cV (.slice y.A y.bs.length y.c) y.bs*(aq (.slice y.G S2.length y.d) S2*(aS y.bs H2*(aa X #[o r kx,o r cx,o r mx.page,o r mx.size,o r mx.frame,o r mx.rights,o r ax.page,o r ax.kind,K ax.user] 79*(aa V #[o r 0,K ef,o r ea,o r eb,o r er,K ek] 72*(aa M #[o r ac.page,o r ac.kind,K ac.user] 77*(aa E #[o r 0,K D,o r 0,o r 0,o r 0,K D] 72*(aa F #[o r 0,o r 0] 33*R)))))))))) by ac_rfl))).mono ?_);rintro e w7 ⟨A3,c3,rfl,h7,x7⟩;have hF:S w7 (cz (.slice A4 n4' c4') L*(cz (.slice A3 L.length c3) L*(aa b #[.pointer (I (J sp 0 C)),.slice y.A y.bs.length y.c,o r f,.slice y.G S2.length y.d,o r 0,o r 0,o r y.z] 143*(cV (.slice y.A y.bs.length y.c) y.bs*(aq (.slice y.G S2.length y.d) S2*(aS y.bs H2*(ah sp σ2*(aa X #[o r kx,o r cx,o r mx.page,o r mx.size,o r mx.frame,o r mx.rights,o r ax.page,o r ax.kind,K ax.user] 79*(aa V #[o r 0,K ef,o r ea,o r eb,o r er,K ek] 72*(aa M #[o r ac.page,o r ac.kind,K ac.user] 77*(aa E #[o r 0,K D,o r 0,o r 0,o r 0,K D] 72*(aa F #[o r 0,o r 0] 33*R)))))))))))):=h7.eq (by ac_rfl);have xF:=xB.trans x7)
        |(go_at_call 119;(with_reducible refine(HLB.out p _ _ (hP.eq (show _=aX p L*(Q*(aa b #[.pointer (I (J sp 0 C)),.slice y.A y.bs.length y.c,o r f,.slice y.G S2.length y.d,o r 0,o r 0,o r y.z] 143*(cV (.slice y.A y.bs.length y.c) y.bs*(aq (.slice y.G S2.length y.d) S2*(ah sp σ2*(aa X #[o r kx,o r cx,o r mx.page,o r mx.size,o r mx.frame,o r mx.rights,o r ax.page,o r ax.kind,K ax.user] 79*(aa V #[o r 0,K ef,o r ea,o r eb,o r er,K ek] 72*(aa M #[o r ac.page,o r ac.kind,K ac.user] 77*(aa E #[o r 0,K D,o r 0,o r 0,o r 0,K D] 72*(aa F #[o r 0,o r 0] 33*R)))))))))) by rw[HB.out];ac_rfl))).mono ?_);rintro e w7 ⟨A4,n4',c4',rfl,h7,x7⟩;have hB:S w7 (cz (.slice A4 n4' c4') L*(aa b #[.pointer (I (J sp 0 C)),.slice y.A y.bs.length y.c,o r f,.slice y.G S2.length y.d,o r 0,o r 0,o r y.z] 143*(cV (.slice y.A y.bs.length y.c) y.bs*(aq (.slice y.G S2.length y.d) S2*(aS y.bs H2*(ah sp σ2*(aa X #[o r kx,o r cx,o r mx.page,o r mx.size,o r mx.frame,o r mx.rights,o r ax.page,o r ax.kind,K ax.user] 79*(aa V #[o r 0,K ef,o r ea,o r eb,o r er,K ek] 72*(aa M #[o r ac.page,o r ac.kind,K ac.user] 77*(aa E #[o r 0,K D,o r 0,o r 0,o r 0,K D] 72*(aa F #[o r 0,o r 0] 33*R))))))))))):=hP.onto' h7;have xB:=xP.trans x7)
        |(go_at_call 119;(with_reducible refine(HLB.out p _ _ (hPS.eq (show _=aX p L*(cz (.slice A3 L.length c3) L*(Q*(aa b #[.pointer (I (J sp 0 C)),.slice y.A y.bs.length y.c,o r f,.slice y.G S2.length y.d,o r 0,o r 0,o r y.z] 143*(cV (.slice y.A y.bs.length y.c) y.bs*(aq (.slice y.G S2.length y.d) S2*(ah sp σ2*(aa X #[o r kx,o r cx,o r mx.page,o r mx.size,o r mx.frame,o r mx.rights,o r ax.page,o r ax.kind,K ax.user] 79*(aa V #[o r 0,K ef,o r ea,o r eb,o r er,K ek] 72*(aa M #[o r ac.page,o r ac.kind,K ac.user] 77*(aa E #[o r 0,K D,o r 0,o r 0,o r 0,K D] 72*(aa F #[o r 0,o r 0] 33*R))))))))))) by rw[HB.out];ac_rfl))).mono ?_);rintro e w7 ⟨A4,n4',c4',rfl,h7,x7⟩;have hF:S w7 (cz (.slice A4 n4' c4') L*(cz (.slice A3 L.length c3) L*(aa b #[.pointer (I (J sp 0 C)),.slice y.A y.bs.length y.c,o r f,.slice y.G S2.length y.d,o r 0,o r 0,o r y.z] 143*(cV (.slice y.A y.bs.length y.c) y.bs*(aq (.slice y.G S2.length y.d) S2*(aS y.bs H2*(ah sp σ2*(aa X #[o r kx,o r cx,o r mx.page,o r mx.size,o r mx.frame,o r mx.rights,o r ax.page,o r ax.kind,K ax.user] 79*(aa V #[o r 0,K ef,o r ea,o r eb,o r er,K ek] 72*(aa M #[o r ac.page,o r ac.kind,K ac.user] 77*(aa E #[o r 0,K D,o r 0,o r 0,o r 0,K D] 72*(aa F #[o r 0,o r 0] 33*R)))))))))))):=hPS.onto' h7;have xF:=xPS.trans x7)
        |(go_at_call 117;(with_reducible refine(HE.out A4 n4' c4' A3 _ c3 _ _ hF).mono ?_);rintro e w7 ⟨rfl,b7⟩;have hQ:=hF.below b7;have xQ:=xF.below b7))
      all_goals
       go_wp2_with fail
       go_meet
       case rel=>exact⟨ac,on,rfl,by first|rfl|simp,hfin,HSH.out _ _ hQ.right.right,xQ⟩
     by_cases q4:kx=4
     ·
      have hHe:H2=H:=hH2.out.symm.trans (Wc.hist_same q13);subst hHe;subst q4;obtain⟨hc0,hcl⟩:=hAI (by show(4:Int)≤4;omega) rfl;obtain⟨k,hk⟩:=Y hc0;subst hk;have hkl:k<since.length:=by rw[hLen.out];omega
      have hkl':(k:Int)<since.length:=by omega
      have hk0:¬(k:Int)<0:=by omega
      have hSe:since.set k f=S2:=by have:=hS2.out;rw[if_pos ⟨rfl,rfl⟩] at this;exact this
      have hfin:Hid (bX ax.page∧(ef=T→ax=(if(4:Int)=4 then ax else ac)∧T=T)):=N ⟨hxo.out.2.2.2.1,fun _=>⟨(if_pos rfl).symm,rfl⟩⟩;clear hH2 hS2 hN hFR hLast hAI hAc hxo hLen q13 hc0 hcl;obtain⟨y,hy,h6⟩:=dV h4;have HSH:=N (fun(w':U) (R':ab) (h:S w' (cB b sp H2 f S2 y R'))=>dW hy h);unfold cB at h6 HSH;have h7:S wc (aa M #[o r ac.page,o r ac.kind,K ac.user] 77*(aa b #[.pointer (I (J sp 0 C)),.slice y.A y.bs.length y.c,o r f,.slice y.G since.length y.d,o r 0,o r 0,o r y.z] 143*(aq (.slice y.G since.length y.d) since*(cV (.slice y.A y.bs.length y.c) y.bs*(aS y.bs H2*(ah sp σ2*(aa X #[o r 4,o r k,o r mx.page,o r mx.size,o r mx.frame,o r mx.rights,o r ax.page,o r ax.kind,K ax.user] 79*(aa V #[o r 0,K ef,o r ea,o r eb,o r er,K ek] 72*(aa E #[o r 0,K D,o r 0,o r 0,o r 0,K D] 72*(aa F #[o r 0,o r 0] 33*R)))))))))):=h6.eq (by ac_rfl);clear h4 h6 hy;have ml:=h7.lt;obtain⟨m0,m1,m2⟩:=h7.cells3;obtain⟨f0,f1,f2',-⟩:=(⟨h7.free 0,h7.free 1,h7.free 2,trivial⟩:wc.frozen? (J M 0 C)=D∧wc.frozen? (J M 1 C)=D∧wc.frozen? (J M 2 C)=D∧True);have h8:=h7.set3 (o r ax.page) (o r ax.kind) (K ax.user);have x8:=((x3.set (J M 0 C) (o r ax.page)).set (J M 1 C) (o r ax.kind)).set (J M 2 C) (K ax.user);clear h7;go_upto_region 10 with fail;generalize ((wc.setCell (J M 0 C) (o r ax.page)).setCell (J M 1 C) (o r ax.kind)).setCell (J M 2 C) (K ax.user)=w8 at*
      clear ml m0 m1 m2 f0 f1 f2' x3 bl e0 e1 e2 e3 e4 e5 el c0 c1 c2 c3 c4 c5 c6 c7 c8 xl;have hd:S w8 (aq (.slice y.G since.length y.d) since*(aa b #[.pointer (I (J sp 0 C)),.slice y.A y.bs.length y.c,o r f,.slice y.G since.length y.d,o r 0,o r 0,o r y.z] 143*(aa X #[o r 4,o r k,o r mx.page,o r mx.size,o r mx.frame,o r mx.rights,o r ax.page,o r ax.kind,K ax.user] 79*(aa M #[o r ax.page,o r ax.kind,K ax.user] 77*(cV (.slice y.A y.bs.length y.c) y.bs*(aS y.bs H2*(ah sp σ2*(aa V #[o r 0,K ef,o r ea,o r eb,o r er,K ek] 72*(aa E #[o r 0,K D,o r 0,o r 0,o r 0,K D] 72*(aa F #[o r 0,o r 0] 33*R)))))))))):=h8.eq (by ac_rfl);obtain⟨g,hg,gl,gc,gf,gs⟩:=qv y.G hd hkl f;have hdd:=hd.drew;have i1:w8.drew.cell? (J X 1 C)=I (o r k):=hdd.right.right.cell 1;have b2:w8.drew.cell? (J b 2 C)=I (o r f):=hdd.right.cell 2;have b3:w8.drew.cell? (J b 3 C)=I (.slice y.G since.length y.d):=hdd.right.cell 3;have gd:=gs.drew;have i1':(w8.setCell (J g k C) (o r f)).drew.cell? (J X 1 C)=I (o r k):=gd.right.right.cell 1;have b2':(w8.setCell (J g k C) (o r f)).drew.cell? (J b 2 C)=I (o r f):=gd.right.cell 2;have b3':(w8.setCell (J g k C) (o r f)).drew.cell? (J b 3 C)=I (.slice y.G since.length y.d):=gd.right.cell 3;have gfd:w8.drew.frozen? (J g k C)=D:=gf;have gcd:w8.drew.cell? (J g k C)=I (o r since[k]):=gc;rw[hg] at b3 b3';have bl:=hd.right.lt;have xl:=hd.right.right.lt;clear h8;rw[hg] at gd;have HEN:S (w8.setCell (J g k C) (o r f)).drew (aE b sp H2 f S2*(ah sp σ2*(aa X #[o r 4,o r k,o r mx.page,o r mx.size,o r mx.frame,o r mx.rights,o r ax.page,o r ax.kind,K ax.user] 79*(aa V #[o r 0,K ef,o r ea,o r eb,o r er,K ek] 72*(aa M #[o r ax.page,o r ax.kind,K ax.user] 77*(aa E #[o r 0,K D,o r 0,o r 0,o r 0,K D] 72*(aa F #[o r 0,o r 0] 33*R))))))):=by
       have e:(aq (.slice y.G S2.length y.d) S2:ab)=aq (.slice (I (J g 0 C)) since.length y.d) (since.set k f):=by rw[←hSe,hg,List.length_set]
       have l:S2.length=since.length:=by rw[←hSe,List.length_set]
       refine HSH.out _ _ ?_;rw[e,l,hg];exact gd.eq (by ac_rfl)
      have HXN:=(x8.set (J g k C) (o r f)).drew;clear hSe HSH gs gd hd hdd x8;go_region_held3 (fun w'=>w'.cell? (J b 2 C)=I (o r f)∧w'.cell? (J b 3 C)=I (.slice (I (J g 0 C)) since.length y.d)∧w'.cell? (J X 1 C)=I (o r k)) (first|exact⟨b2,b3,i1⟩|exact⟨b2',b3',i1'⟩|go_keep) (fail)
      all_goals
       go_wp2_with fail
       go_meet
       case rel=>exact⟨ax,T,rfl,rfl,N ⟨hfin.out.1,fun he=>⟨(hfin.out.2 he).1,rfl⟩⟩,HEN,HXN⟩
     ·
      have hHe:H2=H:=hH2.out.symm.trans (Wc.hist_same q13);have hSe:S2=since:=hS2.out.symm.trans (if_neg (fun hc=>q4 hc.2));subst hHe;subst hSe;have hfin:Hid (bX ac.page∧(ef=T→ac=(if kx=4 then ax else ac)∧on=T)):=N ⟨hAc.out,fun he=>⟨(if_neg q4).symm,(hFR.out he).2.2.2.2.2.1 (by rcases(hFR.out he).1 with h|h;exact absurd h q4;exact h)⟩⟩;have n4:(kx==4)=D:=by simpa using q4
      clear hH2 hS2 hN hFR hLast hAI hAc hxo hLen;by_cases k1:1≤kx
      ·have k3:¬kx≤3:=fun hh=>q13 ⟨k1,hh⟩
       clear q13 q4;go_wp2_with fail
       go_meet
       case rel=>exact⟨ac,on,rfl,rfl,hfin,h4,x3⟩
      ·clear q13 q4
       go_wp2_with fail
       go_meet
       case rel=>exact⟨ac,on,rfl,rfl,hfin,h4,x3⟩
    ·have hHe:H2=H:=hH2.out.symm.trans (Wc.hist_bad q0)
     have hSe:S2=since:=hS2.out.symm.trans (if_neg (fun hc=>q0 hc.1));subst hHe;subst hSe;have hfin:Hid (bX ac.page∧(ef=T→ac=(if kx=4 then ax else ac)∧on=T)):=N ⟨hAc.out,fun he=>absurd (hFR.out he).2.2.2.1 q0⟩;have hne:(ec !=0)=T:=by simpa using q0
     clear hH2 hS2 hN hFR hLast hAI hAc hxo hLen q0;go_wp2_with fail
     go_meet
     case rel=>exact⟨ac,on,rfl,rfl,hfin,h4,x3⟩
   case rest=>
    obtain⟨a2,on2,rfl,rfl,hA2,h5,x5⟩:=hcut;clear h4 x3 hLast hAI hAc bl xl el e0 e1 e2 e3 e4 e5 c0 c1 c2 c3 c4 c5 c6 c7 c8 hH2 hS2 hxo hLen;obtain⟨y,hy,h6⟩:=dV h5;have HSH:=N (fun(w':U) (R':ab) (z:Int) (h:S w' (cB b sp H2 f2 S2 {y with z:=z} R'))=>dW (y:={y with z:=z}) hy h);have HS1:=N (fun(w':U) (R':ab) (h:S w' (cB b sp H2 f S2 y R'))=>dW hy h);have hbs:=N (Has.rowSmall' h6.right);replace hy:=N hy;unfold cB at h6 HSH HS1;dsimp only at HSH;clear h5;have h7:S wc (aa V #[o r ec,K ef,o r ea,o r eb,o r er,K ek] 72*(aa b #[.pointer (I (J sp 0 C)),.slice y.A y.bs.length y.c,o r f,.slice y.G S2.length y.d,o r 0,o r 0,o r (y.z)] 143*((cV (.slice y.A y.bs.length y.c) y.bs*(aq (.slice y.G S2.length y.d) S2*aS y.bs H2))*(ah sp σ2*(aa X #[o r kx,o r cx,o r mx.page,o r mx.size,o r mx.frame,o r mx.rights,o r ax.page,o r ax.kind,K ax.user] 79*(aa M #[o r a2.page,o r a2.kind,K a2.user] 77*(aa E #[o r 0,K D,o r 0,o r 0,o r 0,K D] 72*(aa F #[o r 0,o r 0] 33*R)))))))):=h6.eq (by ac_rfl);clear h6;obtain⟨v0,v1,v2,v3,v4,v5⟩:=h7.cells6;have vl:=h7.lt;go_upto_if 69 with fail;go_cut [9] from 70 to 88 (fun s9 wx=>s9=K T∧S wx (aa V #[o r ec,K ef,o r ea,o r eb,o r er,K ek] 72*(aa b #[.pointer (I (J sp 0 C)),.slice y.A y.bs.length y.c,o r f,.slice y.G S2.length y.d,o r 0,o r 0,o r (y.z)] 143*((cV (.slice y.A y.bs.length y.c) y.bs*(aq (.slice y.G S2.length y.d) S2*aS y.bs H2))*(ah sp σ2*(aa X #[o r kx,o r cx,o r mx.page,o r mx.size,o r mx.frame,o r mx.rights,o r ax.page,o r ax.kind,K ax.user] 79*(aa M #[o r a2.page,o r a2.kind,K a2.user] 77*(aa E #[o r 0,K D,o r 0,o r 0,o r 0,K D] 72*(aa F #[o r 0,o r 0] 33*R))))))))∧Ext w wx)
    case first=>
     cases ef with
     |false=>
      clear hN hRt hFR hHl hSL hA2 hF2 HSH HS1 hy;go_wp2_with fail
      go_meet
      case rel=>exact⟨rfl,h7,x5⟩
     |true=>
      obtain⟨ha,hb⟩:=hA2.out;obtain⟨ha2,rfl⟩:=hb rfl;obtain⟨h45,hc0,hcl,-⟩:=hFR.out rfl;obtain⟨r0,r1,r2⟩:=hRt.out rfl;obtain⟨k,hk⟩:=Y hc0;subst hk;have hkl:k<S2.length:=by rw[hSL.out];omega
      have hkl':(k:Int)<S2.length:=by omega
      have hk0:¬(k:Int)<0:=by omega
      have hgd:S2.getD ((k:Int).toNat) 0=S2[k]:=by rw[Int.toNat_natCast,List.getD_eq_getElem?_getD,O hkl];rfl
      rw[hgd] at r0 r1 r2;rw[←ha2] at r2;clear ha2 hb;obtain⟨i,hi⟩:=Y r0;have hHe:=hHl.out.2 rfl;have hle:=hN.out.hist.le;have hek:ek=D:=(hFR.out rfl).2.2.2.2.1;have hmn:f≤f2:=by rw[←hF2.out];unfold eJ;rw[if_neg (by show¬ek=T;rw[hek];simp)];exact Nat.le_refl _
      have hii:(i:Int)=S2[k]:=hi.symm;have HRW:Hid (∀R w,S w (aE b sp H2 f S2*R)→Calls prog 120 #[.pointer (I (J b 0 C)),.agg #[o r a2.page,o r a2.kind,K a2.user],.agg #[o r ea,o r eb,o r er],o r S2[k]] w (Pure (K T) w)):=
       N (fun R w h=>by
        rw[←hii];refine yK b sp H2 f S2 a2 ⟨ea,eb,er⟩ i ha ?_ hHl.out.1 hN.out.hist.ok ?_ R w h
        ·have:f2+1≤H2.length:=hle
         omega
        ·rw[hHe]
         rw[←hii,Int.toNat_natCast] at r2;exact r2)
      obtain⟨g,hg,gl,gc,gf,gs⟩:=qv y.G (h7.eq (show _=aq (.slice y.G S2.length y.d) S2*(aa b #[.pointer (I (J sp 0 C)),.slice y.A y.bs.length y.c,o r f,.slice y.G S2.length y.d,o r 0,o r 0,o r (y.z)] 143*(cV (.slice y.A y.bs.length y.c) y.bs*(aS y.bs H2*(aa V #[o r ec,K T,o r ea,o r eb,o r er,K ek] 72*(ah sp σ2*(aa X #[o r kx,o r k,o r mx.page,o r mx.size,o r mx.frame,o r mx.rights,o r ax.page,o r ax.kind,K ax.user] 79*(aa M #[o r a2.page,o r a2.kind,K a2.user] 77*(aa E #[o r 0,K D,o r 0,o r 0,o r 0,K D] 72*(aa F #[o r 0,o r 0] 33*R))))))))) by ac_rfl)) hkl 0;have HS2:=N (fun(w':U) (h:S w' (aa V #[o r ec,K T,o r ea,o r eb,o r er,K ek] 72*(aa b #[.pointer (I (J sp 0 C)),.slice y.A y.bs.length y.c,o r f,.slice (I (J g 0 C)) S2.length y.d,o r 0,o r 0,o r y.z] 143*((cV (.slice y.A y.bs.length y.c) y.bs*(aq (.slice (I (J g 0 C)) S2.length y.d) S2*aS y.bs H2))*(ah sp σ2*(aa X #[o r kx,o r k,o r mx.page,o r mx.size,o r mx.frame,o r mx.rights,o r ax.page,o r ax.kind,K ax.user] 79*(aa M #[o r a2.page,o r a2.kind,K a2.user] 77*(aa E #[o r 0,K D,o r 0,o r 0,o r 0,K D] 72*(aa F #[o r 0,o r 0] 33*R)))))))))=>HS1.out w' (aa V #[o r ec,K T,o r ea,o r eb,o r er,K ek] 72*(ah sp σ2*(aa X #[o r kx,o r k,o r mx.page,o r mx.size,o r mx.frame,o r mx.rights,o r ax.page,o r ax.kind,K ax.user] 79*(aa M #[o r a2.page,o r a2.kind,K a2.user] 77*(aa E #[o r 0,K D,o r 0,o r 0,o r 0,K D] 72*(aa F #[o r 0,o r 0] 33*R)))))) (h.eq (by rw[hg];ac_rfl)));have h8:S wc (aa V #[o r ec,K T,o r ea,o r eb,o r er,K ek] 72*(aa b #[.pointer (I (J sp 0 C)),.slice y.A y.bs.length y.c,o r f,.slice (I (J g 0 C)) S2.length y.d,o r 0,o r 0,o r y.z] 143*((cV (.slice y.A y.bs.length y.c) y.bs*(aq (.slice (I (J g 0 C)) S2.length y.d) S2*aS y.bs H2))*(ah sp σ2*(aa X #[o r kx,o r k,o r mx.page,o r mx.size,o r mx.frame,o r mx.rights,o r ax.page,o r ax.kind,K ax.user] 79*(aa M #[o r a2.page,o r a2.kind,K a2.user] 77*(aa E #[o r 0,K D,o r 0,o r 0,o r 0,K D] 72*(aa F #[o r 0,o r 0] 33*R)))))))):=h7.eq (by rw[hg]);have HEN:=N (fun(w':U) (h:S w' (aa V #[o r ec,K T,o r ea,o r eb,o r er,K ek] 72*(aa b #[.pointer (I (J sp 0 C)),.slice y.A y.bs.length y.c,o r f,.slice (I (J g 0 C)) S2.length y.d,o r 0,o r 0,o r y.z] 143*((cV (.slice y.A y.bs.length y.c) y.bs*(aq (.slice (I (J g 0 C)) S2.length y.d) S2*aS y.bs H2))*(ah sp σ2*(aa X #[o r kx,o r k,o r mx.page,o r mx.size,o r mx.frame,o r mx.rights,o r ax.page,o r ax.kind,K ax.user] 79*(aa M #[o r a2.page,o r a2.kind,K a2.user] 77*(aa E #[o r 0,K D,o r 0,o r 0,o r 0,K D] 72*(aa F #[o r 0,o r 0] 33*R)))))))))=>(h.eq (by rw[hg]):S w' (aa V #[o r ec,K T,o r ea,o r eb,o r er,K ek] 72*(aa b #[.pointer (I (J sp 0 C)),.slice y.A y.bs.length y.c,o r f,.slice y.G S2.length y.d,o r 0,o r 0,o r (y.z)] 143*((cV (.slice y.A y.bs.length y.c) y.bs*(aq (.slice y.G S2.length y.d) S2*aS y.bs H2))*(ah sp σ2*(aa X #[o r kx,o r k,o r mx.page,o r mx.size,o r mx.frame,o r mx.rights,o r ax.page,o r ax.kind,K ax.user] 79*(aa M #[o r a2.page,o r a2.kind,K a2.user] 77*(aa E #[o r 0,K D,o r 0,o r 0,o r 0,K D] 72*(aa F #[o r 0,o r 0] 33*R))))))))));have HK:=N (fun(w':U) (h:S w' (aa V #[o r ec,K T,o r ea,o r eb,o r er,K ek] 72*(aa b #[.pointer (I (J sp 0 C)),.slice y.A y.bs.length y.c,o r f,.slice (I (J g 0 C)) S2.length y.d,o r 0,o r 0,o r y.z] 143*((cV (.slice y.A y.bs.length y.c) y.bs*(aq (.slice (I (J g 0 C)) S2.length y.d) S2*aS y.bs H2))*(ah sp σ2*(aa X #[o r kx,o r k,o r mx.page,o r mx.size,o r mx.frame,o r mx.rights,o r ax.page,o r ax.kind,K ax.user] 79*(aa M #[o r a2.page,o r a2.kind,K a2.user] 77*(aa E #[o r 0,K D,o r 0,o r 0,o r 0,K D] 72*(aa F #[o r 0,o r 0] 33*R)))))))))=>(by
       have h1:S w' (aq (.slice (I (J g 0 C)) S2.length y.d) S2*(aa b #[.pointer (I (J sp 0 C)),.slice y.A y.bs.length y.c,o r f,.slice (I (J g 0 C)) S2.length y.d,o r 0,o r 0,o r y.z] 143*(aa X #[o r kx,o r k,o r mx.page,o r mx.size,o r mx.frame,o r mx.rights,o r ax.page,o r ax.kind,K ax.user] 79*(aa M #[o r a2.page,o r a2.kind,K a2.user] 77*(aa V #[o r ec,K T,o r ea,o r eb,o r er,K ek] 72*(cV (.slice y.A y.bs.length y.c) y.bs*(aS y.bs H2*(ah sp σ2*(aa E #[o r 0,K D,o r 0,o r 0,o r 0,K D] 72*(aa F #[o r 0,o r 0] 33*R)))))))))):=h.eq (by ac_rfl);obtain⟨g',e,-,hc⟩:=fg h1 hkl;injection e with e
       injection e with e
       subst e;exact⟨h.cell 2,h.cell 3,h.cell 4,h1.r3.cell 0,h1.r3.cell 1,h1.r3.cell 2,h1.right.cell 3,h1.right.right.cell 1,hc⟩:w'.cell? (J V 2 C)=I (o r ea)∧w'.cell? (J V 3 C)=I (o r eb)∧w'.cell? (J V 4 C)=I (o r er)∧w'.cell? (J M 0 C)=I (o r a2.page)∧w'.cell? (J M 1 C)=I (o r a2.kind)∧w'.cell? (J M 2 C)=I (K a2.user)∧w'.cell? (J b 3 C)=I (.slice (I (J g 0 C)) S2.length y.d)∧w'.cell? (J X 1 C)=I (o r k)∧w'.cell? (J g k C)=I (o r S2[k])))
      have bl:=h7.right.lt;clear hN hRt hFR hHl hSL hA2 hF2 HSH HS1 hy r0 r1 r2 hi hii hHe hle hmn gf gs h45 hc0 hcl ha hgd gc hg h7 hek v0 v1 v2 v3 v4 v5;go_wp2_with fail
      have hd:=h8.drew;have xd:=x5.drew;clear h8 x5;go_region_held3 (fun w'=>w'.cell? (J V 2 C)=I (o r ea)∧w'.cell? (J V 3 C)=I (o r eb)∧w'.cell? (J V 4 C)=I (o r er)∧w'.cell? (J M 0 C)=I (o r a2.page)∧w'.cell? (J M 1 C)=I (o r a2.kind)∧w'.cell? (J M 2 C)=I (K a2.user)∧w'.cell? (J b 3 C)=I (.slice (I (J g 0 C)) S2.length y.d)∧w'.cell? (J X 1 C)=I (o r k)∧w'.cell? (J g k C)=I (o r S2[k])) (first|(with_reducible exact HK.out _ hd)|(with_reducible exact HK.out _ hL)|go_keep)
       (first
        |(go_at_call 120;(with_reducible refine(HRW.out _ _ (HS2.out _ hd)).mono ?_);rintro e w7 ⟨rfl,b7⟩;have hL:=hd.below b7;have xL:=xd.below b7))
      all_goals
       go_wp2_with fail
       go_meet
       case rel=>exact⟨by first|rfl|simp,HEN.out _ hL,xL⟩
    case rest=>
     obtain⟨rfl,h8,x8⟩:=hcut;clear h7 x5 v0 v1 v2 v3 v4 v5 vl hRt hFR hSL hA2 HS1;obtain⟨v0,v1,v2,v3,v4,v5⟩:=h8.cells6;have vl:=h8.lt;go_upto_if 90 with fail;go_cut [] from 91 to 99 (fun wx=>S wx (aa V #[o r ec,K ef,o r ea,o r eb,o r er,K ek] 72*(aa b #[.pointer (I (J sp 0 C)),.slice y.A y.bs.length y.c,o r f2,.slice y.G S2.length y.d,o r 0,o r 0,o r (y.z)] 143*((cV (.slice y.A y.bs.length y.c) y.bs*(aq (.slice y.G S2.length y.d) S2*aS y.bs H2))*(ah sp σ2*(aa X #[o r kx,o r cx,o r mx.page,o r mx.size,o r mx.frame,o r mx.rights,o r ax.page,o r ax.kind,K ax.user] 79*(aa M #[o r a2.page,o r a2.kind,K a2.user] 77*(aa E #[o r 0,K D,o r 0,o r 0,o r 0,K D] 72*(aa F #[o r 0,o r 0] 33*R))))))))∧Ext w wx)
     case first=>
      cases ek with
      |false=>
       have hf:f=f2:=hF2.out;subst hf;clear hN hHl hF2 HSH hy;go_wp2_with fail
       go_meet
       case rel=>exact⟨h8,x8⟩
      |true=>
       have hf:H2.length - 1=f2:=hF2.out;have h1:1≤H2.length:=hN.out.hist.ne;have hl:=hHl.out.1;have hyo:=hy.out;have hw:IntKind.i64.wrap ((y.bs.length:Int) - 1)=(f2:Int):=by rw[IntKind.wrap_i64];omega
       have h9:=h8.p2;have b1:wc.cell? (J b 1 C)=I (.slice y.A y.bs.length y.c):=h9.cell 1;have b2:wc.cell? (J b 2 C)=I (o r f):=h9.cell 2;have bf:wc.frozen? (J b 2 C)=D:=h9.free 2;have bl:=h9.lt;have h10:S _ (aa b #[.pointer (I (J sp 0 C)),.slice y.A y.bs.length y.c,o r f2,.slice y.G S2.length y.d,o r 0,o r 0,o r (y.z)] 143*(aa V #[o r ec,K ef,o r ea,o r eb,o r er,K T] 72*((cV (.slice y.A y.bs.length y.c) y.bs*(aq (.slice y.G S2.length y.d) S2*aS y.bs H2))*(ah sp σ2*(aa X #[o r kx,o r cx,o r mx.page,o r mx.size,o r mx.frame,o r mx.rights,o r ax.page,o r ax.kind,K ax.user] 79*(aa M #[o r a2.page,o r a2.kind,K a2.user] 77*(aa E #[o r 0,K D,o r 0,o r 0,o r 0,K D] 72*(aa F #[o r 0,o r 0] 33*R)))))))):=h9.set 2 (o r f2);have x10:=x8.set (J b 2 C) (o r f2);have hbo:y.bs.length≤1000000:=by omega
       clear hN hHl hF2 HSH hy hyo hf h1 hl h8 x8 h9;go_wp2_with fail
       go_meet
       case rel=>exact⟨h10.p2,x10⟩
     case rest=>
      obtain⟨h9,x9⟩:=hcut;clear h8 x8 v0 v1 v2 v3 v4 v5 vl hN hHl hF2;have hb:=h9.p2;have b4:wc.cell? (J b 4 C)=I (o r 0):=hb.cell 4;have b6:wc.cell? (J b 6 C)=I (o r y.z):=hb.cell 6;have bf:wc.frozen? (J b 6 C)=D:=hb.free 6;have bl:=hb.lt;have h10:S _ (aa b #[.pointer (I (J sp 0 C)),.slice y.A y.bs.length y.c,o r f2,.slice y.G S2.length y.d,o r 0,o r 0,o r (wrap64 (y.z+1))] 143*(aa V #[o r ec,K ef,o r ea,o r eb,o r er,K ek] 72*((cV (.slice y.A y.bs.length y.c) y.bs*(aq (.slice y.G S2.length y.d) S2*aS y.bs H2))*(ah sp σ2*(aa X #[o r kx,o r cx,o r mx.page,o r mx.size,o r mx.frame,o r mx.rights,o r ax.page,o r ax.kind,K ax.user] 79*(aa M #[o r a2.page,o r a2.kind,K a2.user] 77*(aa E #[o r 0,K D,o r 0,o r 0,o r 0,K D] 72*(aa F #[o r 0,o r 0] 33*R)))))))):=hb.set 6 (o r (wrap64 (y.z+1)));have x10:=x9.set (J b 6 C) (o r (wrap64 (y.z+1)));clear h9 hb x9;go_upto_region 18 with fail;generalize wc.setCell (J b 6 C) (o r (wrap64 (y.z+1)))=w2 at*
      clear b4 b6 bf bl;generalize wrap64 (y.z+1)=z2 at*
      have hb:S w2 (aa E #[o r 0,K D,o r 0,o r 0,o r 0,K D] 72*(aa F #[o r 0,o r 0] 33*(aa V #[o r ec,K ef,o r ea,o r eb,o r er,K ek] 72*(aa b #[.pointer (I (J sp 0 C)),.slice y.A y.bs.length y.c,o r f2,.slice y.G S2.length y.d,o r 0,o r 0,o r (z2)] 143*((cV (.slice y.A y.bs.length y.c) y.bs*(aq (.slice y.G S2.length y.d) S2*aS y.bs H2))*(ah sp σ2*(aa X #[o r kx,o r cx,o r mx.page,o r mx.size,o r mx.frame,o r mx.rights,o r ax.page,o r ax.kind,K ax.user] 79*(aa M #[o r a2.page,o r a2.kind,K a2.user] 77*R)))))))):=h10.eq (by ac_rfl);clear h10;have hE:S _ (aa E #[o r ec,K ef,o r ea,o r eb,o r er,K ek] 72*(aa F #[o r 0,o r 0] 33*(aa V #[o r ec,K ef,o r ea,o r eb,o r er,K ek] 72*(aa b #[.pointer (I (J sp 0 C)),.slice y.A y.bs.length y.c,o r f2,.slice y.G S2.length y.d,o r 0,o r 0,o r (z2)] 143*((cV (.slice y.A y.bs.length y.c) y.bs*(aq (.slice y.G S2.length y.d) S2*aS y.bs H2))*(ah sp σ2*(aa X #[o r kx,o r cx,o r mx.page,o r mx.size,o r mx.frame,o r mx.rights,o r ax.page,o r ax.kind,K ax.user] 79*(aa M #[o r a2.page,o r a2.kind,K a2.user] 77*R)))))))):=(hb.set6 (o r ec) (K ef) (o r ea) (o r eb) (o r er) (K ek)).drew;have hF:S _ (aa F #[o r 0,o r 0] 33*(aa E #[o r 0,K D,o r 0,o r 0,o r 0,K D] 72*(aa V #[o r ec,K ef,o r ea,o r eb,o r er,K ek] 72*(aa b #[.pointer (I (J sp 0 C)),.slice y.A y.bs.length y.c,o r f2,.slice y.G S2.length y.d,o r 0,o r 0,o r (z2)] 143*((cV (.slice y.A y.bs.length y.c) y.bs*(aq (.slice y.G S2.length y.d) S2*aS y.bs H2))*(ah sp σ2*(aa X #[o r kx,o r cx,o r mx.page,o r mx.size,o r mx.frame,o r mx.rights,o r ax.page,o r ax.kind,K ax.user] 79*(aa M #[o r a2.page,o r a2.kind,K a2.user] 77*R)))))))):=((hb.p2.set 0 (o r 0)).set 1 (o r 0)).drew;have hEF:S _ (aa F #[o r 0,o r 0] 33*(aa E #[o r ec,K ef,o r ea,o r eb,o r er,K ek] 72*(aa V #[o r ec,K ef,o r ea,o r eb,o r er,K ek] 72*(aa b #[.pointer (I (J sp 0 C)),.slice y.A y.bs.length y.c,o r f2,.slice y.G S2.length y.d,o r 0,o r 0,o r (z2)] 143*((cV (.slice y.A y.bs.length y.c) y.bs*(aq (.slice y.G S2.length y.d) S2*aS y.bs H2))*(ah sp σ2*(aa X #[o r kx,o r cx,o r mx.page,o r mx.size,o r mx.frame,o r mx.rights,o r ax.page,o r ax.kind,K ax.user] 79*(aa M #[o r a2.page,o r a2.kind,K a2.user] 77*R)))))))):=(((hb.set6 (o r ec) (K ef) (o r ea) (o r eb) (o r er) (K ek)).p2.set 0 (o r 0)).set 1 (o r 0)).drew;have hFE:S _ (aa E #[o r ec,K ef,o r ea,o r eb,o r er,K ek] 72*(aa F #[o r 0,o r 0] 33*(aa V #[o r ec,K ef,o r ea,o r eb,o r er,K ek] 72*(aa b #[.pointer (I (J sp 0 C)),.slice y.A y.bs.length y.c,o r f2,.slice y.G S2.length y.d,o r 0,o r 0,o r (z2)] 143*((cV (.slice y.A y.bs.length y.c) y.bs*(aq (.slice y.G S2.length y.d) S2*aS y.bs H2))*(ah sp σ2*(aa X #[o r kx,o r cx,o r mx.page,o r mx.size,o r mx.frame,o r mx.rights,o r ax.page,o r ax.kind,K ax.user] 79*(aa M #[o r a2.page,o r a2.kind,K a2.user] 77*R)))))))):=(((hb.p2.set 0 (o r 0)).set 1 (o r 0)).p2.set6 (o r ec) (K ef) (o r ea) (o r eb) (o r er) (K ek)).drew;have hd:=hb.drew;obtain⟨e0,e1,e2,e3,e4,e5⟩:=hb.cells6;obtain⟨f0,f1,f2',f3,f4,f5⟩:=hb.frees6;have el:=hb.lt;have k0:w2.cell? (J F 0 C)=I (o r 0):=hb.right.cell 0;have k1:w2.cell? (J F 1 C)=I (o r 0):=hb.right.cell 1;have l0:w2.frozen? (J F 0 C)=D:=hb.right.free 0;have l1:w2.frozen? (J F 1 C)=D:=hb.right.free 1;have fl:=hb.right.lt;have HK:=N (fun(w':U) (P Q:ab) (h:S w' (P*(Q*(aa V #[o r ec,K ef,o r ea,o r eb,o r er,K ek] 72*(aa b #[.pointer (I (J sp 0 C)),.slice y.A y.bs.length y.c,o r f2,.slice y.G S2.length y.d,o r 0,o r 0,o r (z2)] 143*((cV (.slice y.A y.bs.length y.c) y.bs*(aq (.slice y.G S2.length y.d) S2*aS y.bs H2))*(ah sp σ2*(aa X #[o r kx,o r cx,o r mx.page,o r mx.size,o r mx.frame,o r mx.rights,o r ax.page,o r ax.kind,K ax.user] 79*(aa M #[o r a2.page,o r a2.kind,K a2.user] 77*R)))))))))=>(by
       obtain⟨c0,c1,c2,c3,c4,c5⟩:=h.right.right.cells6;exact⟨c0,c1,c2,c3,c4,c5,h.r3.cell 4,h.r3.cell 5⟩:w'.cell? (J V 0 C)=I (o r ec)∧w'.cell? (J V 1 C)=I (K ef)∧w'.cell? (J V 2 C)=I (o r ea)∧w'.cell? (J V 3 C)=I (o r eb)∧w'.cell? (J V 4 C)=I (o r er)∧w'.cell? (J V 5 C)=I (K ek)∧w'.cell? (J b 4 C)=I (o r 0)∧w'.cell? (J b 5 C)=I (o r 0)))
      have hne:E≠F:=hb.ne;have hne':F≠E:=fun e=>hne e.symm;have HEN:=N (fun(w':U) (h:S w' (aa V #[o r ec,K ef,o r ea,o r eb,o r er,K ek] 72*(aa b #[.pointer (I (J sp 0 C)),.slice y.A y.bs.length y.c,o r f2,.slice y.G S2.length y.d,o r 0,o r 0,o r (z2)] 143*((cV (.slice y.A y.bs.length y.c) y.bs*(aq (.slice y.G S2.length y.d) S2*aS y.bs H2))*(ah sp σ2*(aa X #[o r kx,o r cx,o r mx.page,o r mx.size,o r mx.frame,o r mx.rights,o r ax.page,o r ax.kind,K ax.user] 79*(aa M #[o r a2.page,o r a2.kind,K a2.user] 77*R)))))))=>(by
       have h1:=HSH.out w' (ah sp σ2*(aa X #[o r kx,o r cx,o r mx.page,o r mx.size,o r mx.frame,o r mx.rights,o r ax.page,o r ax.kind,K ax.user] 79*(aa M #[o r a2.page,o r a2.kind,K a2.user] 77*R))) z2 ((h.right).eq (by ac_rfl));exact(h1.eq (show _=aa X #[o r kx,o r cx,o r mx.page,o r mx.size,o r mx.frame,o r mx.rights,o r ax.page,o r ax.kind,K ax.user] 79*(aa M #[o r a2.page,o r a2.kind,K a2.user] 77*(aE b sp H2 f2 S2*(ah sp σ2*R))) by ac_rfl)).right.right :S w' (aE b sp H2 f2 S2*(ah sp σ2*R))))
      clear HSH hy hbs;go_region_held3 (fun w'=>w'.cell? (J V 0 C)=I (o r ec)∧w'.cell? (J V 1 C)=I (K ef)∧w'.cell? (J V 2 C)=I (o r ea)∧w'.cell? (J V 3 C)=I (o r eb)∧w'.cell? (J V 4 C)=I (o r er)∧w'.cell? (J V 5 C)=I (K ek)∧w'.cell? (J b 4 C)=I (o r 0)∧w'.cell? (J b 5 C)=I (o r 0)) (first|(with_reducible exact HK.out _ _ _ hd)|(with_reducible exact HK.out _ _ _ hE)|(with_reducible exact HK.out _ _ _ hF)|(with_reducible exact HK.out _ _ _ hEF)|(with_reducible exact HK.out _ _ _ hFE)|go_keep) (fail)
      all_goals
       go_wp2_with fail
       refine ay (fun wz=>S wz (aa E #[o r ec,K ef,o r ea,o r eb,o r er,K ek] 72*(aa F #[o r 0,o r 0] 33*(aa V #[o r ec,K ef,o r ea,o r eb,o r er,K ek] 72*(aa b #[.pointer (I (J sp 0 C)),.slice y.A y.bs.length y.c,o r f2,.slice y.G S2.length y.d,o r 0,o r 0,o r (z2)] 143*((cV (.slice y.A y.bs.length y.c) y.bs*(aq (.slice y.G S2.length y.d) S2*aS y.bs H2))*(ah sp σ2*(aa X #[o r kx,o r cx,o r mx.page,o r mx.size,o r mx.frame,o r mx.rights,o r ax.page,o r ax.kind,K ax.user] 79*(aa M #[o r a2.page,o r a2.kind,K a2.user] 77*R))))))))∧Ext w wz) ?_ ?_
       ·first
         |exact⟨hEF.p2,(((((((((x10.set _ _).set _ _).set _ _).set _ _).set _ _).set _ _).set _ _).set _ _).drew)⟩
         |exact⟨hFE,(((((((((x10.set _ _).set _ _).set _ _).set _ _).set _ _).set _ _).set _ _).set _ _).drew)⟩
       ·rintro wz ⟨hz,xz⟩
        exact bodyPost_ret (nb results72 rfl rfl (bh hz) (cI hz.right)) rfl ⟨rfl,HEN.out _ hz.right.right,xz⟩
def zt:ad:= .agg #[o r 0,K D,o r 0,o r 0,o r 0,K D]
theorem zu:kL prog 72 zt 6 48:=⟨by kernel_rfl,rfl,by omega⟩
def Ev.cells(e:Ev):List ad:=[o r e.code,K e.fin,o r e.an.fin,o r e.an.frame,o r e.an.rights,K e.back]
theorem nc(e:Ev):e.cells.length=6:=rfl
def ng(l:List Ev):List ad:=fw Ev.cells l
theorem qw(l:List Ev)(e:Ev):ng (l++[e])=ng l++e.cells:=by unfold ng;rw[gZ];simp[fw]
def fu(v:ad)(l:List Ev):ab:=bt 72 6 v l.length (ng l)
theorem Aw(e:Ev):∀u∈e.cells,u.oneCell'=T:=by
 intro u hu;simp[Ev.cells] at hu;rcases hu with rfl|rfl|rfl|rfl|rfl|rfl<;>rfl
theorem nh{w:U}{R:ab}{A:Option af}{n c:Nat}{l:List Ev}(h:S w (fu (.slice A n c) l*R)):n=l.length:=by
 rcases(Has.rowCases (e:=72) (size:=6) h) with ⟨hv,h0,_⟩|⟨g,cap,cur,hv,_⟩
 ·injection hv with a b
  omega
 ·injection hv
theorem rA{w:U}{R:ab}{A:Option af}{n c:Nat}{l:List Ev}(h:S w (fu (.slice A n c) l*R)):n≤9223372036854775807:=by
 obtain rfl:=nh h;exact(Has.rowLens (e:=72) (size:=6) h).2
theorem vW{w:U}{R:ab}{A:Option af}{n c:Nat}{l:List Ev}(h:S w (fu (.slice A n c) l*R))(k:Nat)(hk:k≤l.length):Arr w A k 6 ((l.take k).map Ev.cells):=by
 obtain rfl:=nh h;have hsm:=rA h;refine⟨by simp;omega,by omega,fun i xs hi=> ?_⟩;have hik:i<k:=by
  have:=(Z.1 hi).1;simp at this;omega
 have hil:i<l.length:=by omega
 have hxs:xs=l[i].cells :=by
  rw[List.getElem?_map,List.getElem?_take,if_pos hik,O hil] at hi;exact(Option.some.inj hi).symm
 subst hxs;have g:=fun t (ht:t<6)=>Has.rowGet (e:=72) (size:=6) h (i:=i*6+t) (u:=(l[i].cells[t]'(by rw[nc];exact ht))) (by
  have:=mB (cells:=Ev.cells) nc hil ht;rw[O (l:=l[i].cells) (by rw[nc];exact ht)] at this;exact this)
 obtain⟨b,hb,hbl,_⟩:=g 0 (by omega);refine⟨b,0,hb,hbl,fun j u hj=> ?_⟩;have hj6:j<6:=by
  have:=(Z.1 hj).1;rwa [nc] at this
 obtain⟨b',hb',_,c',_⟩:=g j hj6;rw[hb] at hb';injection hb' with hb'
 injection hb' with hb'
 subst hb';rw[Nat.zero_add,c',←hj,O (by rw[nc];exact hj6)]
theorem vX{w:U}{R:ab}{A:Option af}{n c:Nat}{l:List Ev}(h:S w (fu (.slice A n c) l*R)):Arr w A n 6 (l.map Ev.cells):=by
 obtain rfl:=nh h;have:=vW h l.length (Nat.le_refl _);rwa [List.take_length] at this
theorem Arr.ev{w:U}{A:Option af}{n:Nat}{l:List Ev}(h:Arr w A n 6 (l.map Ev.cells)){i:Nat}(hi:i<l.length):∃b off,A=I (J b off C)∧b<w.heap.size∧
  (w.cell? ⟨b,off+i*6,C⟩=I (o r l[i].code)∧w.cell? ⟨b,off+i*6+1,C⟩=I (K l[i].fin)∧w.cell? ⟨b,off+i*6+2,C⟩=I (o r l[i].an.fin)∧w.cell? ⟨b,off+i*6+3,C⟩=I (o r l[i].an.frame)∧
   w.cell? ⟨b,off+i*6+4,C⟩=I (o r l[i].an.rights)∧w.cell? ⟨b,off+i*6+5,C⟩=I (K l[i].back)):=by
 obtain⟨b,off,hb,hbl,hc⟩:=h.at_ (i:=i) (xs:=(l[i]).cells) (by simp[hi]);exact⟨b,off,hb,hbl,hc 0 _ rfl,hc 1 _ rfl,hc 2 _ rfl,hc 3 _ rfl,hc 4 _ rfl,hc 5 _ rfl⟩
theorem qx(W:Wc)(x:Stp)(h:¬(1≤x.kind∧x.kind≤3)):(W.act x).1.H=W.H:=Wc.hist_same h
theorem sa{m k:Nat}{σ:Sc}(h:σ.waits k=T):dZ (m+1) k σ=((dZ m (k+1) (σ.act (cM k)).1).1,(σ.act (cM k)).2::(dZ m (k+1) (σ.act (cM k)).1).2):=by
 conv=>lhs;unfold dZ
 rw[if_pos h]
theorem qy{m k:Nat}{σ:Sc}(h:σ.waits k=D):dZ (m+1) k σ=dZ m (k+1) σ:=by
 conv=>lhs;unfold dZ
 rw[if_neg (by rw[h];simp)]
theorem sb{m k:Nat}{σ:Sc}(h:σ.on k=T):fx (m+1) k σ=((fx m k (σ.act (bO k)).1).1,(σ.act (bO k)).2::(fx m k (σ.act (bO k)).1).2):=by
 conv=>lhs;unfold fx
 rw[if_pos h]
theorem qz{m k:Nat}{σ:Sc}(h:σ.on k=D):fx m k σ=(σ,[]):=by
 cases m with
 |zero=>rfl
 |succ m=>
  conv=>lhs;unfold fx
  rw[if_neg (by rw[h];simp)]
theorem tP{w:U}{R:ab}{v:ad}{out:List Ev}{x:Ev}(h:S w (bt 72 6 v (out.length+1) (ng out++x.cells)*R)):∃A c,v= .slice A (out++[x]).length c∧S w (fu (.slice A (out++[x]).length c) (out++[x])*R):=by
 have hl:(out++[x]).length =out.length+1:=by simp
 have hf:∃A c,v= .slice A (out.length+1) c:=by
  rcases h.rowCases with ⟨hv,hn,_,_⟩|⟨g,cap,cur,hv,_⟩
  ·omega
  ·exact⟨_,_,hv⟩
 obtain⟨A,c,rfl⟩:=hf;refine⟨A,c,by rw[hl],?_⟩;unfold fu;rw[qw,hl];exact h
end Go.Proofs.YtmfheghbgihdmaaGreatDoor
