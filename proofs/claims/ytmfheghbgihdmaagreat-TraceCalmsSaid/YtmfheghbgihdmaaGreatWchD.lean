/- Watch.Do: what is watched goes on as the plain watched space does. -/
import Derived.Deep.MidRow
import Derived.Test.YtmfheghbgihdmaaGreatBkSl
import Derived.Test.YtmfheghbgihdmaaGreatSpcC
import Derived.Test.YtmfheghbgihdmaaGreatEntry2
import Derived.Test.YtmfheghbgihdmaaGreatTblM4
import Derived.Test.YtmfheghbgihdmaaGreatTabD
import Derived.Test.YtmfheghbgihdmaaGreatFindIn
import Derived.Test.YtmfheghbgihdmaaGreatSep
namespace Go.Proofs.YtmfheghbgihdmaaGreat
open Go.IntKind renaming u64→vU
open Go.Value renaming int→o,bool→U
open Go.IntKind renaming i64→D
open Option renaming none→I,some→J
open Bool renaming false→N,true→ad
open Go.Lib renaming hid→S
open Go.Addr renaming mk→T
open Go.Proofs.YtmfheghbgihdmaaGreat renaming Has→Z,Stp→bB,Ext→bL,Safe→bP
open Go renaming World→af,bodyPost_ret→b0,Addr→b9,Calls→bA,Value→bG
open List renaming getElem?_eq_getElem→ag,length_append→a7,getElem?_eq_some_iff→bd
open Go.World renaming size_alloc→a6
open Go.Proofs.YtmfheghbgihdmaaGreat.Sc renaming new→bb,core_ok→bD,core→ca,act→cb,put→cc,put_len→cd,walk→cg
open Go.RowKit renaming Hid→bi,intOf→b8
open Int renaming eq_ofNat_of_zero_le→bz
open Tryz
open Go.RowKit
set_option maxRecDepth 100000
theorem ng{P:Program}{fn:Func}{tmps:Array bG}{w:af}{a b:Nat}{t u:TypeId}{p q:b9}{v x:bG}(hr:fn.results= #[.cell a t,.cell b u])(ha:tmps.getD a undef= .pointer (J p))(hb:tmps.getD b undef= .pointer (J q))
  (hl:(loadVar t p).run P w= .ok v w) (hl2:(loadVar u q).run P w= .ok x w):(results fn tmps).run P w= .ok (.tuple #[v,x]) w:=by
 unfold results;rw[hr];simp only[Array.getD_eq_getD_getElem?] at ha hb;simp[asAddr,ha,hb,hl,hl2]
theorem xf{σ:Sc}(h:σ.Ok)(k:Int):cW (σ.acc k).page :=by
 unfold Sc.acc;split
 ·rename_i hon
  have hon':(σ.core k.toNat).k.on =ad:=by
   unfold Sc.on at hon;simp at hon;exact hon.2.2
  obtain⟨a,b⟩:=dS ((bD h k.toNat).2.acc hon');unfold cW;omega
 ·unfold Ac.zero cW
  dsimp only;omega
theorem qt(G:Option b9){c k:Nat}{l:List Int}{R:ab}{w:af}(h:Z w (ao (.slice G l.length c) l*R))(hk:k<l.length)(v:Int):
  ∃g,G=J (T g 0 I)∧g<w.heap.size∧w.cell? (T g k I)=J (o D l[k])∧w.frozen? (T g k I)=N∧Z (w.setCell (T g k I) (o D v)) (ao (.slice G l.length c) (l.set k v)*R):=by
 obtain⟨g,e,hb,hc,hf⟩:=Has.rowGet (e:=3) (size:=1) h (i:=k) (u:=o D l[k]) (by simp[hk]);subst e;refine⟨g,rfl,hb,hc,hf,?_⟩;have:=Has.rowSet (e:=3) (size:=1) h (i:=k) (by omega) (o D v);unfold ao;rw[List.length_set,List.map_set];exact this
set_option maxHeartbeats 8000000 in
theorem zU(b sp:Nat)(W:Wc)(P:List Mp)(x:bB)(hW:W.Ok P)(hx:x.ok)(hH:W.H.length≤999999)(R:ab)(w:af)(h:Z w (aC b sp W.H W.f W.since*(ak sp W.σ*R))):
  bA prog 37 #[.pointer (J (T b 0 I)),.agg #[o D x.kind,o D x.core,o D x.m.page,o D x.m.size,o D x.m.frame,o D x.m.rights,o D x.a.page,o D x.a.kind,U x.a.user]] w
   (cR (.tuple #[(W.act x).2.val,.agg #[o D 0,o D 0]]) (aC b sp (W.act x).1.H (W.act x).1.f (W.act x).1.since*(ak sp (W.act x).1.σ*R)) w):=by
 have hN:=S (hW.act x);have hRt:=S (hW.right x);have hFR:=S (hW.safe.fin_right x);have HON:=S (fun R w h=>Aa sp W.σ R w h x.core);have HDO:=S (fun R w h=>AU sp W.σ x hW.safe.ok hW.safe.calm hx R w h);have hLast:=S hW.hist;have hAI:=S (fun h hc=>xW (σ:=W.σ) (x:=x) h hc);have hAc:=S (xf hW.safe.ok x.core);have hLen:=S hW.len;have hxo:=S hx;unfold Wc.from_ at hRt;unfold Wc.act at hN⊢;unfold sv at hRt;unfold Ev.val at HDO⊢;dsimp only at hN⊢;clear hW hx;obtain⟨σ,H,f,since⟩:=W;unfold Wc.sinceN at*
 dsimp only at*
 generalize σ.acc x.core=ac at*
 generalize σ.on x.core=on at*
 generalize hq:σ.act x=q at*
 obtain⟨σ2,⟨ec,ef,⟨ea,eb,er⟩,ek⟩⟩:=q;dsimp only at*
 clear hq;generalize hH2:dQ H x ⟨ec,ef,⟨ea,eb,er⟩,ek⟩=H2 at*
 generalize hF2:ft f H2 ⟨ec,ef,⟨ea,eb,er⟩,ek⟩=f2 at*
 generalize hS2:(if ec=0∧x.kind=4 then since.set x.core.toNat f else since)=S2 at*
 have hHl:bi (H2.length≤1000000∧(ef=ad→H2=H)):=S ⟨by rw[←hH2];unfold dQ;split;exact(by rw[a7];show H.length+1≤1000000;omega);omega,fun he=>by rw[←hH2];exact Wc.hist_same (by have:=(hFR.out he).1;omega)⟩;have hSL:bi (S2.length=σ.cs.length):=S (by rw[←hLen.out,←hS2];split<;>simp);replace hH2:=S hH2;replace hF2:=S hF2;replace hS2:=S hS2;have h0:Z _ (aC b sp H f since*(ak sp σ*(aa w.heap.size #[o D x.kind,o D x.core,o D x.m.page,o D x.m.size,o D x.m.frame,o D x.m.rights,o D x.a.page,o D x.a.kind,U x.a.user] 43*(aa (w.heap.size+1) #[o D 0,U N,o D 0,o D 0,o D 0,U N] 36*(aa (w.heap.size+2) #[o D 0,o D 0] 27*R))))):=(((h.new #[o D x.kind,o D x.core,o D x.m.page,o D x.m.size,o D x.m.frame,o D x.m.rights,o D x.a.page,o D x.a.kind,U x.a.user] 43).new #[o D 0,U N,o D 0,o D 0,o D 0,U N] 36).new #[o D 0,o D 0] 27).eq (by simp only[a6]<;>ac_rfl);have x0:=(((Ext.refl w).alloc (.cells #[o D x.kind,o D x.core,o D x.m.page,o D x.m.size,o D x.m.frame,o D x.m.rights,o D x.a.page,o D x.a.kind,U x.a.user] 43)).alloc (.cells #[o D 0,U N,o D 0,o D 0,o D 0,U N] 36)).alloc (.cells #[o D 0,o D 0] 27);clear h;obtain⟨kx,cx,mx,ax⟩:=x;dsimp only at*
 go_enter func37,ntmps37;go_upto_region 1 with fail;generalize ((w.alloc (.cells #[o D kx,o D cx,o D mx.page,o D mx.size,o D mx.frame,o D mx.rights,o D ax.page,o D ax.kind,U ax.user] 43)).alloc (.cells #[o D 0,U N,o D 0,o D 0,o D 0,U N] 36)).alloc (.cells #[o D 0,o D 0] 27)=w1 at*
 generalize w.heap.size+2=F at*
 generalize w.heap.size+1=E at*
 generalize w.heap.size=X at*
 have HK:=S (fun(w':af) (R':ab) (σ':Sc) (h:Z w' (aC b sp H f since*(ak sp σ'*(aa X #[o D kx,o D cx,o D mx.page,o D mx.size,o D mx.frame,o D mx.rights,o D ax.page,o D ax.kind,U ax.user] 43*R'))))=>(by
  obtain⟨c0,c1,c2,c3,c4,c5,c6,c7,c8⟩:=h.right.right.cells9;exact⟨(cH h).2,c0,c1,c2,c3,c4,c5,c6,c7,c8⟩:w'.cell? (T b 0 I)=J (.pointer (J (T sp 0 I)))∧w'.cell? (T X 0 I)=J (o D kx)∧w'.cell? (T X 1 I)=J (o D cx)∧w'.cell? (T X 2 I)=J (o D mx.page)∧w'.cell? (T X 3 I)=J (o D mx.size)∧w'.cell? (T X 4 I)=J (o D mx.frame)∧w'.cell? (T X 5 I)=J (o D mx.rights)∧w'.cell? (T X 6 I)=J (o D ax.page)∧w'.cell? (T X 7 I)=J (o D ax.kind)∧w'.cell? (T X 8 I)=J (U ax.user)))
 have bl:=(cH h0).1;have xl:=h0.right.right.lt;go_cut [6,7] from 10 to 19 (fun s6 s7 wx=>∃M:Nat,s6= .pointer (J (T M 0 I))∧s7=U on∧Z wx (aa M #[o D ac.page,o D ac.kind,U ac.user] 41*(aC b sp H f since*(ak sp σ*(aa X #[o D kx,o D cx,o D mx.page,o D mx.size,o D mx.frame,o D mx.rights,o D ax.page,o D ax.kind,U ax.user] 43*(aa E #[o D 0,U N,o D 0,o D 0,o D 0,U N] 36*(aa F #[o D 0,o D 0] 27*R))))))∧bL w wx)
 case first=>
  clear hN hRt hFR HDO hLast hLen hxo;have hd:=h0.drew;have xd:=x0.drew;have zd:Z (w1.alloc (.cells #[o D 0,o D 0,U N] 41)).drew (aa w1.heap.size #[o D 0,o D 0,U N] 41*(aC b sp H f since*(ak sp σ*(aa X #[o D kx,o D cx,o D mx.page,o D mx.size,o D mx.frame,o D mx.rights,o D ax.page,o D ax.kind,U ax.user] 43*(aa E #[o D 0,U N,o D 0,o D 0,o D 0,U N] 36*(aa F #[o D 0,o D 0] 27*R)))))):=(h0.new #[o D 0,o D 0,U N] 41).drew;have yd:bL w (w1.alloc (.cells #[o D 0,o D 0,U N] 41)).drew :=(x0.alloc _).drew;go_region_held3 (fun w'=>w'.cell? (T b 0 I)=J (.pointer (J (T sp 0 I)))∧w'.cell? (T X 0 I)=J (o D kx)∧w'.cell? (T X 1 I)=J (o D cx)∧w'.cell? (T X 2 I)=J (o D mx.page)∧w'.cell? (T X 3 I)=J (o D mx.size)∧w'.cell? (T X 4 I)=J (o D mx.frame)∧w'.cell? (T X 5 I)=J (o D mx.rights)∧w'.cell? (T X 6 I)=J (o D ax.page)∧w'.cell? (T X 7 I)=J (o D ax.kind)∧w'.cell? (T X 8 I)=J (U ax.user)) (first|(with_reducible exact HK.out _ _ _ hd)|(with_reducible exact HK.out _ _ _ zd.right)|(with_reducible exact HK.out _ _ _ hL)|(with_reducible exact HK.out _ _ _ (hL.alloc _))|(with_reducible exact HK.out _ _ _ gL.right)|(with_reducible exact HK.out _ _ _ gM.right)|go_keep)
   (first
    |(go_at_call 19;(with_reducible refine(HON.out _ _ hd.p2).mono ?_);rintro e w5 ⟨rfl,b5⟩;have hL:=hd.below b5;have xL:=xd.below b5)
    |(go_at_call 19;(with_reducible refine(HON.out _ _ zd.right.p2).mono ?_);rintro e w5 ⟨rfl,b5⟩;have gL:=zd.below b5;have yL:=yd.below b5;obtain⟨y0,y1,y2⟩:=gL.frees3;obtain⟨z0,z1,z2⟩:=gL.cells3;have zl:=gL.lt;have gM:=gL.set3 (o D ac.page) (o D ac.kind) (U ac.user)))
  all_goals
   go_wp2_with fail
   go_meet
   case rel=>first|exact⟨_,rfl,rfl,hL.new #[o D ac.page,o D ac.kind,U ac.user] 41,xL.alloc _⟩|exact⟨_,rfl,rfl,gM,((yL.set _ _).set _ _).set _ _⟩
 case rest=>
  obtain⟨M,rfl,rfl,h1,x1⟩:=hcut;clear h0 x0 HON;have h2:Z wc (aC b sp H f since*(ak sp σ*(aa X #[o D kx,o D cx,o D mx.page,o D mx.size,o D mx.frame,o D mx.rights,o D ax.page,o D ax.kind,U ax.user] 43*(aa M #[o D ac.page,o D ac.kind,U ac.user] 41*(aa E #[o D 0,U N,o D 0,o D 0,o D 0,U N] 36*(aa F #[o D 0,o D 0] 27*R)))))):=h1.eq (by ac_rfl);clear h1;have bl:=(cH h2).1;have xl:=h2.right.right.lt;go_upto_region 2 with fail;go_cut [8] from 20 to 25 (fun s8 wx=>∃V:Nat,s8= .pointer (J (T V 0 I))∧Z wx (aa V #[o D ec,U ef,o D ea,o D eb,o D er,U ek] 36*(aC b sp H f since*(ak sp σ2*(aa X #[o D kx,o D cx,o D mx.page,o D mx.size,o D mx.frame,o D mx.rights,o D ax.page,o D ax.kind,U ax.user] 43*(aa M #[o D ac.page,o D ac.kind,U ac.user] 41*(aa E #[o D 0,U N,o D 0,o D 0,o D 0,U N] 36*(aa F #[o D 0,o D 0] 27*R)))))))∧bL w wx)
  case first=>
   clear hN hRt hFR hLast hLen hxo;have hd:=h2.drew;have xd:=x1.drew;have zd:Z (wc.alloc (.cells #[o D 0,U N,o D 0,o D 0,o D 0,U N] 36)).drew (aa wc.heap.size #[o D 0,U N,o D 0,o D 0,o D 0,U N] 36*(aC b sp H f since*(ak sp σ*(aa X #[o D kx,o D cx,o D mx.page,o D mx.size,o D mx.frame,o D mx.rights,o D ax.page,o D ax.kind,U ax.user] 43*(aa M #[o D ac.page,o D ac.kind,U ac.user] 41*(aa E #[o D 0,U N,o D 0,o D 0,o D 0,U N] 36*(aa F #[o D 0,o D 0] 27*R))))))):=(h2.new #[o D 0,U N,o D 0,o D 0,o D 0,U N] 36).drew;have yd:bL w (wc.alloc (.cells #[o D 0,U N,o D 0,o D 0,o D 0,U N] 36)).drew :=(x1.alloc _).drew;go_region_held3 (fun w'=>w'.cell? (T b 0 I)=J (.pointer (J (T sp 0 I)))∧w'.cell? (T X 0 I)=J (o D kx)∧w'.cell? (T X 1 I)=J (o D cx)∧w'.cell? (T X 2 I)=J (o D mx.page)∧w'.cell? (T X 3 I)=J (o D mx.size)∧w'.cell? (T X 4 I)=J (o D mx.frame)∧w'.cell? (T X 5 I)=J (o D mx.rights)∧w'.cell? (T X 6 I)=J (o D ax.page)∧w'.cell? (T X 7 I)=J (o D ax.kind)∧w'.cell? (T X 8 I)=J (U ax.user)) (first|(with_reducible exact HK.out _ _ _ hd)|(with_reducible exact HK.out _ _ _ zd.right)|(with_reducible exact HK.out _ _ _ hL)|(with_reducible exact HK.out _ _ _ (hL.alloc _))|(with_reducible exact HK.out _ _ _ gL.right)|(with_reducible exact HK.out _ _ _ gM.right)|go_keep)
    (first
     |(go_at_call 16;(with_reducible refine(HDO.out _ _ hd.p2).mono ?_);rintro e w5 ⟨rfl,h5,x5⟩;have hL:=h5.p2;have xL:=xd.trans x5)
     |(go_at_call 16;(with_reducible refine(HDO.out _ _ (zd.eq (show _=ak sp σ*(aa wc.heap.size #[o D 0,U N,o D 0,o D 0,o D 0,U N] 36*(aC b sp H f since*(aa X #[o D kx,o D cx,o D mx.page,o D mx.size,o D mx.frame,o D mx.rights,o D ax.page,o D ax.kind,U ax.user] 43*(aa M #[o D ac.page,o D ac.kind,U ac.user] 41*(aa E #[o D 0,U N,o D 0,o D 0,o D 0,U N] 36*(aa F #[o D 0,o D 0] 27*R)))))) by ac_rfl))).mono ?_);rintro e w5 ⟨rfl,h5,x5⟩;have gL:Z w5 (aa wc.heap.size #[o D 0,U N,o D 0,o D 0,o D 0,U N] 36*(aC b sp H f since*(ak sp σ2*(aa X #[o D kx,o D cx,o D mx.page,o D mx.size,o D mx.frame,o D mx.rights,o D ax.page,o D ax.kind,U ax.user] 43*(aa M #[o D ac.page,o D ac.kind,U ac.user] 41*(aa E #[o D 0,U N,o D 0,o D 0,o D 0,U N] 36*(aa F #[o D 0,o D 0] 27*R))))))):=h5.eq (by ac_rfl);have yL:=yd.trans x5;obtain⟨y0,y1,y2,y3,y4,y5⟩:=gL.frees6;obtain⟨z0,z1,z2,z3,z4,z5⟩:=gL.cells6;have zl:=gL.lt;have gM:=gL.set6 (o D ec) (U ef) (o D ea) (o D eb) (o D er) (U ek)))
   all_goals
    go_wp2_with fail
    go_meet
    case rel=>first|exact⟨_,rfl,hL.new #[o D ec,U ef,o D ea,o D eb,o D er,U ek] 36,xL.alloc _⟩|exact⟨_,rfl,gM,(((((yL.set _ _).set _ _).set _ _).set _ _).set _ _).set _ _⟩
  case rest=>
   obtain⟨V,rfl,h3,x3⟩:=hcut;clear h2 x1 HDO HK bl xl;go_upto_block 0 with fail
   have h4:Z wc (aC b sp H f since*(ak sp σ2*(aa X #[o D kx,o D cx,o D mx.page,o D mx.size,o D mx.frame,o D mx.rights,o D ax.page,o D ax.kind,U ax.user] 43*(aa V #[o D ec,U ef,o D ea,o D eb,o D er,U ek] 36*(aa M #[o D ac.page,o D ac.kind,U ac.user] 41*(aa E #[o D 0,U N,o D 0,o D 0,o D 0,U N] 36*(aa F #[o D 0,o D 0] 27*R))))))):=h3.eq (by ac_rfl);clear h3;have bl:=(cH h4).1;obtain⟨e0,e1,e2,e3,e4,e5⟩:=h4.r3.cells6;have el:=h4.r3.lt;obtain⟨c0,c1,c2,c3,c4,c5,c6,c7,c8⟩:=h4.right.right.cells9;have xl:=h4.right.right.lt;go_cut [7,9] from 26 to 67 (fun s7 s9 wx=>∃(a2:Ac) (on2:Bool),s7=U on2∧s9=U ad∧bi (cW a2.page∧(ef=ad→a2=(if kx=4 then ax else ac)∧on2=ad))∧Z wx (aC b sp H2 f S2*(ak sp σ2*(aa X #[o D kx,o D cx,o D mx.page,o D mx.size,o D mx.frame,o D mx.rights,o D ax.page,o D ax.kind,U ax.user] 43*(aa V #[o D ec,U ef,o D ea,o D eb,o D er,U ek] 36*(aa M #[o D a2.page,o D a2.kind,U a2.user] 41*(aa E #[o D 0,U N,o D 0,o D 0,o D 0,U N] 36*(aa F #[o D 0,o D 0] 27*R)))))))∧bL w wx)
   case first=>
    clear hRt hF2;by_cases q0:ec=0
    ·replace hAI:=hAI.out
     subst q0;by_cases q13:1≤kx∧kx≤3
     ·
      obtain⟨k1,k3⟩:=q13;have hSe:S2=since:=hS2.out.symm.trans (if_neg (fun hc=>by omega));subst hSe;have hHn:H2=H++[dB (H.getLastD []) ⟨kx,cx,mx,ax⟩ 0]:=by rw[←hH2.out];unfold dQ;rw[if_pos ⟨rfl,k1,k3⟩]
      have HCH:bi (∀R w,Z w (aC b sp H f S2*R)→bA prog 82 #[.pointer (J (T b 0 I)),.agg #[o D kx,o D cx,o D mx.page,o D mx.size,o D mx.frame,o D mx.rights,o D ax.page,o D ax.kind,U ax.user]] w (cR (.tuple #[]) (aC b sp H2 f S2*R) w)):=
       S (fun R w h=>by rw[hHn];exact wl b sp H f S2 ⟨kx,cx,mx,ax⟩ (dn σ.s 0) ⟨k1,k3⟩ hxo.out hLast.out.last (hLast.out.ok _ (List.mem_of_getLast? hLast.out.last)) (by omega) R w h)
      obtain⟨kk,hk,hkL,-⟩:=ue hN.out.hist.last;have hLo:=hN.out.hist.ok _ (List.mem_of_getLast? hN.out.hist.last);have HLS:=S (fun R w h=>xD sp σ2 hN.out.safe.wf R w h);have hfin:bi (cW ac.page∧(ef=ad→ac=(if kx=4 then ax else ac)∧on=ad)):=S ⟨hAc.out,fun he=>by have:=(hFR.out he).1;omega⟩;generalize dn σ2.s 0=L at*
      have n4:(kx==4)=N:=by simp;omega
      have HLB:=S (fun p R w h=>xo p L R w (by have:=hLo.le;omega) h);have HE:=S (fun A n c B n' c' R w h=>xY L A B n c n' c' R w h);clear hH2 hS2 hN hFR hLast hAI hAc hxo hLen hHn hLo;go_wp2_with fail
      refine(HCH.out _ _ h4).mono ?_;rintro e w5 ⟨rfl,h5,x5⟩;have x6:=x3.trans x5;clear h4 x3 x5 HCH bl e0 e1 e2 e3 e4 e5 el c0 c1 c2 c3 c4 c5 c6 c7 c8 xl;obtain⟨y,hy,h6⟩:=eN h5;have HSH:=S (fun(w':af) (R':ab) (h:Z w' (cQ b sp H2 f S2 y R'))=>eO hy h);obtain⟨p,hp⟩:∃p,y.bs[kk]? =J p:=⟨_,ag (show kk<y.bs.length by omega)⟩;obtain⟨Q,hQ⟩:=kQ hp hkL;have HLW:=S (fun R w h=>xp b sp H2 f S2 y p kk hk hy hp R w h);have HB:=S hQ;unfold cQ at HSH HLW h6;clear hp hQ hkL hk hy h5;have HK7:=S (fun(w':af) (R':ab) (h:Z w' (aa b #[.pointer (J (T sp 0 I)),.slice y.A y.bs.length y.c,o D f,.slice y.G S2.length y.d,o D 0,o D 0,o D y.z] 82*R'))=>(by exact h.cell 0:w'.cell? (T b 0 I)=J (.pointer (J (T sp 0 I)))));have bl:=h6.lt;go_upto_region 7 with fail;have hd:Z w5.drew (aa b #[.pointer (J (T sp 0 I)),.slice y.A y.bs.length y.c,o D f,.slice y.G S2.length y.d,o D 0,o D 0,o D y.z] 82*(dA (.slice y.A y.bs.length y.c) y.bs*(ao (.slice y.G S2.length y.d) S2*(ba y.bs H2*(ak sp σ2*(aa X #[o D kx,o D cx,o D mx.page,o D mx.size,o D mx.frame,o D mx.rights,o D ax.page,o D ax.kind,U ax.user] 43*(aa V #[o D 0,U ef,o D ea,o D eb,o D er,U ek] 36*(aa M #[o D ac.page,o D ac.kind,U ac.user] 41*(aa E #[o D 0,U N,o D 0,o D 0,o D 0,U N] 36*(aa F #[o D 0,o D 0] 27*R)))))))))):=h6.drew;have xd:=x6.drew;clear h6 x6;go_region_held3 (fun w'=>w'.cell? (T b 0 I)=J (.pointer (J (T sp 0 I)))) (first|(with_reducible exact HK7.out _ _ hd)|(with_reducible exact HK7.out _ _ hP)|(with_reducible exact HK7.out _ _ hs.right)|(with_reducible exact HK7.out _ _ hPS.right)|(with_reducible exact HK7.out _ _ hB.right)|(with_reducible exact HK7.out _ _ hF.right.right)|(with_reducible exact HK7.out _ _ hQ.right.right)|go_keep)
       (first
        |(go_at_call 84;(with_reducible refine(HLW.out _ _ hd).mono ?_);rintro e w7 ⟨rfl,b7⟩;have hP:=hd.below b7;have xP:=xd.below b7)
        |(go_at_call 84;(with_reducible refine(HLW.out _ _ hs.right).mono ?_);rintro e w7 ⟨rfl,b7⟩;have hPS:=hs.below b7;have xPS:=xs.below b7)
        |(go_at_call 21;(with_reducible refine(HLS.out _ _ (hd.eq (show _=ak sp σ2*(aa b #[.pointer (J (T sp 0 I)),.slice y.A y.bs.length y.c,o D f,.slice y.G S2.length y.d,o D 0,o D 0,o D y.z] 82*(dA (.slice y.A y.bs.length y.c) y.bs*(ao (.slice y.G S2.length y.d) S2*(ba y.bs H2*(aa X #[o D kx,o D cx,o D mx.page,o D mx.size,o D mx.frame,o D mx.rights,o D ax.page,o D ax.kind,U ax.user] 43*(aa V #[o D 0,U ef,o D ea,o D eb,o D er,U ek] 36*(aa M #[o D ac.page,o D ac.kind,U ac.user] 41*(aa E #[o D 0,U N,o D 0,o D 0,o D 0,U N] 36*(aa F #[o D 0,o D 0] 27*R))))))))) by ac_rfl))).mono ?_);rintro e w7 ⟨A3,c3,rfl,h7,x7⟩;have hs:Z w7 (cK (.slice A3 L.length c3) L*(aa b #[.pointer (J (T sp 0 I)),.slice y.A y.bs.length y.c,o D f,.slice y.G S2.length y.d,o D 0,o D 0,o D y.z] 82*(dA (.slice y.A y.bs.length y.c) y.bs*(ao (.slice y.G S2.length y.d) S2*(ba y.bs H2*(ak sp σ2*(aa X #[o D kx,o D cx,o D mx.page,o D mx.size,o D mx.frame,o D mx.rights,o D ax.page,o D ax.kind,U ax.user] 43*(aa V #[o D 0,U ef,o D ea,o D eb,o D er,U ek] 36*(aa M #[o D ac.page,o D ac.kind,U ac.user] 41*(aa E #[o D 0,U N,o D 0,o D 0,o D 0,U N] 36*(aa F #[o D 0,o D 0] 27*R))))))))))):=h7.eq (by ac_rfl);have xs:=xd.trans x7)
        |(go_at_call 21;(with_reducible refine(HLS.out _ _ (hP.eq (show _=ak sp σ2*(aa b #[.pointer (J (T sp 0 I)),.slice y.A y.bs.length y.c,o D f,.slice y.G S2.length y.d,o D 0,o D 0,o D y.z] 82*(dA (.slice y.A y.bs.length y.c) y.bs*(ao (.slice y.G S2.length y.d) S2*(ba y.bs H2*(aa X #[o D kx,o D cx,o D mx.page,o D mx.size,o D mx.frame,o D mx.rights,o D ax.page,o D ax.kind,U ax.user] 43*(aa V #[o D 0,U ef,o D ea,o D eb,o D er,U ek] 36*(aa M #[o D ac.page,o D ac.kind,U ac.user] 41*(aa E #[o D 0,U N,o D 0,o D 0,o D 0,U N] 36*(aa F #[o D 0,o D 0] 27*R))))))))) by ac_rfl))).mono ?_);rintro e w7 ⟨A3,c3,rfl,h7,x7⟩;have hPS:Z w7 (cK (.slice A3 L.length c3) L*(aa b #[.pointer (J (T sp 0 I)),.slice y.A y.bs.length y.c,o D f,.slice y.G S2.length y.d,o D 0,o D 0,o D y.z] 82*(dA (.slice y.A y.bs.length y.c) y.bs*(ao (.slice y.G S2.length y.d) S2*(ba y.bs H2*(ak sp σ2*(aa X #[o D kx,o D cx,o D mx.page,o D mx.size,o D mx.frame,o D mx.rights,o D ax.page,o D ax.kind,U ax.user] 43*(aa V #[o D 0,U ef,o D ea,o D eb,o D er,U ek] 36*(aa M #[o D ac.page,o D ac.kind,U ac.user] 41*(aa E #[o D 0,U N,o D 0,o D 0,o D 0,U N] 36*(aa F #[o D 0,o D 0] 27*R))))))))))):=h7.eq (by ac_rfl);have xPS:=xP.trans x7)
        |(go_at_call 21;(with_reducible refine(HLS.out _ _ (hB.eq (show _=ak sp σ2*(cK (.slice A4 n4' c4') L*(aa b #[.pointer (J (T sp 0 I)),.slice y.A y.bs.length y.c,o D f,.slice y.G S2.length y.d,o D 0,o D 0,o D y.z] 82*(dA (.slice y.A y.bs.length y.c) y.bs*(ao (.slice y.G S2.length y.d) S2*(ba y.bs H2*(aa X #[o D kx,o D cx,o D mx.page,o D mx.size,o D mx.frame,o D mx.rights,o D ax.page,o D ax.kind,U ax.user] 43*(aa V #[o D 0,U ef,o D ea,o D eb,o D er,U ek] 36*(aa M #[o D ac.page,o D ac.kind,U ac.user] 41*(aa E #[o D 0,U N,o D 0,o D 0,o D 0,U N] 36*(aa F #[o D 0,o D 0] 27*R)))))))))) by ac_rfl))).mono ?_);rintro e w7 ⟨A3,c3,rfl,h7,x7⟩;have hF:Z w7 (cK (.slice A4 n4' c4') L*(cK (.slice A3 L.length c3) L*(aa b #[.pointer (J (T sp 0 I)),.slice y.A y.bs.length y.c,o D f,.slice y.G S2.length y.d,o D 0,o D 0,o D y.z] 82*(dA (.slice y.A y.bs.length y.c) y.bs*(ao (.slice y.G S2.length y.d) S2*(ba y.bs H2*(ak sp σ2*(aa X #[o D kx,o D cx,o D mx.page,o D mx.size,o D mx.frame,o D mx.rights,o D ax.page,o D ax.kind,U ax.user] 43*(aa V #[o D 0,U ef,o D ea,o D eb,o D er,U ek] 36*(aa M #[o D ac.page,o D ac.kind,U ac.user] 41*(aa E #[o D 0,U N,o D 0,o D 0,o D 0,U N] 36*(aa F #[o D 0,o D 0] 27*R)))))))))))):=h7.eq (by ac_rfl);have xF:=xB.trans x7)
        |(go_at_call 85;(with_reducible refine(HLB.out p _ _ (hP.eq (show _=bp p L*(Q*(aa b #[.pointer (J (T sp 0 I)),.slice y.A y.bs.length y.c,o D f,.slice y.G S2.length y.d,o D 0,o D 0,o D y.z] 82*(dA (.slice y.A y.bs.length y.c) y.bs*(ao (.slice y.G S2.length y.d) S2*(ak sp σ2*(aa X #[o D kx,o D cx,o D mx.page,o D mx.size,o D mx.frame,o D mx.rights,o D ax.page,o D ax.kind,U ax.user] 43*(aa V #[o D 0,U ef,o D ea,o D eb,o D er,U ek] 36*(aa M #[o D ac.page,o D ac.kind,U ac.user] 41*(aa E #[o D 0,U N,o D 0,o D 0,o D 0,U N] 36*(aa F #[o D 0,o D 0] 27*R)))))))))) by rw[HB.out];ac_rfl))).mono ?_);rintro e w7 ⟨A4,n4',c4',rfl,h7,x7⟩;have hB:Z w7 (cK (.slice A4 n4' c4') L*(aa b #[.pointer (J (T sp 0 I)),.slice y.A y.bs.length y.c,o D f,.slice y.G S2.length y.d,o D 0,o D 0,o D y.z] 82*(dA (.slice y.A y.bs.length y.c) y.bs*(ao (.slice y.G S2.length y.d) S2*(ba y.bs H2*(ak sp σ2*(aa X #[o D kx,o D cx,o D mx.page,o D mx.size,o D mx.frame,o D mx.rights,o D ax.page,o D ax.kind,U ax.user] 43*(aa V #[o D 0,U ef,o D ea,o D eb,o D er,U ek] 36*(aa M #[o D ac.page,o D ac.kind,U ac.user] 41*(aa E #[o D 0,U N,o D 0,o D 0,o D 0,U N] 36*(aa F #[o D 0,o D 0] 27*R))))))))))):=hP.onto' h7;have xB:=xP.trans x7)
        |(go_at_call 85;(with_reducible refine(HLB.out p _ _ (hPS.eq (show _=bp p L*(cK (.slice A3 L.length c3) L*(Q*(aa b #[.pointer (J (T sp 0 I)),.slice y.A y.bs.length y.c,o D f,.slice y.G S2.length y.d,o D 0,o D 0,o D y.z] 82*(dA (.slice y.A y.bs.length y.c) y.bs*(ao (.slice y.G S2.length y.d) S2*(ak sp σ2*(aa X #[o D kx,o D cx,o D mx.page,o D mx.size,o D mx.frame,o D mx.rights,o D ax.page,o D ax.kind,U ax.user] 43*(aa V #[o D 0,U ef,o D ea,o D eb,o D er,U ek] 36*(aa M #[o D ac.page,o D ac.kind,U ac.user] 41*(aa E #[o D 0,U N,o D 0,o D 0,o D 0,U N] 36*(aa F #[o D 0,o D 0] 27*R))))))))))) by rw[HB.out];ac_rfl))).mono ?_);rintro e w7 ⟨A4,n4',c4',rfl,h7,x7⟩;have hF:Z w7 (cK (.slice A4 n4' c4') L*(cK (.slice A3 L.length c3) L*(aa b #[.pointer (J (T sp 0 I)),.slice y.A y.bs.length y.c,o D f,.slice y.G S2.length y.d,o D 0,o D 0,o D y.z] 82*(dA (.slice y.A y.bs.length y.c) y.bs*(ao (.slice y.G S2.length y.d) S2*(ba y.bs H2*(ak sp σ2*(aa X #[o D kx,o D cx,o D mx.page,o D mx.size,o D mx.frame,o D mx.rights,o D ax.page,o D ax.kind,U ax.user] 43*(aa V #[o D 0,U ef,o D ea,o D eb,o D er,U ek] 36*(aa M #[o D ac.page,o D ac.kind,U ac.user] 41*(aa E #[o D 0,U N,o D 0,o D 0,o D 0,U N] 36*(aa F #[o D 0,o D 0] 27*R)))))))))))):=hPS.onto' h7;have xF:=xPS.trans x7)
        |(go_at_call 83;(with_reducible refine(HE.out A4 n4' c4' A3 _ c3 _ _ hF).mono ?_);rintro e w7 ⟨rfl,b7⟩;have hQ:=hF.below b7;have xQ:=xF.below b7))
      all_goals
       go_wp2_with fail
       go_meet
       case rel=>exact⟨ac,on,rfl,by first|rfl|simp,hfin,HSH.out _ _ hQ.right.right,xQ⟩
     by_cases q4:kx=4
     ·
      have hHe:H2=H:=hH2.out.symm.trans (Wc.hist_same q13);subst hHe;subst q4;obtain⟨hc0,hcl⟩:=hAI (by show(4:Int)≤4;omega) rfl;obtain⟨k,hk⟩:=bz hc0;subst hk;have hkl:k<since.length:=by rw[hLen.out];omega
      have hkl':(k:Int)<since.length:=by omega
      have hk0:¬(k:Int)<0:=by omega
      have hSe:since.set k f=S2:=by have:=hS2.out;rw[if_pos ⟨rfl,rfl⟩] at this;exact this
      have hfin:bi (cW ax.page∧(ef=ad→ax=(if(4:Int)=4 then ax else ac)∧ad=ad)):=S ⟨hxo.out.2.2.2.1,fun _=>⟨(if_pos rfl).symm,rfl⟩⟩;clear hH2 hS2 hN hFR hLast hAI hAc hxo hLen q13 hc0 hcl;obtain⟨y,hy,h6⟩:=eN h4;have HSH:=S (fun(w':af) (R':ab) (h:Z w' (cQ b sp H2 f S2 y R'))=>eO hy h);unfold cQ at h6 HSH;have h7:Z wc (aa M #[o D ac.page,o D ac.kind,U ac.user] 41*(aa b #[.pointer (J (T sp 0 I)),.slice y.A y.bs.length y.c,o D f,.slice y.G since.length y.d,o D 0,o D 0,o D y.z] 82*(ao (.slice y.G since.length y.d) since*(dA (.slice y.A y.bs.length y.c) y.bs*(ba y.bs H2*(ak sp σ2*(aa X #[o D 4,o D k,o D mx.page,o D mx.size,o D mx.frame,o D mx.rights,o D ax.page,o D ax.kind,U ax.user] 43*(aa V #[o D 0,U ef,o D ea,o D eb,o D er,U ek] 36*(aa E #[o D 0,U N,o D 0,o D 0,o D 0,U N] 36*(aa F #[o D 0,o D 0] 27*R)))))))))):=h6.eq (by ac_rfl);clear h4 h6 hy;have ml:=h7.lt;obtain⟨m0,m1,m2⟩:=h7.cells3;obtain⟨f0,f1,f2',-⟩:=(⟨h7.free 0,h7.free 1,h7.free 2,trivial⟩:wc.frozen? (T M 0 I)=N∧wc.frozen? (T M 1 I)=N∧wc.frozen? (T M 2 I)=N∧True);have h8:=h7.set3 (o D ax.page) (o D ax.kind) (U ax.user);have x8:=((x3.set (T M 0 I) (o D ax.page)).set (T M 1 I) (o D ax.kind)).set (T M 2 I) (U ax.user);clear h7;go_upto_region 10 with fail;generalize ((wc.setCell (T M 0 I) (o D ax.page)).setCell (T M 1 I) (o D ax.kind)).setCell (T M 2 I) (U ax.user)=w8 at*
      clear ml m0 m1 m2 f0 f1 f2' x3 bl e0 e1 e2 e3 e4 e5 el c0 c1 c2 c3 c4 c5 c6 c7 c8 xl;have hd:Z w8 (ao (.slice y.G since.length y.d) since*(aa b #[.pointer (J (T sp 0 I)),.slice y.A y.bs.length y.c,o D f,.slice y.G since.length y.d,o D 0,o D 0,o D y.z] 82*(aa X #[o D 4,o D k,o D mx.page,o D mx.size,o D mx.frame,o D mx.rights,o D ax.page,o D ax.kind,U ax.user] 43*(aa M #[o D ax.page,o D ax.kind,U ax.user] 41*(dA (.slice y.A y.bs.length y.c) y.bs*(ba y.bs H2*(ak sp σ2*(aa V #[o D 0,U ef,o D ea,o D eb,o D er,U ek] 36*(aa E #[o D 0,U N,o D 0,o D 0,o D 0,U N] 36*(aa F #[o D 0,o D 0] 27*R)))))))))):=h8.eq (by ac_rfl);obtain⟨g,hg,gl,gc,gf,gs⟩:=qt y.G hd hkl f;have hdd:=hd.drew;have i1:w8.drew.cell? (T X 1 I)=J (o D k):=hdd.right.right.cell 1;have b2:w8.drew.cell? (T b 2 I)=J (o D f):=hdd.right.cell 2;have b3:w8.drew.cell? (T b 3 I)=J (.slice y.G since.length y.d):=hdd.right.cell 3;have gd:=gs.drew;have i1':(w8.setCell (T g k I) (o D f)).drew.cell? (T X 1 I)=J (o D k):=gd.right.right.cell 1;have b2':(w8.setCell (T g k I) (o D f)).drew.cell? (T b 2 I)=J (o D f):=gd.right.cell 2;have b3':(w8.setCell (T g k I) (o D f)).drew.cell? (T b 3 I)=J (.slice y.G since.length y.d):=gd.right.cell 3;have gfd:w8.drew.frozen? (T g k I)=N:=gf;have gcd:w8.drew.cell? (T g k I)=J (o D since[k]):=gc;rw[hg] at b3 b3';have bl:=hd.right.lt;have xl:=hd.right.right.lt;clear h8;rw[hg] at gd;have HEN:Z (w8.setCell (T g k I) (o D f)).drew (aC b sp H2 f S2*(ak sp σ2*(aa X #[o D 4,o D k,o D mx.page,o D mx.size,o D mx.frame,o D mx.rights,o D ax.page,o D ax.kind,U ax.user] 43*(aa V #[o D 0,U ef,o D ea,o D eb,o D er,U ek] 36*(aa M #[o D ax.page,o D ax.kind,U ax.user] 41*(aa E #[o D 0,U N,o D 0,o D 0,o D 0,U N] 36*(aa F #[o D 0,o D 0] 27*R))))))):=by
       have e:(ao (.slice y.G S2.length y.d) S2:ab)=ao (.slice (J (T g 0 I)) since.length y.d) (since.set k f):=by rw[←hSe,hg,List.length_set]
       have l:S2.length=since.length:=by rw[←hSe,List.length_set]
       refine HSH.out _ _ ?_;rw[e,l,hg];exact gd.eq (by ac_rfl)
      have HXN:=(x8.set (T g k I) (o D f)).drew;clear hSe HSH gs gd hd hdd x8;go_region_held3 (fun w'=>w'.cell? (T b 2 I)=J (o D f)∧w'.cell? (T b 3 I)=J (.slice (J (T g 0 I)) since.length y.d)∧w'.cell? (T X 1 I)=J (o D k)) (first|exact⟨b2,b3,i1⟩|exact⟨b2',b3',i1'⟩|go_keep) (fail)
      all_goals
       go_wp2_with fail
       go_meet
       case rel=>exact⟨ax,ad,rfl,rfl,S ⟨hfin.out.1,fun he=>⟨(hfin.out.2 he).1,rfl⟩⟩,HEN,HXN⟩
     ·
      have hHe:H2=H:=hH2.out.symm.trans (Wc.hist_same q13);have hSe:S2=since:=hS2.out.symm.trans (if_neg (fun hc=>q4 hc.2));subst hHe;subst hSe;have hfin:bi (cW ac.page∧(ef=ad→ac=(if kx=4 then ax else ac)∧on=ad)):=S ⟨hAc.out,fun he=>⟨(if_neg q4).symm,(hFR.out he).2.2.2.2.2.1 (by rcases(hFR.out he).1 with h|h;exact absurd h q4;exact h)⟩⟩;have n4:(kx==4)=N:=by simpa using q4
      clear hH2 hS2 hN hFR hLast hAI hAc hxo hLen;by_cases k1:1≤kx
      ·have k3:¬kx≤3:=fun hh=>q13 ⟨k1,hh⟩
       clear q13 q4;go_wp2_with fail
       go_meet
       case rel=>exact⟨ac,on,rfl,rfl,hfin,h4,x3⟩
      ·clear q13 q4
       go_wp2_with fail
       go_meet
       case rel=>exact⟨ac,on,rfl,rfl,hfin,h4,x3⟩
    ·have hHe:H2=H:=hH2.out.symm.trans (Wc.hist_bad q0)
     have hSe:S2=since:=hS2.out.symm.trans (if_neg (fun hc=>q0 hc.1));subst hHe;subst hSe;have hfin:bi (cW ac.page∧(ef=ad→ac=(if kx=4 then ax else ac)∧on=ad)):=S ⟨hAc.out,fun he=>absurd (hFR.out he).2.2.2.1 q0⟩;have hne:(ec !=0)=ad:=by simpa using q0
     clear hH2 hS2 hN hFR hLast hAI hAc hxo hLen q0;go_wp2_with fail
     go_meet
     case rel=>exact⟨ac,on,rfl,rfl,hfin,h4,x3⟩
   case rest=>
    obtain⟨a2,on2,rfl,rfl,hA2,h5,x5⟩:=hcut;clear h4 x3 hLast hAI hAc bl xl el e0 e1 e2 e3 e4 e5 c0 c1 c2 c3 c4 c5 c6 c7 c8 hH2 hS2 hxo hLen;obtain⟨y,hy,h6⟩:=eN h5;have HSH:=S (fun(w':af) (R':ab) (z:Int) (h:Z w' (cQ b sp H2 f2 S2 {y with z:=z} R'))=>eO (y:={y with z:=z}) hy h);have HS1:=S (fun(w':af) (R':ab) (h:Z w' (cQ b sp H2 f S2 y R'))=>eO hy h);have hbs:=S (Has.rowSmall' h6.right);replace hy:=S hy;unfold cQ at h6 HSH HS1;dsimp only at HSH;clear h5;have h7:Z wc (aa V #[o D ec,U ef,o D ea,o D eb,o D er,U ek] 36*(aa b #[.pointer (J (T sp 0 I)),.slice y.A y.bs.length y.c,o D f,.slice y.G S2.length y.d,o D 0,o D 0,o D (y.z)] 82*((dA (.slice y.A y.bs.length y.c) y.bs*(ao (.slice y.G S2.length y.d) S2*ba y.bs H2))*(ak sp σ2*(aa X #[o D kx,o D cx,o D mx.page,o D mx.size,o D mx.frame,o D mx.rights,o D ax.page,o D ax.kind,U ax.user] 43*(aa M #[o D a2.page,o D a2.kind,U a2.user] 41*(aa E #[o D 0,U N,o D 0,o D 0,o D 0,U N] 36*(aa F #[o D 0,o D 0] 27*R)))))))):=h6.eq (by ac_rfl);clear h6;obtain⟨v0,v1,v2,v3,v4,v5⟩:=h7.cells6;have vl:=h7.lt;go_upto_if 69 with fail;go_cut [9] from 70 to 88 (fun s9 wx=>s9=U ad∧Z wx (aa V #[o D ec,U ef,o D ea,o D eb,o D er,U ek] 36*(aa b #[.pointer (J (T sp 0 I)),.slice y.A y.bs.length y.c,o D f,.slice y.G S2.length y.d,o D 0,o D 0,o D (y.z)] 82*((dA (.slice y.A y.bs.length y.c) y.bs*(ao (.slice y.G S2.length y.d) S2*ba y.bs H2))*(ak sp σ2*(aa X #[o D kx,o D cx,o D mx.page,o D mx.size,o D mx.frame,o D mx.rights,o D ax.page,o D ax.kind,U ax.user] 43*(aa M #[o D a2.page,o D a2.kind,U a2.user] 41*(aa E #[o D 0,U N,o D 0,o D 0,o D 0,U N] 36*(aa F #[o D 0,o D 0] 27*R))))))))∧bL w wx)
    case first=>
     cases ef with
     |false=>
      clear hN hRt hFR hHl hSL hA2 hF2 HSH HS1 hy;go_wp2_with fail
      go_meet
      case rel=>exact⟨rfl,h7,x5⟩
     |true=>
      obtain⟨ha,hb⟩:=hA2.out;obtain⟨ha2,rfl⟩:=hb rfl;obtain⟨h45,hc0,hcl,-⟩:=hFR.out rfl;obtain⟨r0,r1,r2⟩:=hRt.out rfl;obtain⟨k,hk⟩:=bz hc0;subst hk;have hkl:k<S2.length:=by rw[hSL.out];omega
      have hkl':(k:Int)<S2.length:=by omega
      have hk0:¬(k:Int)<0:=by omega
      have hgd:S2.getD ((k:Int).toNat) 0=S2[k]:=by rw[Int.toNat_natCast,List.getD_eq_getElem?_getD,ag hkl];rfl
      rw[hgd] at r0 r1 r2;rw[←ha2] at r2;clear ha2 hb;obtain⟨i,hi⟩:=bz r0;have hHe:=hHl.out.2 rfl;have hle:=hN.out.hist.le;have hek:ek=N:=(hFR.out rfl).2.2.2.2.1;have hmn:f≤f2:=by rw[←hF2.out];unfold ft;rw[if_neg (by show¬ek=ad;rw[hek];simp)];exact Nat.le_refl _
      have hii:(i:Int)=S2[k]:=hi.symm;have HRW:bi (∀R w,Z w (aC b sp H2 f S2*R)→bA prog 86 #[.pointer (J (T b 0 I)),.agg #[o D a2.page,o D a2.kind,U a2.user],.agg #[o D ea,o D eb,o D er],o D S2[k]] w (Pure (U ad) w)):=
       S (fun R w h=>by
        rw[←hii];refine yw b sp H2 f S2 a2 ⟨ea,eb,er⟩ i ha ?_ hHl.out.1 hN.out.hist.ok ?_ R w h
        ·have:f2+1≤H2.length:=hle
         omega
        ·rw[hHe]
         rw[←hii,Int.toNat_natCast] at r2;exact r2)
      obtain⟨g,hg,gl,gc,gf,gs⟩:=qt y.G (h7.eq (show _=ao (.slice y.G S2.length y.d) S2*(aa b #[.pointer (J (T sp 0 I)),.slice y.A y.bs.length y.c,o D f,.slice y.G S2.length y.d,o D 0,o D 0,o D (y.z)] 82*(dA (.slice y.A y.bs.length y.c) y.bs*(ba y.bs H2*(aa V #[o D ec,U ad,o D ea,o D eb,o D er,U ek] 36*(ak sp σ2*(aa X #[o D kx,o D k,o D mx.page,o D mx.size,o D mx.frame,o D mx.rights,o D ax.page,o D ax.kind,U ax.user] 43*(aa M #[o D a2.page,o D a2.kind,U a2.user] 41*(aa E #[o D 0,U N,o D 0,o D 0,o D 0,U N] 36*(aa F #[o D 0,o D 0] 27*R))))))))) by ac_rfl)) hkl 0;have HS2:=S (fun(w':af) (h:Z w' (aa V #[o D ec,U ad,o D ea,o D eb,o D er,U ek] 36*(aa b #[.pointer (J (T sp 0 I)),.slice y.A y.bs.length y.c,o D f,.slice (J (T g 0 I)) S2.length y.d,o D 0,o D 0,o D y.z] 82*((dA (.slice y.A y.bs.length y.c) y.bs*(ao (.slice (J (T g 0 I)) S2.length y.d) S2*ba y.bs H2))*(ak sp σ2*(aa X #[o D kx,o D k,o D mx.page,o D mx.size,o D mx.frame,o D mx.rights,o D ax.page,o D ax.kind,U ax.user] 43*(aa M #[o D a2.page,o D a2.kind,U a2.user] 41*(aa E #[o D 0,U N,o D 0,o D 0,o D 0,U N] 36*(aa F #[o D 0,o D 0] 27*R)))))))))=>HS1.out w' (aa V #[o D ec,U ad,o D ea,o D eb,o D er,U ek] 36*(ak sp σ2*(aa X #[o D kx,o D k,o D mx.page,o D mx.size,o D mx.frame,o D mx.rights,o D ax.page,o D ax.kind,U ax.user] 43*(aa M #[o D a2.page,o D a2.kind,U a2.user] 41*(aa E #[o D 0,U N,o D 0,o D 0,o D 0,U N] 36*(aa F #[o D 0,o D 0] 27*R)))))) (h.eq (by rw[hg];ac_rfl)));have h8:Z wc (aa V #[o D ec,U ad,o D ea,o D eb,o D er,U ek] 36*(aa b #[.pointer (J (T sp 0 I)),.slice y.A y.bs.length y.c,o D f,.slice (J (T g 0 I)) S2.length y.d,o D 0,o D 0,o D y.z] 82*((dA (.slice y.A y.bs.length y.c) y.bs*(ao (.slice (J (T g 0 I)) S2.length y.d) S2*ba y.bs H2))*(ak sp σ2*(aa X #[o D kx,o D k,o D mx.page,o D mx.size,o D mx.frame,o D mx.rights,o D ax.page,o D ax.kind,U ax.user] 43*(aa M #[o D a2.page,o D a2.kind,U a2.user] 41*(aa E #[o D 0,U N,o D 0,o D 0,o D 0,U N] 36*(aa F #[o D 0,o D 0] 27*R)))))))):=h7.eq (by rw[hg]);have HEN:=S (fun(w':af) (h:Z w' (aa V #[o D ec,U ad,o D ea,o D eb,o D er,U ek] 36*(aa b #[.pointer (J (T sp 0 I)),.slice y.A y.bs.length y.c,o D f,.slice (J (T g 0 I)) S2.length y.d,o D 0,o D 0,o D y.z] 82*((dA (.slice y.A y.bs.length y.c) y.bs*(ao (.slice (J (T g 0 I)) S2.length y.d) S2*ba y.bs H2))*(ak sp σ2*(aa X #[o D kx,o D k,o D mx.page,o D mx.size,o D mx.frame,o D mx.rights,o D ax.page,o D ax.kind,U ax.user] 43*(aa M #[o D a2.page,o D a2.kind,U a2.user] 41*(aa E #[o D 0,U N,o D 0,o D 0,o D 0,U N] 36*(aa F #[o D 0,o D 0] 27*R)))))))))=>(h.eq (by rw[hg]):Z w' (aa V #[o D ec,U ad,o D ea,o D eb,o D er,U ek] 36*(aa b #[.pointer (J (T sp 0 I)),.slice y.A y.bs.length y.c,o D f,.slice y.G S2.length y.d,o D 0,o D 0,o D (y.z)] 82*((dA (.slice y.A y.bs.length y.c) y.bs*(ao (.slice y.G S2.length y.d) S2*ba y.bs H2))*(ak sp σ2*(aa X #[o D kx,o D k,o D mx.page,o D mx.size,o D mx.frame,o D mx.rights,o D ax.page,o D ax.kind,U ax.user] 43*(aa M #[o D a2.page,o D a2.kind,U a2.user] 41*(aa E #[o D 0,U N,o D 0,o D 0,o D 0,U N] 36*(aa F #[o D 0,o D 0] 27*R))))))))));have HK:=S (fun(w':af) (h:Z w' (aa V #[o D ec,U ad,o D ea,o D eb,o D er,U ek] 36*(aa b #[.pointer (J (T sp 0 I)),.slice y.A y.bs.length y.c,o D f,.slice (J (T g 0 I)) S2.length y.d,o D 0,o D 0,o D y.z] 82*((dA (.slice y.A y.bs.length y.c) y.bs*(ao (.slice (J (T g 0 I)) S2.length y.d) S2*ba y.bs H2))*(ak sp σ2*(aa X #[o D kx,o D k,o D mx.page,o D mx.size,o D mx.frame,o D mx.rights,o D ax.page,o D ax.kind,U ax.user] 43*(aa M #[o D a2.page,o D a2.kind,U a2.user] 41*(aa E #[o D 0,U N,o D 0,o D 0,o D 0,U N] 36*(aa F #[o D 0,o D 0] 27*R)))))))))=>(by
       have h1:Z w' (ao (.slice (J (T g 0 I)) S2.length y.d) S2*(aa b #[.pointer (J (T sp 0 I)),.slice y.A y.bs.length y.c,o D f,.slice (J (T g 0 I)) S2.length y.d,o D 0,o D 0,o D y.z] 82*(aa X #[o D kx,o D k,o D mx.page,o D mx.size,o D mx.frame,o D mx.rights,o D ax.page,o D ax.kind,U ax.user] 43*(aa M #[o D a2.page,o D a2.kind,U a2.user] 41*(aa V #[o D ec,U ad,o D ea,o D eb,o D er,U ek] 36*(dA (.slice y.A y.bs.length y.c) y.bs*(ba y.bs H2*(ak sp σ2*(aa E #[o D 0,U N,o D 0,o D 0,o D 0,U N] 36*(aa F #[o D 0,o D 0] 27*R)))))))))):=h.eq (by ac_rfl);obtain⟨g',e,-,hc⟩:=da h1 hkl;injection e with e
       injection e with e
       subst e;exact⟨h.cell 2,h.cell 3,h.cell 4,h1.r3.cell 0,h1.r3.cell 1,h1.r3.cell 2,h1.right.cell 3,h1.right.right.cell 1,hc⟩:w'.cell? (T V 2 I)=J (o D ea)∧w'.cell? (T V 3 I)=J (o D eb)∧w'.cell? (T V 4 I)=J (o D er)∧w'.cell? (T M 0 I)=J (o D a2.page)∧w'.cell? (T M 1 I)=J (o D a2.kind)∧w'.cell? (T M 2 I)=J (U a2.user)∧w'.cell? (T b 3 I)=J (.slice (J (T g 0 I)) S2.length y.d)∧w'.cell? (T X 1 I)=J (o D k)∧w'.cell? (T g k I)=J (o D S2[k])))
      have bl:=h7.right.lt;clear hN hRt hFR hHl hSL hA2 hF2 HSH HS1 hy r0 r1 r2 hi hii hHe hle hmn gf gs h45 hc0 hcl ha hgd gc hg h7 hek v0 v1 v2 v3 v4 v5;go_wp2_with fail
      have hd:=h8.drew;have xd:=x5.drew;clear h8 x5;go_region_held3 (fun w'=>w'.cell? (T V 2 I)=J (o D ea)∧w'.cell? (T V 3 I)=J (o D eb)∧w'.cell? (T V 4 I)=J (o D er)∧w'.cell? (T M 0 I)=J (o D a2.page)∧w'.cell? (T M 1 I)=J (o D a2.kind)∧w'.cell? (T M 2 I)=J (U a2.user)∧w'.cell? (T b 3 I)=J (.slice (J (T g 0 I)) S2.length y.d)∧w'.cell? (T X 1 I)=J (o D k)∧w'.cell? (T g k I)=J (o D S2[k])) (first|(with_reducible exact HK.out _ hd)|(with_reducible exact HK.out _ hL)|go_keep)
       (first
        |(go_at_call 86;(with_reducible refine(HRW.out _ _ (HS2.out _ hd)).mono ?_);rintro e w7 ⟨rfl,b7⟩;have hL:=hd.below b7;have xL:=xd.below b7))
      all_goals
       go_wp2_with fail
       go_meet
       case rel=>exact⟨by first|rfl|simp,HEN.out _ hL,xL⟩
    case rest=>
     obtain⟨rfl,h8,x8⟩:=hcut;clear h7 x5 v0 v1 v2 v3 v4 v5 vl hRt hFR hSL hA2 HS1;obtain⟨v0,v1,v2,v3,v4,v5⟩:=h8.cells6;have vl:=h8.lt;go_upto_if 90 with fail;go_cut [] from 91 to 99 (fun wx=>Z wx (aa V #[o D ec,U ef,o D ea,o D eb,o D er,U ek] 36*(aa b #[.pointer (J (T sp 0 I)),.slice y.A y.bs.length y.c,o D f2,.slice y.G S2.length y.d,o D 0,o D 0,o D (y.z)] 82*((dA (.slice y.A y.bs.length y.c) y.bs*(ao (.slice y.G S2.length y.d) S2*ba y.bs H2))*(ak sp σ2*(aa X #[o D kx,o D cx,o D mx.page,o D mx.size,o D mx.frame,o D mx.rights,o D ax.page,o D ax.kind,U ax.user] 43*(aa M #[o D a2.page,o D a2.kind,U a2.user] 41*(aa E #[o D 0,U N,o D 0,o D 0,o D 0,U N] 36*(aa F #[o D 0,o D 0] 27*R))))))))∧bL w wx)
     case first=>
      cases ek with
      |false=>
       have hf:f=f2:=hF2.out;subst hf;clear hN hHl hF2 HSH hy;go_wp2_with fail
       go_meet
       case rel=>exact⟨h8,x8⟩
      |true=>
       have hf:H2.length - 1=f2:=hF2.out;have h1:1≤H2.length:=hN.out.hist.ne;have hl:=hHl.out.1;have hyo:=hy.out;have hw:IntKind.i64.wrap ((y.bs.length:Int) - 1)=(f2:Int):=by rw[IntKind.wrap_i64];omega
       have h9:=h8.p2;have b1:wc.cell? (T b 1 I)=J (.slice y.A y.bs.length y.c):=h9.cell 1;have b2:wc.cell? (T b 2 I)=J (o D f):=h9.cell 2;have bf:wc.frozen? (T b 2 I)=N:=h9.free 2;have bl:=h9.lt;have h10:Z _ (aa b #[.pointer (J (T sp 0 I)),.slice y.A y.bs.length y.c,o D f2,.slice y.G S2.length y.d,o D 0,o D 0,o D (y.z)] 82*(aa V #[o D ec,U ef,o D ea,o D eb,o D er,U ad] 36*((dA (.slice y.A y.bs.length y.c) y.bs*(ao (.slice y.G S2.length y.d) S2*ba y.bs H2))*(ak sp σ2*(aa X #[o D kx,o D cx,o D mx.page,o D mx.size,o D mx.frame,o D mx.rights,o D ax.page,o D ax.kind,U ax.user] 43*(aa M #[o D a2.page,o D a2.kind,U a2.user] 41*(aa E #[o D 0,U N,o D 0,o D 0,o D 0,U N] 36*(aa F #[o D 0,o D 0] 27*R)))))))):=h9.set 2 (o D f2);have x10:=x8.set (T b 2 I) (o D f2);have hbo:y.bs.length≤1000000:=by omega
       clear hN hHl hF2 HSH hy hyo hf h1 hl h8 x8 h9;go_wp2_with fail
       go_meet
       case rel=>exact⟨h10.p2,x10⟩
     case rest=>
      obtain⟨h9,x9⟩:=hcut;clear h8 x8 v0 v1 v2 v3 v4 v5 vl hN hHl hF2;have hb:=h9.p2;have b4:wc.cell? (T b 4 I)=J (o D 0):=hb.cell 4;have b6:wc.cell? (T b 6 I)=J (o D y.z):=hb.cell 6;have bf:wc.frozen? (T b 6 I)=N:=hb.free 6;have bl:=hb.lt;have h10:Z _ (aa b #[.pointer (J (T sp 0 I)),.slice y.A y.bs.length y.c,o D f2,.slice y.G S2.length y.d,o D 0,o D 0,o D (wrap64 (y.z+1))] 82*(aa V #[o D ec,U ef,o D ea,o D eb,o D er,U ek] 36*((dA (.slice y.A y.bs.length y.c) y.bs*(ao (.slice y.G S2.length y.d) S2*ba y.bs H2))*(ak sp σ2*(aa X #[o D kx,o D cx,o D mx.page,o D mx.size,o D mx.frame,o D mx.rights,o D ax.page,o D ax.kind,U ax.user] 43*(aa M #[o D a2.page,o D a2.kind,U a2.user] 41*(aa E #[o D 0,U N,o D 0,o D 0,o D 0,U N] 36*(aa F #[o D 0,o D 0] 27*R)))))))):=hb.set 6 (o D (wrap64 (y.z+1)));have x10:=x9.set (T b 6 I) (o D (wrap64 (y.z+1)));clear h9 hb x9;go_upto_region 18 with fail;generalize wc.setCell (T b 6 I) (o D (wrap64 (y.z+1)))=w2 at*
      clear b4 b6 bf bl;generalize wrap64 (y.z+1)=z2 at*
      have hb:Z w2 (aa E #[o D 0,U N,o D 0,o D 0,o D 0,U N] 36*(aa F #[o D 0,o D 0] 27*(aa V #[o D ec,U ef,o D ea,o D eb,o D er,U ek] 36*(aa b #[.pointer (J (T sp 0 I)),.slice y.A y.bs.length y.c,o D f2,.slice y.G S2.length y.d,o D 0,o D 0,o D (z2)] 82*((dA (.slice y.A y.bs.length y.c) y.bs*(ao (.slice y.G S2.length y.d) S2*ba y.bs H2))*(ak sp σ2*(aa X #[o D kx,o D cx,o D mx.page,o D mx.size,o D mx.frame,o D mx.rights,o D ax.page,o D ax.kind,U ax.user] 43*(aa M #[o D a2.page,o D a2.kind,U a2.user] 41*R)))))))):=h10.eq (by ac_rfl);clear h10;have hE:Z _ (aa E #[o D ec,U ef,o D ea,o D eb,o D er,U ek] 36*(aa F #[o D 0,o D 0] 27*(aa V #[o D ec,U ef,o D ea,o D eb,o D er,U ek] 36*(aa b #[.pointer (J (T sp 0 I)),.slice y.A y.bs.length y.c,o D f2,.slice y.G S2.length y.d,o D 0,o D 0,o D (z2)] 82*((dA (.slice y.A y.bs.length y.c) y.bs*(ao (.slice y.G S2.length y.d) S2*ba y.bs H2))*(ak sp σ2*(aa X #[o D kx,o D cx,o D mx.page,o D mx.size,o D mx.frame,o D mx.rights,o D ax.page,o D ax.kind,U ax.user] 43*(aa M #[o D a2.page,o D a2.kind,U a2.user] 41*R)))))))):=(hb.set6 (o D ec) (U ef) (o D ea) (o D eb) (o D er) (U ek)).drew;have hF:Z _ (aa F #[o D 0,o D 0] 27*(aa E #[o D 0,U N,o D 0,o D 0,o D 0,U N] 36*(aa V #[o D ec,U ef,o D ea,o D eb,o D er,U ek] 36*(aa b #[.pointer (J (T sp 0 I)),.slice y.A y.bs.length y.c,o D f2,.slice y.G S2.length y.d,o D 0,o D 0,o D (z2)] 82*((dA (.slice y.A y.bs.length y.c) y.bs*(ao (.slice y.G S2.length y.d) S2*ba y.bs H2))*(ak sp σ2*(aa X #[o D kx,o D cx,o D mx.page,o D mx.size,o D mx.frame,o D mx.rights,o D ax.page,o D ax.kind,U ax.user] 43*(aa M #[o D a2.page,o D a2.kind,U a2.user] 41*R)))))))):=((hb.p2.set 0 (o D 0)).set 1 (o D 0)).drew;have hEF:Z _ (aa F #[o D 0,o D 0] 27*(aa E #[o D ec,U ef,o D ea,o D eb,o D er,U ek] 36*(aa V #[o D ec,U ef,o D ea,o D eb,o D er,U ek] 36*(aa b #[.pointer (J (T sp 0 I)),.slice y.A y.bs.length y.c,o D f2,.slice y.G S2.length y.d,o D 0,o D 0,o D (z2)] 82*((dA (.slice y.A y.bs.length y.c) y.bs*(ao (.slice y.G S2.length y.d) S2*ba y.bs H2))*(ak sp σ2*(aa X #[o D kx,o D cx,o D mx.page,o D mx.size,o D mx.frame,o D mx.rights,o D ax.page,o D ax.kind,U ax.user] 43*(aa M #[o D a2.page,o D a2.kind,U a2.user] 41*R)))))))):=(((hb.set6 (o D ec) (U ef) (o D ea) (o D eb) (o D er) (U ek)).p2.set 0 (o D 0)).set 1 (o D 0)).drew;have hFE:Z _ (aa E #[o D ec,U ef,o D ea,o D eb,o D er,U ek] 36*(aa F #[o D 0,o D 0] 27*(aa V #[o D ec,U ef,o D ea,o D eb,o D er,U ek] 36*(aa b #[.pointer (J (T sp 0 I)),.slice y.A y.bs.length y.c,o D f2,.slice y.G S2.length y.d,o D 0,o D 0,o D (z2)] 82*((dA (.slice y.A y.bs.length y.c) y.bs*(ao (.slice y.G S2.length y.d) S2*ba y.bs H2))*(ak sp σ2*(aa X #[o D kx,o D cx,o D mx.page,o D mx.size,o D mx.frame,o D mx.rights,o D ax.page,o D ax.kind,U ax.user] 43*(aa M #[o D a2.page,o D a2.kind,U a2.user] 41*R)))))))):=(((hb.p2.set 0 (o D 0)).set 1 (o D 0)).p2.set6 (o D ec) (U ef) (o D ea) (o D eb) (o D er) (U ek)).drew;have hd:=hb.drew;obtain⟨e0,e1,e2,e3,e4,e5⟩:=hb.cells6;obtain⟨f0,f1,f2',f3,f4,f5⟩:=hb.frees6;have el:=hb.lt;have k0:w2.cell? (T F 0 I)=J (o D 0):=hb.right.cell 0;have k1:w2.cell? (T F 1 I)=J (o D 0):=hb.right.cell 1;have l0:w2.frozen? (T F 0 I)=N:=hb.right.free 0;have l1:w2.frozen? (T F 1 I)=N:=hb.right.free 1;have fl:=hb.right.lt;have HK:=S (fun(w':af) (P Q:ab) (h:Z w' (P*(Q*(aa V #[o D ec,U ef,o D ea,o D eb,o D er,U ek] 36*(aa b #[.pointer (J (T sp 0 I)),.slice y.A y.bs.length y.c,o D f2,.slice y.G S2.length y.d,o D 0,o D 0,o D (z2)] 82*((dA (.slice y.A y.bs.length y.c) y.bs*(ao (.slice y.G S2.length y.d) S2*ba y.bs H2))*(ak sp σ2*(aa X #[o D kx,o D cx,o D mx.page,o D mx.size,o D mx.frame,o D mx.rights,o D ax.page,o D ax.kind,U ax.user] 43*(aa M #[o D a2.page,o D a2.kind,U a2.user] 41*R)))))))))=>(by
       obtain⟨c0,c1,c2,c3,c4,c5⟩:=h.right.right.cells6;exact⟨c0,c1,c2,c3,c4,c5,h.r3.cell 4,h.r3.cell 5⟩:w'.cell? (T V 0 I)=J (o D ec)∧w'.cell? (T V 1 I)=J (U ef)∧w'.cell? (T V 2 I)=J (o D ea)∧w'.cell? (T V 3 I)=J (o D eb)∧w'.cell? (T V 4 I)=J (o D er)∧w'.cell? (T V 5 I)=J (U ek)∧w'.cell? (T b 4 I)=J (o D 0)∧w'.cell? (T b 5 I)=J (o D 0)))
      have hne:E≠F:=hb.ne;have hne':F≠E:=fun e=>hne e.symm;have HEN:=S (fun(w':af) (h:Z w' (aa V #[o D ec,U ef,o D ea,o D eb,o D er,U ek] 36*(aa b #[.pointer (J (T sp 0 I)),.slice y.A y.bs.length y.c,o D f2,.slice y.G S2.length y.d,o D 0,o D 0,o D (z2)] 82*((dA (.slice y.A y.bs.length y.c) y.bs*(ao (.slice y.G S2.length y.d) S2*ba y.bs H2))*(ak sp σ2*(aa X #[o D kx,o D cx,o D mx.page,o D mx.size,o D mx.frame,o D mx.rights,o D ax.page,o D ax.kind,U ax.user] 43*(aa M #[o D a2.page,o D a2.kind,U a2.user] 41*R)))))))=>(by
       have h1:=HSH.out w' (ak sp σ2*(aa X #[o D kx,o D cx,o D mx.page,o D mx.size,o D mx.frame,o D mx.rights,o D ax.page,o D ax.kind,U ax.user] 43*(aa M #[o D a2.page,o D a2.kind,U a2.user] 41*R))) z2 ((h.right).eq (by ac_rfl));exact(h1.eq (show _=aa X #[o D kx,o D cx,o D mx.page,o D mx.size,o D mx.frame,o D mx.rights,o D ax.page,o D ax.kind,U ax.user] 43*(aa M #[o D a2.page,o D a2.kind,U a2.user] 41*(aC b sp H2 f2 S2*(ak sp σ2*R))) by ac_rfl)).right.right :Z w' (aC b sp H2 f2 S2*(ak sp σ2*R))))
      clear HSH hy hbs;go_region_held3 (fun w'=>w'.cell? (T V 0 I)=J (o D ec)∧w'.cell? (T V 1 I)=J (U ef)∧w'.cell? (T V 2 I)=J (o D ea)∧w'.cell? (T V 3 I)=J (o D eb)∧w'.cell? (T V 4 I)=J (o D er)∧w'.cell? (T V 5 I)=J (U ek)∧w'.cell? (T b 4 I)=J (o D 0)∧w'.cell? (T b 5 I)=J (o D 0)) (first|(with_reducible exact HK.out _ _ _ hd)|(with_reducible exact HK.out _ _ _ hE)|(with_reducible exact HK.out _ _ _ hF)|(with_reducible exact HK.out _ _ _ hEF)|(with_reducible exact HK.out _ _ _ hFE)|go_keep) (fail)
      all_goals
       go_wp2_with fail
       refine am (fun wz=>Z wz (aa E #[o D ec,U ef,o D ea,o D eb,o D er,U ek] 36*(aa F #[o D 0,o D 0] 27*(aa V #[o D ec,U ef,o D ea,o D eb,o D er,U ek] 36*(aa b #[.pointer (J (T sp 0 I)),.slice y.A y.bs.length y.c,o D f2,.slice y.G S2.length y.d,o D 0,o D 0,o D (z2)] 82*((dA (.slice y.A y.bs.length y.c) y.bs*(ao (.slice y.G S2.length y.d) S2*ba y.bs H2))*(ak sp σ2*(aa X #[o D kx,o D cx,o D mx.page,o D mx.size,o D mx.frame,o D mx.rights,o D ax.page,o D ax.kind,U ax.user] 43*(aa M #[o D a2.page,o D a2.kind,U a2.user] 41*R))))))))∧bL w wz) ?_ ?_
       ·first
         |exact⟨hEF.p2,(((((((((x10.set _ _).set _ _).set _ _).set _ _).set _ _).set _ _).set _ _).set _ _).drew)⟩
         |exact⟨hFE,(((((((((x10.set _ _).set _ _).set _ _).set _ _).set _ _).set _ _).set _ _).set _ _).drew)⟩
       ·rintro wz ⟨hz,xz⟩
        exact b0 (ng results37 rfl rfl (aM hz) (dx hz.right)) rfl ⟨rfl,HEN.out _ hz.right.right,xz⟩
theorem xg:(prog.info? 3).map (fun i=>(i.zero,i.size,i.bytes))=J (J (o D 0),1,8):=by kernel_rfl
theorem tK(n:Nat)(hn:n≤128)(w:af):(Instr.makeSlice 45 (.int .i64 (n:Int)) (.int .i64 (n:Int))).run prog w= .ok (.slice (J (T w.heap.size 0 I)) n n) (w.alloc (.cells (bo n (fun _=>o D 0)) 3)):=by
 rw[gV (P:=prog) 45 3 (o D 0) 1 8 underlying45 xg rfl n (by omega) (by omega) w,Nat.mul_one,jF (f:=fun j=>(o D 0).cells[j % 1]!) (g:=fun _=>o D 0) (fun j _=>by
  show(o D 0).cells[j % 1]! =o D 0;rw[Nat.mod_one];rfl)]
theorem tL{w:af}{R:ab}{g n:Nat}(hn:n≤128)(h:Z w (aa g (bo n (fun _=>o D 0)) 3*R)):Z w (ao (.slice (J (T g 0 I)) n n) (List.replicate n 0)*R):=by
 unfold ao;rw[List.length_replicate];refine Has.rowOf (size:=1) h (by simp) (Nat.le_refl n) (by unfold maxLen;omega) (by rw[nT];omega) ?_;rw[Nat.mul_one];refine List.ext_getElem? fun j=> ?_;rw[List.getElem?_take];split
 ·rename_i hj
  have:=jE (f:=fun _=>o D 0) hj;rw[Array.getElem?_toList,this];simp[hj]
 ·rename_i hj
  simp[hj]
theorem tM(cores n:Int)(hc:cores<1∨4<cores∨n<1∨128<n)(w:af):
  bA prog 35 #[o D cores,o D n] w (Pure (.tuple #[.pointer I,.agg #[o D 1,o D (-1)]]) w):=by
 have h0:=(aT w).new #[o D 0,o D 0] 27;have x0:=(Ext.refl w).alloc (.cells #[o D 0,o D 0] 27);have HN:=S (fun w=>wI cores n hc w);go_enter func35,ntmps35;go_wp2_with fail
 refine(HN.out _).mono ?_;rintro e w2 ⟨rfl,b2⟩;have h2:Z _ (aa w.heap.size #[o D 0,o D 0] 27*(aa w2.heap.size #[o D 1,o D (-1)] 27*bE w w.heap.size)):=((h0.below b2).new #[o D 1,o D (-1)] 27).eq (by ac_rfl);have x2:=(x0.below b2).alloc (.cells #[o D 1,o D (-1)] 27);clear h0 x0 b2 HN;go_upto_region 2 with fail;generalize w2.alloc _=w3 at*
 generalize w2.heap.size=Y at*
 obtain⟨c0,c1⟩:=h2.cells2;obtain⟨f0,f1⟩:=h2.frees2;have cl:=h2.lt;obtain⟨d0,d1⟩:=h2.right.cells2;have dl:=h2.right.lt;have h3:=h2.set2 (o D 1) (o D (-1));go_upto_region 3 with fail;go_region
 all_goals
  go_wp2_with fail
  refine am (fun wz=>Z wz (aa w.heap.size #[o D 1,o D (-1)] 27*(aa Y #[o D 1,o D (-1)] 27*bE w w.heap.size))∧bL w wz) ⟨by first|(with_reducible exact h3.drew)|(with_reducible exact h3),ah⟩ ?_;rintro wz ⟨hz,xz⟩;exact b0 (eo results35 rfl rfl (dx hz)) rfl ⟨rfl,ar hz.right.right xz⟩
theorem qu{w:af}{X:Nat}{va:Array bG}{ta:TypeId}{R:ab}(b g h bk:Nat){sp K:Nat}(hK:K≤4)(hh:Z w (aa X va ta*(aa b #[.pointer (J (T sp 0 I)),.slice (J (T h 0 I)) 1 1,o D 0,.slice (J (T g 0 I)) K K,o D 0,o D 0,o D 0] 82*(aa g (bo K (fun _=>o D 0)) 3*(aa h #[.pointer (J (T bk 0 I))] 150*(bp bk []*R)))))):
  Z w (aa X va ta*(aC b sp [[]] 0 (List.replicate K 0)*R)):=by
 have h1:Z w (aa g (bo K (fun _=>o D 0)) 3*(aa X va ta*(aa b #[.pointer (J (T sp 0 I)),.slice (J (T h 0 I)) 1 1,o D 0,.slice (J (T g 0 I)) K K,o D 0,o D 0,o D 0] 82*(aa h #[.pointer (J (T bk 0 I))] 150*(bp bk []*R))))):=hh.eq (by ac_rfl);have h2:=tL (by omega) h1;have h3:Z w (aa h #[.pointer (J (T bk 0 I))] 150*(ao (.slice (J (T g 0 I)) K K) (List.replicate K 0)*(aa X va ta*(aa b #[.pointer (J (T sp 0 I)),.slice (J (T h 0 I)) 1 1,o D 0,.slice (J (T g 0 I)) K K,o D 0,o D 0,o D 0] 82*(bp bk []*R))))):=h2.eq (by ac_rfl);have h4:Z w (dA (.slice (J (T h 0 I)) 1 1) [bk]*(ao (.slice (J (T g 0 I)) K K) (List.replicate K 0)*(aa X va ta*(aa b #[.pointer (J (T sp 0 I)),.slice (J (T h 0 I)) 1 1,o D 0,.slice (J (T g 0 I)) K K,o D 0,o D 0,o D 0] 82*(bp bk []*R))))):=
  Has.rowOf (e:=150) (size:=1) h3 (by simp) (Nat.le_refl 1) (by unfold maxLen;omega) rfl rfl
 have h5:=eO (b:=b) (sp:=sp) (H:=[[]]) (f:=0) (since:=List.replicate K 0) (y:=⟨J (T h 0 I),1,[bk],J (T g 0 I),K,0⟩) (R:=aa X va ta*R) rfl (by
  unfold cQ;dsimp only;rw[List.length_replicate];show Z w (aa b _ _*(dA _ [bk]*(ao _ _*((bp bk []*eY True)*(aa X va ta*R)))));rw[show bp bk []*eY True=bp bk [] from by rw[cF];exact gp _];exact h4.eq (by ac_rfl))
 exact h5.p2
set_option maxHeartbeats 4000000 in
theorem vH(K n:Nat)(h1:1≤K)(h4:K≤4)(hn:1≤n)(hn2:n≤128)(R:ab)(w:af)(h:Z w R):
  bA prog 35 #[o D K,o D n] w fun e w'=>∃b sp,cR (.tuple #[.pointer (J (T b 0 I)),.agg #[o D 0,o D 0]]) (aC b sp [[]] 0 (List.replicate K 0)*(ak sp (bb K n)*R)) w e w':=by
 have h0:=h.new #[o D 0,o D 0] 27;have x0:=(Ext.refl w).alloc (.cells #[o D 0,o D 0] 27);have HN:=S (fun R w h=>AC K n (by omega) (by omega) (by omega) (by omega) R w h);have HBN:=S (fun R w h=>Ak R w h);have hmk:=fun w=>tK K (by omega) w;clear h;go_enter func35,ntmps35;go_wp2_with fail
 refine(HN.out _ _ h0).mono ?_;rintro e w2 ⟨sp,rfl,h2,x2⟩;have h3:Z _ (aa w.heap.size #[o D 0,o D 0] 27*(ak sp (bb K n)*(aa w2.heap.size #[o D 0,o D 0] 27*R))):=(h2.new #[o D 0,o D 0] 27).eq (by ac_rfl);have x3:=(x0.trans x2).alloc (.cells #[o D 0,o D 0] 27);clear h0 x0 h2 x2 HN;go_upto_region 2 with fail;generalize w2.alloc _=w3 at*
 generalize w.heap.size=X at*
 generalize w2.heap.size=Y at*
 obtain⟨c0,c1⟩:=h3.cells2;obtain⟨f0,f1⟩:=h3.frees2;have cl:=h3.lt;obtain⟨d0,d1⟩:=h3.right.right.cells2;have dl:=h3.right.right.lt;go_upto_region 4 with fail;go_cut [4] from 18 to 25 (fun s4 wx=>∃b,s4= .pointer (J (T b 0 I))∧Z wx (aa X #[o D 0,o D 0] 27*(aC b sp [[]] 0 (List.replicate K 0)*(ak sp (bb K n)*(aa Y #[o D 0,o D 0] 27*R))))∧bL w wx)
 case first=>
  have hd:=h3.drew;have xd:=x3.drew;have hm:=(h3.new (bo K (fun _=>o D 0)) 3).drew;have xm:=(x3.alloc (.cells (bo K (fun _=>o D 0)) 3)).drew;go_region_law (go_simp;go_at_call 81;first
   |((with_reducible refine(HBN.out _ _ hd).mono ?_);rintro e w8 ⟨bk,rfl,h8,x8⟩;have h9:Z w8 (aa X #[o D 0,o D 0] 27*(bp bk []*(ak sp (bb K n)*(aa Y #[o D 0,o D 0] 27*R)))):=h8.p2;have z1:=(((h9.set2 (o D 0) (o D 0)).new #[.pointer (J (T bk 0 I))] 150).new (bo K (fun _=>o D 0)) 3).new #[.pointer (J (T sp 0 I)),.slice (J (T w8.heap.size 0 I)) 1 1,o D 0,.slice (J ⟨(w8.heap.size+1),0,I⟩) K K,o D 0,o D 0,o D 0] 82;have z2:=h8.right;obtain⟨y0,y1⟩:=z2.cells2;obtain⟨g0,g1⟩:=z2.frees2;have yl:=z2.lt;have yl1:X<w8.heap.size+1:=(by omega);have yl2:X<w8.heap.size+1+1:=(by omega);have hz:Z _ (aa X #[o D 0,o D 0] 27*(aa (w8.heap.size+1+1) #[.pointer (J (T sp 0 I)),.slice (J (T w8.heap.size 0 I)) 1 1,o D 0,.slice (J ⟨(w8.heap.size+1),0,I⟩) K K,o D 0,o D 0,o D 0] 82*(aa (w8.heap.size+1) (bo K (fun _=>o D 0)) 3*(aa w8.heap.size #[.pointer (J (T bk 0 I))] 150*(bp bk []*(ak sp (bb K n)*(aa Y #[o D 0,o D 0] 27*R))))))):=z1.eq (by simp only[a6,World.size_setCell];ac_rfl);have z3:=(((h9.set2 (o D 0) (o D 0)).new (bo K (fun _=>o D 0)) 3).new #[.pointer (J (T bk 0 I))] 150).new #[.pointer (J (T sp 0 I)),.slice (J ⟨(w8.heap.size+1),0,I⟩) 1 1,o D 0,.slice (J (T w8.heap.size 0 I)) K K,o D 0,o D 0,o D 0] 82;have hy:Z _ (aa X #[o D 0,o D 0] 27*(aa (w8.heap.size+1+1) #[.pointer (J (T sp 0 I)),.slice (J ⟨(w8.heap.size+1),0,I⟩) 1 1,o D 0,.slice (J (T w8.heap.size 0 I)) K K,o D 0,o D 0,o D 0] 82*(aa w8.heap.size (bo K (fun _=>o D 0)) 3*(aa (w8.heap.size+1) #[.pointer (J (T bk 0 I))] 150*(bp bk []*(ak sp (bb K n)*(aa Y #[o D 0,o D 0] 27*R))))))):=z3.eq (by simp only[a6,World.size_setCell];ac_rfl);have xy:=(((((xd.trans x8).set (T X 0 I) (o D 0)).set (T X 1 I) (o D 0)).alloc (.cells (bo K (fun _=>o D 0)) 3)).alloc (.cells #[.pointer (J (T bk 0 I))] 150)).alloc (.cells #[.pointer (J (T sp 0 I)),.slice (J ⟨(w8.heap.size+1),0,I⟩) 1 1,o D 0,.slice (J (T w8.heap.size 0 I)) K K,o D 0,o D 0,o D 0] 82);have xz:=(((((xd.trans x8).set (T X 0 I) (o D 0)).set (T X 1 I) (o D 0)).alloc (.cells #[.pointer (J (T bk 0 I))] 150)).alloc (.cells (bo K (fun _=>o D 0)) 3)).alloc (.cells #[.pointer (J (T sp 0 I)),.slice (J (T w8.heap.size 0 I)) 1 1,o D 0,.slice (J ⟨(w8.heap.size+1),0,I⟩) K K,o D 0,o D 0,o D 0] 82))
   |((with_reducible refine(HBN.out _ _ hm).mono ?_);rintro e w8 ⟨bk,rfl,h8,x8⟩;have h9:Z w8 (aa X #[o D 0,o D 0] 27*(aa w3.heap.size (bo K (fun _=>o D 0)) 3*(bp bk []*(ak sp (bb K n)*(aa Y #[o D 0,o D 0] 27*R))))):=h8.eq (by ac_rfl);have z1:=(((h9.set2 (o D 0) (o D 0)).new #[.pointer (J (T bk 0 I))] 150).new #[.pointer (J (T sp 0 I)),.slice (J (T w8.heap.size 0 I)) 1 1,o D 0,.slice (J (T w3.heap.size 0 I)) K K,o D 0,o D 0,o D 0] 82);have z2:=h8.right.right;obtain⟨y0,y1⟩:=z2.cells2;obtain⟨g0,g1⟩:=z2.frees2;have yl:=z2.lt;have yl1:X<w8.heap.size+1:=(by omega);have yl2:X<w8.heap.size+1+1:=(by omega);have hz:Z _ (aa X #[o D 0,o D 0] 27*(aa (w8.heap.size+1) #[.pointer (J (T sp 0 I)),.slice (J (T w8.heap.size 0 I)) 1 1,o D 0,.slice (J (T w3.heap.size 0 I)) K K,o D 0,o D 0,o D 0] 82*(aa w3.heap.size (bo K (fun _=>o D 0)) 3*(aa w8.heap.size #[.pointer (J (T bk 0 I))] 150*(bp bk []*(ak sp (bb K n)*(aa Y #[o D 0,o D 0] 27*R))))))):=z1.eq (by simp only[a6,World.size_setCell];ac_rfl);have xz:=((((xm.trans x8).set (T X 0 I) (o D 0)).set (T X 1 I) (o D 0)).alloc (.cells #[.pointer (J (T bk 0 I))] 150)).alloc (.cells #[.pointer (J (T sp 0 I)),.slice (J (T w8.heap.size 0 I)) 1 1,o D 0,.slice (J (T w3.heap.size 0 I)) K K,o D 0,o D 0,o D 0] 82)))
  all_goals
   go_wp2_with fail
   go_meet
   case rel=>first|exact⟨_,rfl,qu _ _ _ _ (by omega) hz,xz⟩|exact⟨_,rfl,qu _ _ _ _ (by omega) hy,xy⟩
 case rest=>
  obtain⟨b,rfl,h5,x5⟩:=hcut;clear h3 x3 c0 c1 f0 f1 cl d0 d1 dl HBN hmk;go_wp2_with fail
  refine am (fun wz=>Z wz (aa X #[o D 0,o D 0] 27*(aC b sp [[]] 0 (List.replicate K 0)*(ak sp (bb K n)*(aa Y #[o D 0,o D 0] 27*R))))∧bL w wz) ⟨h5,ah⟩ ?_;rintro wz ⟨hz,xz⟩;exact b0 (eo results35 rfl rfl (dx hz)) rfl ⟨b,sp,rfl,(hz.right.eq (show _=aa Y #[o D 0,o D 0] 27*(aC b sp [[]] 0 (List.replicate K 0)*(ak sp (bb K n)*R)) by ac_rfl)).right,xz⟩
def yU:bG:= .agg #[o D 0,U N,o D 0,o D 0,o D 0,U N]
theorem pb:jD prog 36 yU 6 48:=⟨by kernel_rfl,rfl,by omega⟩
def Ev.cells(e:Ev):List bG:=[o D e.code,U e.fin,o D e.an.fin,o D e.an.frame,o D e.an.rights,U e.back]
theorem nh(e:Ev):e.cells.length=6:=rfl
def ni(l:List Ev):List bG:=fW Ev.cells l
theorem qv(l:List Ev)(e:Ev):ni (l++[e])=ni l++e.cells:=by unfold ni;rw[iH];simp[fW]
def dD(v:bG)(l:List Ev):ab:=ct 36 6 v l.length (ni l)
theorem sa(e:Ev):∀u∈e.cells,u.oneCell'=ad:=by
 intro u hu;simp[Ev.cells] at hu;rcases hu with rfl|rfl|rfl|rfl|rfl|rfl<;>rfl
theorem nj{w:af}{R:ab}{A:Option b9}{n c:Nat}{l:List Ev}(h:Z w (dD (.slice A n c) l*R)):n=l.length:=by
 rcases(Has.rowCases (e:=36) (size:=6) h) with ⟨hv,h0,_⟩|⟨g,cap,cur,hv,_⟩
 ·injection hv with a b
  omega
 ·injection hv
theorem rD{w:af}{R:ab}{A:Option b9}{n c:Nat}{l:List Ev}(h:Z w (dD (.slice A n c) l*R)):n≤9223372036854775807:=by
 obtain rfl:=nj h;exact(Has.rowLens (e:=36) (size:=6) h).2
theorem vJ{w:af}{R:ab}{A:Option b9}{n c:Nat}{l:List Ev}(h:Z w (dD (.slice A n c) l*R))(k:Nat)(hk:k≤l.length):Arr w A k 6 ((l.take k).map Ev.cells):=by
 obtain rfl:=nj h;have hsm:=rD h;refine⟨by simp;omega,by omega,fun i xs hi=> ?_⟩;have hik:i<k:=by
  have:=(bd.1 hi).1;simp at this;omega
 have hil:i<l.length:=by omega
 have hxs:xs=l[i].cells :=by
  rw[List.getElem?_map,List.getElem?_take,if_pos hik,ag hil] at hi;exact(Option.some.inj hi).symm
 subst hxs;have g:=fun t (ht:t<6)=>Has.rowGet (e:=36) (size:=6) h (i:=i*6+t) (u:=(l[i].cells[t]'(by rw[nh];exact ht))) (by
  have:=lc (cells:=Ev.cells) nh hil ht;rw[ag (l:=l[i].cells) (by rw[nh];exact ht)] at this;exact this)
 obtain⟨b,hb,hbl,_⟩:=g 0 (by omega);refine⟨b,0,hb,hbl,fun j u hj=> ?_⟩;have hj6:j<6:=by
  have:=(bd.1 hj).1;rwa [nh] at this
 obtain⟨b',hb',_,c',_⟩:=g j hj6;rw[hb] at hb';injection hb' with hb'
 injection hb' with hb'
 subst hb';rw[Nat.zero_add,c',←hj,ag (by rw[nh];exact hj6)]
theorem nk{w:af}{R:ab}{A:Option b9}{n c:Nat}{l:List Ev}(h:Z w (dD (.slice A n c) l*R)):Arr w A n 6 (l.map Ev.cells):=by
 obtain rfl:=nj h;have:=vJ h l.length (Nat.le_refl _);rwa [List.take_length] at this
theorem Arr.ev{w:af}{A:Option b9}{n:Nat}{l:List Ev}(h:Arr w A n 6 (l.map Ev.cells)){i:Nat}(hi:i<l.length):∃b off,A=J (T b off I)∧b<w.heap.size∧
  (w.cell? ⟨b,off+i*6,I⟩=J (o D l[i].code)∧w.cell? ⟨b,off+i*6+1,I⟩=J (U l[i].fin)∧w.cell? ⟨b,off+i*6+2,I⟩=J (o D l[i].an.fin)∧w.cell? ⟨b,off+i*6+3,I⟩=J (o D l[i].an.frame)∧
   w.cell? ⟨b,off+i*6+4,I⟩=J (o D l[i].an.rights)∧w.cell? ⟨b,off+i*6+5,I⟩=J (U l[i].back)):=by
 obtain⟨b,off,hb,hbl,hc⟩:=h.at_ (i:=i) (xs:=(l[i]).cells) (by simp[hi]);exact⟨b,off,hb,hbl,hc 0 _ rfl,hc 1 _ rfl,hc 2 _ rfl,hc 3 _ rfl,hc 4 _ rfl,hc 5 _ rfl⟩
theorem Arr.below{w w':af}{A:Option b9}{n size:Nat}{ls:List (List bG)}(h:Arr w A n size ls)(hb:Below w.heap.size w w'):Arr w' A n size ls:=
 ⟨h.1,h.2.1,fun i xs hi=>by
  obtain⟨b,off,ha,hl,hc⟩:=h.2.2 i xs hi;exact⟨b,off,ha,Nat.lt_of_lt_of_le hl hb.size,fun j u hu=>(hb.cell (p:=⟨b,off+i*size+j,I⟩) hl).trans (hc j u hu)⟩⟩
def cy(k:Int):bB:=⟨6,k,⟨0,0,0,0⟩,⟨0,0,N⟩⟩
theorem xh{σ:Sc}{k:Nat}(hk:k<σ.cs.length):σ.act (cy k)=σ.ack k:=by
 unfold cb cy;dsimp only;rw[if_neg (by omega),if_neg (by omega),if_neg (by omega),if_neg (by omega),if_neg (by omega),if_pos rfl];rfl
theorem vL{σ:Sc}{k i:Nat}(h:(σ.ack k).1.wait i=ad):σ.wait i=ad∧i≠k:=by
 unfold Sc.ack at h;by_cases hk:σ.wait k=N
 ·rw[if_pos hk] at h
  refine⟨h,fun e=> ?_⟩;subst e;rw[hk] at h;cases h
 ·rw[if_neg hk] at h
  have h2:cI σ.wait k i=ad:=by
   split at h
   ·exact h
   ·exact h
  by_cases hik:i=k
  ·subst hik
   rw[Safe.ack_off] at h2;cases h2
  ·rw[Safe.ack_ne _ hik] at h2
   exact⟨h2,hik⟩
namespace Safe
variable {σ:Sc} {P:List Mp}
theorem idle(h:bP σ P)(hw:∀i,i<σ.cs.length→σ.wait i=N):σ.busy=N:=by
 cases hb:σ.busy with
 |false=>rfl
 |true=>
  obtain⟨i,hi,hi2⟩:=h.busy hb;rw[hw i hi] at hi2;cases hi2
end Safe
def aY(k:Int):bB:=⟨5,k,⟨0,0,0,0⟩,⟨0,0,N⟩⟩
structure Idle (σ:Sc) (n K:Nat) (L:List Mp):Prop where
 safe:∃P,bP σ P
 n:σ.s.n=n
 len:σ.cs.length=K
 busy:σ.busy=N
 book:dn σ.s 0=L
 off:∀(j:Nat) (c:Cr),σ.cs[j]? =J c→c.k.on=N
def jv(K:Nat)(L:List Mp)(x:bB):Ev:=
 if x.core<0∨(K:Int)≤x.core then .no 1 else if aq x.a≠0 then .no (aq x.a) else⟨0,ad,qF (Bk.find L x.a.page) x.a,N⟩
structure Run (x:bB) (n K:Nat) (L:List Mp) (i:Nat) (σ:Sc):Prop where
 safe:∃P,bP σ P
 n:σ.s.n=n
 len:σ.cs.length=K
 busy:σ.busy=N
 book:dn σ.s 0=L
 core:0≤x.core∧x.core< (K:Int)
 chk:aq x.a=0
 way:OnWay σ.s 0 x.a i (σ.core x.core.toNat).k
 off:∀(j:Nat) (c:Cr),σ.cs[j]? =J c→j≠x.core.toNat→c.k.on=N
section
variable {σ:Sc} {n K:Nat} {L:List Mp} {x:bB}
theorem Idle.find(h:Idle σ n K L){q:Int}(hq:de q):Bk.find L q=bt σ.s 0 q:=by
 obtain⟨P,hs⟩:=h.safe;have:=hs.lk.same q hq;rw[h.book] at this;exact this
theorem Run.find{i:Nat}(h:Run x n K L i σ){q:Int}(hq:de q):Bk.find L q=bt σ.s 0 q:=by
 obtain⟨P,hs⟩:=h.safe;have:=hs.lk.same q hq;rw[h.book] at this;exact this
theorem Idle.begin(h:Idle σ n K L)(h4:x.kind=4):
  ((σ.act x).2=jv K L x∧Idle (σ.act x).1 n K L∧((jv K L x).code ≠0∨(jv K L x).fin =ad))∨((σ.act x).2= .no 0∧Run x n K L 0 (σ.act x).1):=by
 obtain⟨P,hs⟩:=h.safe;have hn:=hs.n_act x;unfold cb at hn⊢;rw[if_neg (by omega),if_neg (by omega)] at hn⊢;rw[h.len] at hn⊢;by_cases hc:x.core<0∨(K:Int)≤x.core
 ·left
  have hc':x.core<0∨(K:Int)≤x.core:=hc;have e:jv K L x= .no 1:=by unfold jv;rw[if_pos hc]
  rw[if_pos hc',e];exact⟨rfl,h,.inl (by show(1:Int)≠0;decide)⟩
 have hc':¬(x.core<0∨(K:Int)≤x.core):=hc;rw[if_neg hc',if_pos h4] at hn⊢;have hk:x.core.toNat<σ.cs.length:=by rw[h.len];omega
 have hsa:=hs.access hk x.a;have hi:=hs.core _ _ (Safe.at_core hk);have hoff:=h.off _ _ (Safe.at_core hk);have hlen:(σ.access x.core.toNat x.a).1.cs.length=K:=(cd _ _ _).trans h.len;have hput:∀k',(ce (σ.core x.core.toNat).l 0 (σ.core x.core.toNat).k x.a).c =k'→k'.on=N→∀(j:Nat) (c:Cr),(σ.access x.core.toNat x.a).1.cs[j]? =J c→c.k.on=N:=by
  intro k' e1 e2 j c hj;rcases Safe.set_core hj with ⟨_,rfl⟩|⟨_,hj⟩
  ·show(ce _ 0 _ _).c.on =N
   rw[e1];exact e2
  ·exact h.off j c hj
 by_cases hca:aq x.a≠0
 ·left
  have e:jv K L x= .no (aq x.a):=by unfold jv;rw[if_neg hc,if_pos hca]
  have eB:ce (σ.core x.core.toNat).l 0 (σ.core x.core.toNat).k x.a=⟨An.zero,N,aq x.a,(σ.core x.core.toNat).k⟩:=by unfold ce;rw[if_pos hca]
  rw[e];refine⟨?_,⟨⟨P,hsa⟩,h.n,hlen,h.busy,h.book,hput _ (by rw[eB]) hoff⟩,.inl hca⟩;show(⟨(ce _ 0 _ _).code,(ce _ 0 _ _).fin,(ce _ 0 _ _).an,N⟩:Ev)=_;rw[eB];rfl
 have hp:=dS (a:=x.a) (by omega);have e:jv K L x=⟨0,ad,qF (Bk.find L x.a.page) x.a,N⟩:=by unfold jv;rw[if_neg hc,if_neg hca]
 cases hh:ja (σ.core x.core.toNat).l x.a with
 |some r=>
  left;have eB:ce (σ.core x.core.toNat).l 0 (σ.core x.core.toNat).k x.a=⟨r,ad,0,(σ.core x.core.toNat).k⟩:=by
   unfold ce;rw[if_neg hca,if_neg (by rw[hoff];simp),hh]
  have er:r=qF (Bk.find L x.a.page) x.a:=by
   unfold ja at hh;cases hfi:Tl.find (σ.core x.core.toNat).l x.a.page with
   |none=>rw[hfi] at hh;cases hh
   |some y=>
    rw[hfi] at hh;dsimp only at hh;split at hh
    ·injection hh with hh
     have hmem:y∈(σ.core x.core.toNat).l :=List.mem_of_find?_eq_some hfi;have hov:over y.m x.a.page=ad:=by simpa using List.find?_some hfi
     have hkp:Kept σ.s 0 y:=by
      rcases hi.line y hmem with hl|hl
      ·exact hl
      ·rw[(hs.quiet h.busy).2] at hl;cases hl.1
     rw[h.find hp,Wf.overMap hs.wf hkp.inP hp hkp.map hov hs.wf];exact hh.symm
    ·cases hh
  rw[e];refine⟨?_,⟨⟨P,hsa⟩,h.n,hlen,h.busy,h.book,hput _ (by rw[eB]) hoff⟩,.inr rfl⟩;show(⟨(ce _ 0 _ _).code,(ce _ 0 _ _).fin,(ce _ 0 _ _).an,N⟩:Ev)=_;rw[eB,er]
 |none=>
  right;have eB:ce (σ.core x.core.toNat).l 0 (σ.core x.core.toNat).k x.a=⟨An.zero,N,0,(σ.core x.core.toNat).k.begin 0 x.a⟩:=by
   unfold ce;rw[if_neg hca,if_neg (by rw[hoff];simp),hh]
  refine⟨?_,⟨⟨P,hsa⟩,h.n,hlen,h.busy,h.book,by omega,by omega,?_,?_⟩⟩
  ·show(⟨(ce _ 0 _ _).code,(ce _ 0 _ _).fin,(ce _ 0 _ _).an,N⟩:Ev)=_
   rw[eB];rfl
  ·have ec:((σ.access x.core.toNat x.a).1.core x.core.toNat).k =(σ.core x.core.toNat).k.begin 0 x.a:=by
    show((σ.put x.core.toNat ⟨(σ.core x.core.toNat).l,(ce (σ.core x.core.toNat).l 0 (σ.core x.core.toNat).k x.a).c⟩).core x.core.toNat).k =_;rw[eB];unfold ca cc;dsimp only;rw[List.getD_eq_getElem?_getD,List.getElem?_set_self hk];rfl
   rw[ec];exact OnWay.start _ _ (by omega) rfl rfl rfl rfl rfl
  ·intro j c hj hne
   rcases Safe.set_core hj with ⟨rfl,_⟩|⟨_,hj⟩
   ·exact absurd rfl hne
   ·exact h.off j c hj
theorem Run.step{i:Nat}(h:Run x n K L i σ):
  i≤4∧(((σ.act (aY x.core)).2=jv K L x∧Idle (σ.act (aY x.core)).1 n K L∧(jv K L x).fin =ad)∨((σ.act (aY x.core)).2= .no 0∧Run x n K L (i+1) (σ.act (aY x.core)).1)):=by
 refine⟨h.way.few,?_⟩;obtain⟨P,hs⟩:=h.safe;have hc:=h.core;have hk:x.core.toNat<σ.cs.length:=by rw[h.len];omega
 have ea:σ.act (aY x.core)=σ.walk x.core.toNat:=by
  unfold cb aY;dsimp only;rw[if_neg (by omega),if_neg (by omega),if_neg (by omega),if_neg (by omega),if_pos rfl]
 rw[ea];have hw:=hs.walk hk;have hb:=hs.book_walk hk;have hon:=h.way.on;have hst:=hs.walk_stepIn hk hon;have hp:=dS h.chk;have hlen:(σ.walk x.core.toNat).1.cs.length=K:=(cd _ _ _).trans h.len;have hn:(σ.walk x.core.toNat).1.s.n=n:=hst.mark.n.trans h.n;have hoff:∀(j:Nat) (c:Cr),(σ.walk x.core.toNat).1.cs[j]? =J c→j≠x.core.toNat→c.k.on=N:=by
  intro j c hj hne;rcases Safe.set_core hj with ⟨rfl,_⟩|⟨_,hj⟩
  ·exact absurd rfl hne
  ·exact h.off j c hj hne
 have e:jv K L x=⟨0,ad,qF (Bk.find L x.a.page) x.a,N⟩:=by unfold jv;rw[if_neg (by omega),if_neg (by rw[h.chk];simp)]
 rcases hst.fin with hf|hf
 ·left
  rw[e];refine⟨?_,⟨⟨P,hw⟩,hn,hlen,h.busy,hb.trans h.book,fun j c hj=> ?_⟩,rfl⟩
  ·show(⟨(aL _ 0 _).code,(aL _ 0 _).r.fin,(aL _ 0 _).r.an,N⟩:Ev)=_
   rw[hst.code,hf.fin,hf.an,h.way.acc,h.find hp]
  ·by_cases hjk:j=x.core.toNat
   ·subst hjk
    rcases Safe.set_core hj with ⟨_,rfl⟩|⟨hne,_⟩
    ·show(aL _ 0 _).c.on =N
     rw[hf.off];rfl
    ·exact absurd rfl hne
   ·exact hoff j c hj hjk
 ·right
  refine⟨?_,⟨⟨P,hw⟩,hn,hlen,h.busy,hb.trans h.book,hc,h.chk,?_,hoff⟩⟩
  ·show(⟨(aL _ 0 _).code,(aL _ 0 _).r.fin,(aL _ 0 _).r.an,N⟩:Ev)=_
   rw[hst.code,hf.z];rfl
  ·have ec:((σ.walk x.core.toNat).1.core x.core.toNat).k =(aL σ.s 0 (σ.core x.core.toNat).k).c :=by
    unfold ca cg cc;dsimp only;rw[List.getD_eq_getElem?_getD,List.getElem?_set_self hk];rfl
   rw[ec];show OnWay (aL σ.s 0 (σ.core x.core.toNat).k).s 0 x.a (i+1) _;rcases h.way.step with ⟨h0,_⟩|⟨_,_,hss,how⟩|⟨_,_,_,_,_,hw0,_⟩
   ·exact absurd hst.code h0
   ·rw[hss];exact how
   ·rw[hf.on] at hw0;cases hw0
end
section
variable {σ τ:Sc} {n K:Nat} {L:List Mp}
end
def jw(s:Ms)(c:Ck):Nat:=if c.on=N then 0 else if c.mark=ad then(if c.word s=c.w then 1 else 7) else c.level.toNat+2
theorem vM{s:Ms}{c:Ck}(h:c.Ok):jw s c≤7:=by
 unfold jw;split;· omega
 rename_i hon;split
 ·split<;>omega
 ·have:=h.l3 (by simpa using hon)
  omega
theorem pd{s:Ms}{c:Ck}(h:c.on=ad):1≤jw s c:=by
 unfold jw;rw[if_neg (by rw[h];simp)];split
 ·split<;>omega
 ·omega
theorem pe{s:Ms}{c:Ck}(h:c.on=N):jw s c=0:=by unfold jw;rw[if_pos h]
theorem sb{s:Ms}{c:Ck}(h:c.Ok)(hon:c.on=ad)(hc:(aL s 0 c).code =0):jw (aL s 0 c).s (aL s 0 c).c <jw s c:=by
 have hp:=pd (s:=s) hon;unfold aL at hc⊢;rw[if_neg (by rw[hon];simp)] at hc⊢;split
 ·rename_i hx
  rw[if_pos hx] at hc;cases hc
 rename_i hx;rw[if_neg hx] at hc;split
 ·rename_i hm
  show jw s (c.again 0)<_;have e1:jw s c=7:=by unfold jw;rw[if_neg (by rw[hon];simp),if_pos hm.1,if_neg hm.2]
  have e2:jw s (c.again 0)=5:=by
   unfold Ck.again;rw[if_pos hon];unfold jw;dsimp only;rw[if_neg (by rw[hon];simp),if_neg (by simp)];rfl
  omega
 rename_i hm;rw[if_neg hm] at hc;split
 ·rename_i hd
  rw[if_pos hd] at hc;exact absurd hc hd
 rename_i hd;rw[if_neg hd] at hc;split
 ·show jw s c.idle<_
  rw[pe (by rfl)];omega
 rename_i ht;split
 ·rename_i hl
  have hmk:c.mark=N:=by
   cases hmk:c.mark with
   |false=>rfl
   |true=>
    have e:c.word s=c.w:=Decidable.byContradiction fun e=>hm ⟨hmk,e⟩;have:=(h.leaf hmk).2;rw[←e,hl] at this;cases this
  have h0:=h.l0 hon;have hd':br (c.word s) c.level=0:=by simpa using hd
  have hpos:0<c.level:=by
   refine Decidable.byContradiction fun hn=> ?_;have e0:c.level=0:=by omega
   rw[e0] at hd' ht hl;rcases eP hd' with hy|hy
   ·exact ht hy
   ·rw[hl] at hy;cases hy
  show jw s {c with t:=_,level:=c.level - 1}<_;unfold jw;dsimp only;rw[if_neg (by rw[hon];simp),if_neg (by rw[hmk];simp),if_neg (by rw[hon];simp),if_neg (by rw[hmk];simp)];omega
 split
 ·show jw s c.idle<_
  rw[pe (by rfl)];omega
 split
 ·show jw _ c.idle<_
  rw[pe (by rfl)];omega
 rename_i hmk;split
 ·show jw s c.idle<_
  rw[pe (by rfl)];omega
 ·show jw s {c with mark:=ad,w:=c.word s}<_
  have e1:jw s c=c.level.toNat+2:=by unfold jw;rw[if_neg (by rw[hon];simp),if_neg hmk]
  have e2:jw s {c with mark:=ad,w:=c.word s}=1:=by
   unfold jw;dsimp only;rw[if_neg (by rw[hon];simp),if_pos rfl,if_pos (by rfl)]
  omega
def dg:Nat→Nat→Sc→Sc×List Ev
 |0,_,σ=>(σ,[])
 |m+1,k,σ=>if σ.waits k=ad then((dg m (k+1) (σ.act (cy k)).1).1,(σ.act (cy k)).2::(dg m (k+1) (σ.act (cy k)).1).2) else dg m (k+1) σ
def d9:Nat→Nat→Sc→Sc×List Ev
 |0,_,σ=>(σ,[])
 |m+1,k,σ=>if σ.on k=ad then((d9 m k (σ.act (aY k)).1).1,(σ.act (aY k)).2::(d9 m k (σ.act (aY k)).1).2) else(σ,[])
def cE:Nat→Nat→Sc→Sc×List Ev
 |0,_,σ=>(σ,[])
 |m+1,k,σ=>((cE m (k+1) (d9 7 k σ).1).1,(d9 7 k σ).2++(cE m (k+1) (d9 7 k σ).1).2)
def gI(σ:Sc):Sc×List Ev:=((cE σ.cs.length 0 (dg σ.cs.length 0 σ).1).1,(dg σ.cs.length 0 σ).2++(cE σ.cs.length 0 (dg σ.cs.length 0 σ).1).2)
theorem nl{σ:Sc}{k:Nat}(hk:k<σ.cs.length):σ.on k=(σ.core k).k.on :=by
 unfold Sc.on;rw[decide_eq_true (by omega),decide_eq_true (by omega)];rfl
theorem nm{σ:Sc}{k:Nat}(hk:k<4):σ.waits k=σ.wait k:=by
 unfold Sc.waits iL;simp;omega
theorem qw{σ:Sc}{k:Nat}(hk:k<σ.cs.length):σ.act (aY k)=σ.walk k:=by
 unfold cb aY;dsimp only;rw[if_neg (by omega),if_neg (by omega),if_neg (by omega),if_neg (by omega),if_pos rfl];rfl
theorem oi{σ:Sc}{k:Nat}(hk:k<σ.cs.length):(σ.walk k).1.core k=⟨gQ (σ.core k).l (aL σ.s 0 (σ.core k).k).r,(aL σ.s 0 (σ.core k).k).c⟩:=by
 unfold ca cg cc;dsimp only;rw[List.getD_eq_getElem?_getD,List.getElem?_set_self hk];rfl
theorem rE{σ:Sc}{k j:Nat}(hj:j≠k):(σ.walk k).1.core j=σ.core j:=by
 unfold ca cg cc;dsimp only;rw[List.getD_eq_getElem?_getD,List.getElem?_set_ne (fun e=>hj e.symm),←List.getD_eq_getElem?_getD]
structure Keep (σ τ:Sc):Prop where
 safe:∀P,bP σ P→bP τ P
 n:τ.s.n=σ.s.n
 len:τ.cs.length=σ.cs.length
 book:∀P,bP σ P→dn τ.s 0=dn σ.s 0
theorem Keep.refl(σ:Sc):Keep σ σ:=⟨fun _ h=>h,rfl,rfl,fun _ _=>rfl⟩
theorem Keep.trans{a b c:Sc}(h:Keep a b)(k:Keep b c):Keep a c:=⟨fun P hs=>k.safe P (h.safe P hs),k.n.trans h.n,k.len.trans h.len,fun P hs=>(k.book P (h.safe P hs)).trans (h.book P hs)⟩
theorem Keep.act{σ:Sc}{P:List Mp}(hs:bP σ P)(x:bB)(hx:¬(1≤x.kind∧x.kind≤3)):Keep σ (σ.act x).1:=by
 refine⟨fun Q h=> ?_,(hs.n_act x).1,(hs.n_act x).2,fun Q h=> ?_⟩
 ·have:=h.act x
  rwa [Safe.prev_not hx] at this
 ·rw[h.book_act x,nJ hx]
theorem om{k:Nat}:¬(1≤(cy k).kind ∧(cy k).kind ≤3):=by unfold cy;dsimp only;omega
theorem kI{k:Nat}:¬(1≤(aY k).kind ∧(aY k).kind ≤3):=by unfold aY;dsimp only;omega
theorem np:∀(m k:Nat) (σ:Sc) (P:List Mp),bP σ P→k+m=σ.cs.length→(∀i,i<k→σ.wait i=N)→
  Keep σ (dg m k σ).1∧∀i,i<σ.cs.length→(dg m k σ).1.wait i=N
 |0,k,σ,P,hs,hk,hw=>⟨Keep.refl _,fun i hi=>hw i (by omega)⟩
 |m+1,k,σ,P,hs,hk,hw=>by
  have h4:=hs.ok.few;unfold dg;by_cases hq:σ.waits k=ad
  ·rw[if_pos hq]
   have hK:=Keep.act hs (cy k) om;obtain⟨r1,r2⟩:=np m (k+1) (σ.act (cy k)).1 P (hK.safe P hs) (by rw[hK.len];omega) (fun i hi=>by
    rw[xh (by omega)];cases hz:(σ.ack k).1.wait i with
    |false=>rfl
    |true=>
     obtain⟨a,b⟩:=vL hz;rw[hw i (by omega)] at a;cases a)
   exact⟨hK.trans r1,fun i hi=>r2 i (by rw[hK.len];exact hi)⟩
  ·rw[if_neg hq]
   have hwk:σ.wait k=N:=by
    rw[←nm (by omega)];simpa using hq
   exact np m (k+1) σ P hs (by omega) (fun i hi=>by
    by_cases hik:i=k
    ·rw[hik];exact hwk
    ·exact hw i (by omega))
theorem qx:∀(m k:Nat) (σ:Sc) (P:List Mp),bP σ P→k<σ.cs.length→jw σ.s (σ.core k).k ≤m→
  Keep σ (d9 m k σ).1∧((d9 m k σ).1.core k).k.on =N∧(∀j,j≠k→(d9 m k σ).1.core j=σ.core j)∧(d9 m k σ).1.busy=σ.busy∧(d9 m k σ).1.wait=σ.wait
 |0,k,σ,P,hs,hk,hm=>by
  refine⟨Keep.refl _,?_,fun _ _=>rfl,rfl,rfl⟩;show(σ.core k).k.on =N;cases hon:(σ.core k).k.on with
  |false=>rfl
  |true=>have:=pd (s:=σ.s) hon;omega
 |m+1,k,σ,P,hs,hk,hm=>by
  unfold d9;by_cases hq:σ.on k=ad
  ·rw[if_pos hq]
   have hon:(σ.core k).k.on =ad:=by rw[←nl hk];exact hq
   have hst:=hs.walk_stepIn hk hon;have hmu:=sb (bD hs.ok k).2 hon hst.code;have hK:=Keep.act hs (aY k) kI;have ea:=qw hk;rw[ea] at hK⊢;obtain⟨r1,r2,r3,r4,r5⟩:=qx m k (σ.walk k).1 P (hK.safe P hs) (by rw[hK.len];exact hk) (by
    rw[oi hk];show jw (aL σ.s 0 (σ.core k).k).s (aL σ.s 0 (σ.core k).k).c ≤m;omega)
   exact⟨hK.trans r1,r2,fun j hj=>(r3 j hj).trans (rE hj),r4,r5⟩
  ·rw[if_neg hq]
   refine⟨Keep.refl _,?_,fun _ _=>rfl,rfl,rfl⟩;rw[←nl hk];simpa using hq
theorem oo:∀(m k:Nat) (σ:Sc) (P:List Mp),bP σ P→k+m=σ.cs.length→(∀j,j<k→(σ.core j).k.on =N)→
  Keep σ (cE m k σ).1∧(∀j,j<σ.cs.length→((cE m k σ).1.core j).k.on =N)∧(cE m k σ).1.busy=σ.busy∧(cE m k σ).1.wait=σ.wait
 |0,k,σ,P,hs,hk,ho=>⟨Keep.refl _,fun j hj=>ho j (by omega),rfl,rfl⟩
 |m+1,k,σ,P,hs,hk,ho=>by
  have hkl:k<σ.cs.length:=by omega
  obtain⟨r1,r2,r3,r4,r5⟩:=qx 7 k σ P hs hkl (vM (bD hs.ok k).2);obtain⟨q1,q2,q3,q4⟩:=oo m (k+1) (d9 7 k σ).1 P (r1.safe P hs) (by rw[r1.len];omega) (fun j hj=>by
   by_cases hjk:j=k
   ·rw[hjk];exact r2
   ·rw[r3 j hjk];exact ho j (by omega))
  unfold cE;exact⟨r1.trans q1,fun j hj=>q2 j (by rw[r1.len];exact hj),q3.trans r4,q4.trans r5⟩
theorem tN{σ:Sc}{P:List Mp}(hs:bP σ P):Idle (gI σ).1 σ.s.n σ.cs.length (dn σ.s 0)∧(∀i,(gI σ).1.wait i=N)∧Keep σ (gI σ).1:=by
 obtain⟨a1,a2⟩:=np σ.cs.length 0 σ P hs (by omega) (fun i hi=>absurd hi (by omega));have hs1:=a1.safe P hs;obtain⟨b1,b2,b3,b4⟩:=oo σ.cs.length 0 (dg σ.cs.length 0 σ).1 P hs1 (by rw[a1.len];omega) (fun j hj=>absurd hj (by omega));have hb:(dg σ.cs.length 0 σ).1.busy=N:=hs1.idle fun i hi=>a2 i (by rw[a1.len] at hi;exact hi);have hk:=a1.trans b1;refine⟨⟨⟨P,hk.safe P hs⟩,hk.n,hk.len,b3.trans hb,hk.book P hs,fun j c hj=> ?_⟩,fun i=> ?_,hk⟩
 ·have hjl:j< (cE σ.cs.length 0 (dg σ.cs.length 0 σ).1).1.cs.length:=(bd.1 hj).1
  have:=Safe.at_core hjl;have e:J c=J ((cE σ.cs.length 0 (dg σ.cs.length 0 σ).1).1.core j):=hj.symm.trans this;injection e with e
  rw[e];exact b2 j (by rw[hk.len] at hjl;rw[a1.len];exact hjl)
 ·show(cE σ.cs.length 0 (dg σ.cs.length 0 σ).1).1.wait i=N
  rw[b4];exact(hs1.quiet hb).2 i
def ph(σ:Sc)(l:List bB):Sc:=l.foldl (fun σ x=>(σ.act x).1) σ
def fo:Sc→List bB→List Ev
 |_,[]=>[]
 |σ,x::l=>(σ.act x).2::fo (σ.act x).1 l
theorem nq:∀(l:List bB) (σ:Sc) (x:bB),fo σ (l++[x])=fo σ l++[((ph σ l).act x).2]
 | [],_,_=>rfl
 |y::l,σ,x=>by
  show(σ.act y).2::fo (σ.act y).1 (l++[x])=_;rw[nq l (σ.act y).1 x];rfl
theorem oq:∀(l:List bB) (σ:Sc),(fo σ l).length =l.length
 | [],_=>rfl
 |x::l,σ=>by
  show(fo (σ.act x).1 l).length +1=l.length+1;rw[oq l]
def jS(W:Wc)(l:List bB):Wc:=l.foldl (fun W x=>(W.act x).1) W
theorem qy(W:Wc)(l:List bB)(x:bB):jS W (l++[x])=((jS W l).act x).1:=by
 unfold jS;rw[List.foldl_append];rfl
theorem qz:∀(l:List bB) (W:Wc),(jS W l).σ=ph W.σ l
 | [],_=>rfl
 |x::l,W=>by
  show(jS (W.act x).1 l).σ=ph (W.σ.act x).1 l;rw[qz l];rfl
theorem ot{l:List bB}{i:Nat}(hi:i<l.length){x:bB}(hx:l[i]=x):l.take (i+1)=l.take i++[x]:=by
 rw[List.take_add_one,ag hi,hx];rfl
theorem ld(W:Wc)(x:bB)(h:¬(1≤x.kind∧x.kind≤3)):(W.act x).1.H=W.H:=Wc.hist_same h
theorem pi{m k:Nat}{σ:Sc}(h:σ.waits k=ad):dg (m+1) k σ=((dg m (k+1) (σ.act (cy k)).1).1,(σ.act (cy k)).2::(dg m (k+1) (σ.act (cy k)).1).2):=by
 conv=>lhs;unfold dg
 rw[if_pos h]
theorem nr{m k:Nat}{σ:Sc}(h:σ.waits k=N):dg (m+1) k σ=dg m (k+1) σ:=by
 conv=>lhs;unfold dg
 rw[if_neg (by rw[h];simp)]
theorem pj{m k:Nat}{σ:Sc}(h:σ.on k=ad):d9 (m+1) k σ=((d9 m k (σ.act (aY k)).1).1,(σ.act (aY k)).2::(d9 m k (σ.act (aY k)).1).2):=by
 conv=>lhs;unfold d9
 rw[if_pos h]
theorem ns{m k:Nat}{σ:Sc}(h:σ.on k=N):d9 m k σ=(σ,[]):=by
 cases m with
 |zero=>rfl
 |succ m=>
  conv=>lhs;unfold d9
  rw[if_neg (by rw[h];simp)]
theorem j6{w:af}{R:ab}{v:bG}{out:List Ev}{x:Ev}(h:Z w (ct 36 6 v (out.length+1) (ni out++x.cells)*R)):∃A c,v= .slice A (out++[x]).length c∧Z w (dD (.slice A (out++[x]).length c) (out++[x])*R):=by
 have hl:(out++[x]).length =out.length+1:=by simp
 have hf:∃A c,v= .slice A (out.length+1) c:=by
  rcases h.rowCases with ⟨hv,hn,_,_⟩|⟨g,cap,cur,hv,_⟩
  ·omega
  ·exact⟨_,_,hv⟩
 obtain⟨A,c,rfl⟩:=hf;refine⟨A,c,by rw[hl],?_⟩;unfold dD;rw[qv,hl];exact h
set_option maxHeartbeats 8000000 in
theorem AP(K n:Nat)(h1:1≤K)(h4:K≤4)(hn:1≤n)(hn2:n≤128)(B:Option b9)(m d:Nat)(L:List bB)(w:af)(h2:Arr w B m 9 (L.map Stp.cells))(hLo:∀x∈L,x.ok)(hm:m≤2000):
  bA prog 44 #[o D K,o D n,.slice B m d] w fun e w'=>∃A c,e= .returned (.tuple #[.slice A m c,.agg #[o D 0,o D 0]])∧Z w' (dD (.slice A m c) (fo (bb K n) L)*bE w w.heap.size)∧bL w w':=by
 have hB:=S h2;have hL:=S (show L.length=m by simpa using h2.1);have hLO:=S hLo;have h0:=(aT w).new #[o D 0,o D 0] 27;have x0:=(Ext.refl w).alloc (.cells #[o D 0,o D 0] 27);have HN:=S (fun R w h=>vH K n h1 h4 hn hn2 R w h);have HS0:bi ((Wc.new K n).Ok []):=S (Wc.Ok.new h1 h4 hn hn2);have hm':¬(2000:Int)<m:=by omega
 clear h2 hLo;go_enter func44,ntmps44;go_wp2_with fail
 refine(HN.out _ _ h0).mono ?_;rintro e w2 ⟨p,sp,rfl,h2,x2⟩;have h3:Z _ (aa w.heap.size #[o D 0,o D 0] 27*(aa w2.heap.size #[o D 0,o D 0] 27*(aC p sp [[]] 0 (List.replicate K 0)*(ak sp (bb K n)*bE w w.heap.size)))):=(h2.new #[o D 0,o D 0] 27).eq (by ac_rfl);have x3:=(x0.trans x2).alloc (.cells #[o D 0,o D 0] 27);clear h0 x0 h2 x2 HN;go_upto_region 2 with fail;generalize w2.alloc _=w3 at*
 generalize w2.heap.size=Y at*
 generalize hX:w.heap.size=X at*
 obtain⟨c0,c1⟩:=h3.cells2;have cl:=h3.lt;obtain⟨d0,d1⟩:=h3.right.cells2;have dl:=h3.right.lt;go_upto_region 6 with fail;have h4:Z w3 (dD (.slice I (fo (bb K n) (L.take 0)).length 0) (fo (bb K n) (L.take 0))*(aC p sp (Wc.new K n).H (Wc.new K n).f (Wc.new K n).since *(ak sp (Wc.new K n).σ*(aa X #[o D 0,o D 0] 27*(aa Y #[o D 0,o D 0] 27*bE w X))))):=Has.rowNil (e:=36) (size:=6) (h3.eq (show _=aC p sp [[]] 0 (List.replicate K 0)*(ak sp (bb K n)*(aa X #[o D 0,o D 0] 27*(aa Y #[o D 0,o D 0] 27*bE w X))) by ac_rfl));have HW0:bi (Wc.new K n=jS (Wc.new K n) (L.take 0)):=S rfl;have HL0:bi ((Wc.new K n).H.length ≤1+0):=S (Nat.le_refl _);clear h3 c0 c1 cl d0 d1 dl;go_wp2_with fail
 go_loopw [10,31] (fun t10 t31 wr=>∃(i:Nat) (A:Option b9) (c:Nat) (W:Wc) (P:List Mp),i≤m∧t31=o D i∧t10= .slice A (fo (bb K n) (L.take i)).length c∧bi (W.Ok P)∧bi (W=jS (Wc.new K n) (L.take i))∧bi (W.H.length≤1+i)∧
   Z wr (dD (.slice A (fo (bb K n) (L.take i)).length c) (fo (bb K n) (L.take i))*(aC p sp W.H W.f W.since*(ak sp W.σ*(aa X #[o D 0,o D 0] 27*(aa Y #[o D 0,o D 0] 27*bE w X)))))∧bL w wr) (fun _ t31 _=>m - (b8 t31).toNat)
 case atStart=>exact⟨0,I,0,Wc.new K n,[],by omega,rfl,rfl,HS0,HW0,HL0,h4,x3⟩
 case round=>
  clear h4 x3 HS0 HW0 HL0;obtain⟨i,A,c,W1,P1,hi,rfl,rfl,hS1,hW1,hL1,hr,hx⟩:=hrel;obtain⟨out,hout⟩:∃out,fo (bb K n) (L.take i)=out:=⟨_,rfl⟩;rw[hout] at hr⊢;have hol:out.length=i:=by rw[←hout,oq,List.length_take,hL.out];omega
  replace hout:=S hout;replace hol:=S hol;by_cases hlt:i<m
  ·have hil:i<L.length:=by have:=hL.out;omega
   obtain⟨b',off,hb,-⟩:=(hB.out.old1 (show Z wr (bE w w.heap.size) by rw[hX];exact hr.right.right.r3) hx).stp hil;subst hb;obtain⟨y,hy⟩:∃y,L[i]=y:=⟨_,rfl⟩;have hyo:y.ok:=by rw[←hy];exact hLO.out _ (List.getElem_mem hil)
   have HD:=S (fun(w':af) (h:Z w' (bE w X)) (e:bL w w')=>(hB.out.old1 (by rw[hX];exact h) e).stpAt hil hy);have hb1:W1.H.length≤999999:=by have:=hL1.out;omega
   have HW:bi (∀R w,Z w (aC p sp W1.H W1.f W1.since*(ak sp W1.σ*R))→bA prog 37 #[.pointer (J (T p 0 I)),.agg #[o D y.kind,o D y.core,o D y.m.page,o D y.m.size,o D y.m.frame,o D y.m.rights,o D y.a.page,o D y.a.kind,U y.a.user]] w
     (cR (.tuple #[(W1.act y).2.val,.agg #[o D 0,o D 0]]) (aC p sp (W1.act y).1.H (W1.act y).1.f (W1.act y).1.since*(ak sp (W1.act y).1.σ*R)) w)):=S (fun R w h=>zU p sp W1 P1 y hS1.out hyo hb1 R w h)
   have HS2:bi ((W1.act y).1.Ok (Safe.prevOf W1.σ P1 y)):=S (hS1.out.act y);have HL2:bi ((W1.act y).1.H.length≤1+(i+1)):=S (by have:=Wc.hist_len W1 y;have:=hL1.out;omega);have HW2:bi ((W1.act y).1=jS (Wc.new K n) (L.take (i+1))):=S (by rw[ot hil hy,qy,←hW1.out]);have HT2:bi (fo (bb K n) (L.take (i+1))=out++[(W1.act y).2]):=S (by
    rw[ot hil hy,nq,hout.out];show out++[((ph (Wc.new K n).σ (L.take i)).act y).2]=_;rw[←qz,←hW1.out];rfl)
   unfold Ev.val at HW;clear hS1 hyo hb1 hL1 hW1 hy hout;generalize W1.act y=z at*
   generalize Safe.prevOf W1.σ P1 y=P2 at*
   obtain⟨W2,⟨ec,ef,⟨ea,eb,er⟩,ek⟩⟩:=z;obtain⟨yk,yc,ym,ya⟩:=y;dsimp only at*
   have hlt':(i:Int)<m:=by omega
   have hi0:(0:Int)≤i:=by omega
   obtain⟨dl,d0,d1,d2,d3,d4,d5,d6,d7,d8⟩:=HD.out _ hr.right.right.r3 hx;have h5:Z _ (aC p sp W1.H W1.f W1.since*(ak sp W1.σ*(aa wr.heap.size #[o D yk,o D yc,o D ym.page,o D ym.size,o D ym.frame,o D ym.rights,o D ya.page,o D ya.kind,U ya.user] 43*(dD (.slice A out.length c) out*(aa X #[o D 0,o D 0] 27*(aa Y #[o D 0,o D 0] 27*bE w X)))))):=(hr.new #[o D yk,o D yc,o D ym.page,o D ym.size,o D ym.frame,o D ym.rights,o D ya.page,o D ya.kind,U ya.user] 43).eq (by ac_rfl);have x5:=hx.alloc (.cells #[o D yk,o D yc,o D ym.page,o D ym.size,o D ym.frame,o D ym.rights,o D ya.page,o D ya.kind,U ya.user] 43);clear hr hx;go_upto_region 10 with fail;generalize wr.alloc _=w4 at*
   generalize wr.heap.size=S0 at*
   clear dl d0 d1 d2 d3 d4 d5 d6 d7 d8;obtain⟨d0,d1,d2,d3,d4,d5,d6,d7,d8⟩:=h5.right.right.cells9;have dl:=h5.right.right.lt;go_wp2_with fail
   refine(HW.out _ _ h5).mono ?_;rintro e w5 ⟨rfl,h6,x6⟩;have h7:Z _ (dD (.slice A out.length c) out*(aa w5.heap.size #[o D ec,U ef,o D ea,o D eb,o D er,U ek] 36*(aa (w5.heap.size+1) #[o D 0,o D 0] 27*(aC p sp W2.H W2.f W2.since*(ak sp W2.σ*(aa S0 #[o D yk,o D yc,o D ym.page,o D ym.size,o D ym.frame,o D ym.rights,o D ya.page,o D ya.kind,U ya.user] 43*(aa X #[o D 0,o D 0] 27*(aa Y #[o D 0,o D 0] 27*bE w X)))))))):=((h6.new #[o D ec,U ef,o D ea,o D eb,o D er,U ek] 36).new #[o D 0,o D 0] 27).eq (by simp only[a6]<;>ac_rfl);have x7:=((x5.trans x6).alloc (.cells #[o D ec,U ef,o D ea,o D eb,o D er,U ek] 36)).alloc (.cells #[o D 0,o D 0] 27);clear h5 x5 h6 x6 HW dl d0 d1 d2 d3 d4 d5 d6 d7 d8 HD;go_upto_region 11 with fail;generalize (w5.alloc (.cells #[o D ec,U ef,o D ea,o D eb,o D er,U ek] 36)).alloc (.cells #[o D 0,o D 0] 27)=w6 at*
   generalize w5.heap.size+1=FX at*
   generalize w5.heap.size=EX at*
   obtain⟨e0,e1,e2,e3,e4,e5⟩:=h7.right.cells6;have el:=h7.right.lt;have f0:=h7.right.right.cell 0;have fl:=h7.right.right.lt;go_upto_region 13 with fail;clear f0 fl;go_wp2_with(at_builtin;refine aV rfl _ _ 95 rfl underlying95 pb _ _ _ rfl (h7.alloc (.cells #[o D ec,U ef,o D ea,o D eb,o D er,U ek] 36)) (T w6.heap.size 0 I) 1 1 (⟨ec,ef,⟨ea,eb,er⟩,ek⟩:Ev).cells rfl rfl (eC w6 (⟨ec,ef,⟨ea,eb,er⟩,ek⟩:Ev).cells 36) (sa ⟨ec,ef,⟨ea,eb,er⟩,ek⟩) ?_ ?_ ?_)
   rotate_left;rotate_left
   ·intro v3 w7 h8 x8
    obtain⟨A3,c3,rfl,h9⟩:=j6 h8;have h10:Z w7 (dD (.slice A3 (out++[(⟨ec,ef,⟨ea,eb,er⟩,ek⟩:Ev)]).length c3) (out++[(⟨ec,ef,⟨ea,eb,er⟩,ek⟩:Ev)])*(aC p sp W2.H W2.f W2.since*(ak sp W2.σ*(aa X #[o D 0,o D 0] 27*(aa Y #[o D 0,o D 0] 27*bE w X))))):=(h9.eq (show _=aa EX #[o D ec,U ef,o D ea,o D eb,o D er,U ek] 36*(aa FX #[o D 0,o D 0] 27*(aa S0 #[o D yk,o D yc,o D ym.page,o D ym.size,o D ym.frame,o D ym.rights,o D ya.page,o D ya.kind,U ya.user] 43*(dD (.slice A3 (out++[(⟨ec,ef,⟨ea,eb,er⟩,ek⟩:Ev)]).length c3) (out++[(⟨ec,ef,⟨ea,eb,er⟩,ek⟩:Ev)])*(aC p sp W2.H W2.f W2.since*(ak sp W2.σ*(aa X #[o D 0,o D 0] 27*(aa Y #[o D 0,o D 0] 27*bE w X))))))) by ac_rfl)).r3;have x10:=(x7.alloc (.cells #[o D ec,U ef,o D ea,o D eb,o D er,U ek] 36)).trans x8;clear h7 x7 h8 x8 h9 e0 e1 e2 e3 e4 e5 el;go_wp2_with fail
    go_roundw
    case rel=>exact⟨i+1,A3,c3,W2,P2,by omega,by go_num,by rw[HT2.out],HS2,HW2,HL2,by rw[HT2.out];exact h10,x10⟩
    case measure=>simp[b8];omega
   ·have:=hol.out;unfold maxLen;omega
   ·have:=hol.out;omega
  ·obtain rfl:i=m:=by omega
   have he:out=fo (bb K n) L:=by rw[←hout.out,List.take_of_length_le (by rw[hL.out];exact Nat.le_refl _)]
   rw[hol.out] at hr⊢;rw[he] at hr;have h5:Z wr (aa X #[o D 0,o D 0] 27*(dD (.slice A i c) (fo (bb K n) L)*(aC p sp W1.H W1.f W1.since*(ak sp W1.σ*(aa Y #[o D 0,o D 0] 27*bE w X))))):=hr.eq (by ac_rfl);obtain⟨c0,c1⟩:=h5.cells2;obtain⟨f0,f1⟩:=h5.frees2;have cl:=h5.lt;have hF:=S (fun(w':af) (h:Z w' (aa X #[o D 0,o D 0] 27*(dD (.slice A i c) (fo (bb K n) L)*(aC p sp W1.H W1.f W1.since*(ak sp W1.σ*(aa Y #[o D 0,o D 0] 27*bE w X))))))=>(by
    rw[hX];exact(h.eq (show _=aa X #[o D 0,o D 0] 27*(aC p sp W1.H W1.f W1.since*(ak sp W1.σ*(aa Y #[o D 0,o D 0] 27*(dD (.slice A i c) (fo (bb K n) L)*bE w X)))) by ac_rfl)).r4 :Z w' (dD (.slice A i c) (fo (bb K n) L)*bE w w.heap.size)))
   clear hr hS1 hW1 hL1 he hout hol hi hX hm hm';go_wp2_with fail
   refine am (fun wz=>Z wz (aa X #[o D 0,o D 0] 27*(dD (.slice A i c) (fo (bb K n) L)*(aC p sp W1.H W1.f W1.since*(ak sp W1.σ*(aa Y #[o D 0,o D 0] 27*bE w X)))))∧bL w wz) ⟨by first|(with_reducible exact h5)|(with_reducible exact h5.set2 _ _),ah⟩ ?_;rintro wz ⟨hz,xz⟩;exact b0 (eo results44 rfl rfl (dx hz)) rfl ⟨A,c,rfl,hF.out _ hz,xz⟩
theorem nu(l:List Ev)(A B:Option b9)(n c c':Nat)(w:af)(ha:Arr w A n 6 (l.map Ev.cells))(hb:Arr w B n 6 (l.map Ev.cells)):
  bA prog 45 #[.slice A n c,.slice B n c'] w (Pure (U ad) w):=by
 have hn:=S (show l.length=n by simpa using ha.1);have hsm:=ha.2.1;have HA:=S ha;have HB:=S hb;clear ha hb;go_enter func45,ntmps45;go_wp2_with fail
 go_loopw [5] (fun s5 wr=>∃i:Nat,i≤n∧s5=o D i∧Below w.heap.size w wr) (fun s5 _=>n - (b8 s5).toNat)
 case atStart=>exact⟨0,Nat.zero_le _,rfl,Below.refl _ _⟩
 case round=>
  obtain⟨i,hi,rfl,BW⟩:=hrel;by_cases hlt:i<n
  ·have hil:i<l.length:=by rw[hn.out];exact hlt
   obtain⟨a,oa,hA,la,c0,c1,c2,c3,c4,c5⟩:=(HA.out.below BW).ev hil;obtain⟨b,ob,hB,lb,d0,d1,d2,d3,d4,d5⟩:=(HB.out.below BW).ev hil;subst hA;subst hB;have BW':=S BW;clear BW;generalize l[i]=x at c0 c1 c2 c3 c4 c5 d0 d1 d2 d3 d4 d5;have v0:=ae c0;have v1:=ae c1;have v2:=ae c2;have v3:=ae c3;have v4:=ae c4;have v5:=ae c5;have u0:=ae d0;have u1:=ae d1;have u2:=ae d2;have u3:=ae d3;have u4:=ae d4;have u5:=ae d5;clear c0 c1 c2 c3 c4 c5 d0 d1 d2 d3 d4 d5;have hlt':(i:Int)<n:=by omega
   go_wp2_with fail
   refine au (by kernel_rfl) (by kernel_rfl) ?_;repeat(first|go_big_quiet_step (fail)|quiet_step (fail))
   refine wpQuiet_nil ?_;intro _ hw';obtain⟨uq,hw''⟩:=hw';subst hw'';go_wp2_with fail
   go_roundw
   case rel=>exact⟨i+1,by omega,by go_num,BW'.out.trans ((aE _ _).mono BW'.out.size)⟩
   case measure=>simp[b8];omega
  ·go_wp2_with fail
   go_ret;exact⟨rfl,BW⟩
def Ah:bB:=⟨1,0,⟨5,0,9,0⟩,⟨0,0,N⟩⟩
def Ai:bB:=⟨4,0,⟨0,0,0,0⟩,⟨5,0,N⟩⟩
def Aj:bB:=⟨5,1,⟨0,0,0,0⟩,⟨0,0,N⟩⟩
theorem zV{x:bB}(h:x∈[Ah,Ai,Aj]):x.ok:=by
 simp at h;rcases h with rfl|rfl|rfl<;>(unfold Stp.ok Mp.ok Ac.ok cW;decide)
theorem xi:fo (bb 1 4) [Ah,Ai,Aj]=[⟨0,N,⟨0,0,0⟩,ad⟩,⟨0,N,⟨0,0,0⟩,N⟩,⟨1,N,⟨0,0,0⟩,N⟩]:=by kernel_rfl
theorem yV{w:af}{R:ab}{b:Nat}(h:Z w (aa b #[o D 1,o D 0,o D 5,o D 0,o D 9,o D 0,o D 0,o D 0,U N,o D 4,o D 0,o D 0,o D 0,o D 0,o D 0,o D 5,o D 0,U N,o D 5,o D 1,o D 0,o D 0,o D 0,o D 0,o D 0,o D 0,U N] 43*R)):Arr w (J (T b 0 I)) 3 9 ([Ah,Ai,Aj].map Stp.cells):=by
 refine⟨rfl,by omega,fun i xs hi=>⟨b,0,rfl,h.lt,fun j u hj=> ?_⟩⟩;rw[h.cell];have hi3:i<3:=(bd.1 hi).1;rcases(show i=0∨i=1∨i=2 by omega) with rfl|rfl|rfl<;>
  (injection hi with hi
   subst hi;have hj9:j<9:=(bd.1 hj).1;rcases(show j=0∨j=1∨j=2∨j=3∨j=4∨j=5∨j=6∨j=7∨j=8 by omega) with rfl|rfl|rfl|rfl|rfl|rfl|rfl|rfl|rfl<;>exact hj)
theorem nv(w:af):bA prog 43 #[] w (Pure (U ad) w):=by
 have h0:=(aT w).new #[o D 1,o D 0,o D 5,o D 0,o D 9,o D 0,o D 0,o D 0,U N,o D 4,o D 0,o D 0,o D 0,o D 0,o D 0,o D 5,o D 0,U N,o D 5,o D 1,o D 0,o D 0,o D 0,o D 0,o D 0,o D 0,U N] 43;have x0:=(Ext.refl w).alloc (.cells #[o D 1,o D 0,o D 5,o D 0,o D 9,o D 0,o D 0,o D 0,U N,o D 4,o D 0,o D 0,o D 0,o D 0,o D 0,o D 5,o D 0,U N,o D 5,o D 1,o D 0,o D 0,o D 0,o D 0,o D 0,o D 0,U N] 43);have HR:=S (fun d=>AP 1 4 (by omega) (by omega) (by omega) (by omega) (J (T w.heap.size 0 I)) 3 d [Ah,Ai,Aj] _ (yV h0) (fun x hx=>zV hx) (by omega));rw[xi] at HR;go_enter func43,ntmps43;go_wp2_with fail
 refine(HR.out _).mono ?_;rintro e w2 ⟨A,c,rfl,h2,x2⟩;have h3:=(h0.onto' h2).new #[o D 0,o D 0] 27;have x3:=(x0.trans x2).alloc (.cells #[o D 0,o D 0] 27);have HE:=nk h3.right;obtain⟨a,oa,hA,la,c0,c1,c2,c3,c4,c5⟩:=HE.ev (i:=0) (by decide);obtain⟨a1,oa1,hA1,-,d0,d1,d2,d3,d4,d5⟩:=HE.ev (i:=1) (by decide);obtain⟨a2,oa2,hA2,-,e0,e1,e2,e3,e4,e5⟩:=HE.ev (i:=2) (by decide);subst hA;injection hA1 with hA1
 injection hA1 with hA1 hO1
 subst hA1;subst hO1;injection hA2 with hA2
 injection hA2 with hA2 hO2
 subst hA2;subst hO2;simp at c0 c1 c2 c3 c4 c5 d0 d1 d2 d3 d4 d5 e0 e1 e2 e3 e4 e5;have f0:=h3.cell 0;have fl:=h3.lt;have hE:=h3.r3;clear h0 x0 HR h2 x2 HE h3;go_wp2_with fail
 go_ret;exact⟨by first|rfl|simp,ar hE x3⟩
def fX(O:Nat)(l:List Ev):ab:=ex fun A=>ex fun c=>aa O #[.slice A l.length c] 95*dD (.slice A l.length c) l
theorem nx{O:Nat}{l:List Ev}{R:ab}{w:af}(h:Z w (fX O l*R)):∃A c,Z w (aa O #[.slice A l.length c] 95*(dD (.slice A l.length c) l*R)):=by
 unfold fX at h;obtain⟨A,h⟩:=aF.1 h;obtain⟨c,h⟩:=aF.1 h;exact⟨A,c,h.a1⟩
theorem ny{O c:Nat}{A:Option b9}{l:List Ev}{R:ab}{w:af}(h:Z w (aa O #[.slice A l.length c] 95*(dD (.slice A l.length c) l*R))):Z w (fX O l*R):=by
 unfold fX;exact aF.2 ⟨A,aF.2 ⟨c,h.a2⟩⟩
set_option maxHeartbeats 8000000 in
theorem xO(p sp X1 O:Nat)(W:Wc)(P:List Mp)(x:bB)(hW:W.Ok P)(hx:x.ok)(hH:W.H.length≤999999)(out:List Ev)(hol:out.length≤1000)(R:ab)(w:af)
  (h:Z w (aC p sp W.H W.f W.since*(ak sp W.σ*(aa X1 #[.pointer (J (T p 0 I))] 75*(fX O out*R))))):
  bA prog 93 #[.agg #[o D x.kind,o D x.core,o D x.m.page,o D x.m.size,o D x.m.frame,o D x.m.rights,o D x.a.page,o D x.a.kind,U x.a.user],.pointer (J (T X1 0 I)),.pointer (J (T O 0 I))] w
   (cR (.tuple #[(W.act x).2.val,.agg #[o D 0,o D 0]]) (aC p sp (W.act x).1.H (W.act x).1.f (W.act x).1.since*(ak sp (W.act x).1.σ*(aa X1 #[.pointer (J (T p 0 I))] 75*(fX O (out++[(W.act x).2])*R)))) w):=by
 have HD:=S (fun R w h=>zU p sp W P x hW hx hH R w h);obtain⟨A,c,h1⟩:=nx (h.eq (show _=fX O out*(aC p sp W.H W.f W.since*(ak sp W.σ*(aa X1 #[.pointer (J (T p 0 I))] 75*R))) by ac_rfl));unfold Ev.val at HD⊢;clear hW hx hH h;obtain⟨σ1,H1,f1,S1⟩:=W;generalize hz:Wc.act ⟨σ1,H1,f1,S1⟩ x=z at*
 obtain⟨W2,⟨ec,ef,⟨ea,eb,er⟩,ek⟩⟩:=z;obtain⟨yk,yc,ym,ya⟩:=x;dsimp only at*
 clear hz;obtain⟨out2,ho2⟩:∃z,out++[(⟨ec,ef,⟨ea,eb,er⟩,ek⟩:Ev)]=z:=⟨_,rfl⟩;rw[ho2];replace ho2:=S ho2;have h2:Z _ (aC p sp H1 f1 S1*(ak sp σ1*(aa (w.heap.size+1) #[o D 0,U N,o D 0,o D 0,o D 0,U N] 36*(aa (w.heap.size+1+1) #[o D 0,o D 0] 27*(aa X1 #[.pointer (J (T p 0 I))] 75*(aa w.heap.size #[o D yk,o D yc,o D ym.page,o D ym.size,o D ym.frame,o D ym.rights,o D ya.page,o D ya.kind,U ya.user] 43*(aa O #[.slice A out.length c] 95*(dD (.slice A out.length c) out*R)))))))):=
  (((h1.new #[o D yk,o D yc,o D ym.page,o D ym.size,o D ym.frame,o D ym.rights,o D ya.page,o D ya.kind,U ya.user] 43).new #[o D 0,U N,o D 0,o D 0,o D 0,U N] 36).new #[o D 0,o D 0] 27).eq (by simp only[a6]<;>ac_rfl)
 have x2:=(((Ext.refl w).alloc (.cells #[o D yk,o D yc,o D ym.page,o D ym.size,o D ym.frame,o D ym.rights,o D ya.page,o D ya.kind,U ya.user] 43)).alloc (.cells #[o D 0,U N,o D 0,o D 0,o D 0,U N] 36)).alloc (.cells #[o D 0,o D 0] 27);clear h1;go_enter func93,ntmps93;go_upto_region 1 with fail;generalize ((w.alloc (.cells #[o D yk,o D yc,o D ym.page,o D ym.size,o D ym.frame,o D ym.rights,o D ya.page,o D ya.kind,U ya.user] 43)).alloc (.cells #[o D 0,U N,o D 0,o D 0,o D 0,U N] 36)).alloc (.cells #[o D 0,o D 0] 27)=w1 at*
 generalize w.heap.size+1+1=F at*
 generalize w.heap.size+1=E at*
 generalize w.heap.size=S0 at*
 have g0:=h2.right.r3.cell 0;have gl:=h2.right.r3.lt;obtain⟨d0,d1,d2,d3,d4,d5,d6,d7,d8⟩:=h2.right.right.r3.cells9;have dl:=h2.right.right.r3.lt;go_wp2_with fail
 refine(HD.out _ _ h2).mono ?_;rintro e w5 ⟨rfl,h5,x5⟩;have h6:Z _ (dD (.slice A out.length c) out*(aa O #[.slice A out.length c] 95*(aa w5.heap.size #[o D ec,U ef,o D ea,o D eb,o D er,U ek] 36*(aa (w5.heap.size+1) #[o D 0,o D 0] 27*(aa E #[o D 0,U N,o D 0,o D 0,o D 0,U N] 36*(aa F #[o D 0,o D 0] 27*(aC p sp W2.H W2.f W2.since*(ak sp W2.σ*(aa X1 #[.pointer (J (T p 0 I))] 75*(aa S0 #[o D yk,o D yc,o D ym.page,o D ym.size,o D ym.frame,o D ym.rights,o D ya.page,o D ya.kind,U ya.user] 43*R)))))))))):=
  ((h5.new #[o D ec,U ef,o D ea,o D eb,o D er,U ek] 36).new #[o D 0,o D 0] 27).eq (by simp only[a6]<;>ac_rfl)
 have x6:=((x2.trans x5).alloc (.cells #[o D ec,U ef,o D ea,o D eb,o D er,U ek] 36)).alloc (.cells #[o D 0,o D 0] 27);clear h2 x2 h5 x5 HD g0 gl d0 d1 d2 d3 d4 d5 d6 d7 d8 dl;go_upto_region 2 with fail;generalize (w5.alloc (.cells #[o D ec,U ef,o D ea,o D eb,o D er,U ek] 36)).alloc (.cells #[o D 0,o D 0] 27)=w6 at*
 generalize w5.heap.size+1=FX at*
 generalize w5.heap.size=V at*
 obtain⟨e0,e1,e2,e3,e4,e5⟩:=h6.right.right.cells6;have el:=h6.right.right.lt;have f0:=h6.r3.cell 0;have fl:=h6.r3.lt;have o0:=h6.right.cell 0;have ol:=h6.right.lt;go_wp2_with(at_builtin;refine aV rfl _ _ 95 rfl underlying95 pb _ _ _ rfl (h6.alloc (.cells #[o D ec,U ef,o D ea,o D eb,o D er,U ek] 36)) (T w6.heap.size 0 I) 1 1 (⟨ec,ef,⟨ea,eb,er⟩,ek⟩:Ev).cells rfl rfl (eC w6 (⟨ec,ef,⟨ea,eb,er⟩,ek⟩:Ev).cells 36) (sa ⟨ec,ef,⟨ea,eb,er⟩,ek⟩) ?_ ?_ ?_)
 rotate_left;rotate_left
 ·intro v3 w7 h8 x8
  obtain⟨A3,c3,hv,h9⟩:=j6 h8;rw[ho2.out] at hv h9;subst hv;clear h8 e0 e1 e2 e3 e4 e5 el f0 fl o0 ol h6;have o0:=h9.right.cell 0;have of:=h9.right.free 0;have ol:=h9.right.lt;have h10:Z _ (aa E #[o D 0,U N,o D 0,o D 0,o D 0,U N] 36*(aa F #[o D 0,o D 0] 27*(aa V #[o D ec,U ef,o D ea,o D eb,o D er,U ek] 36*(aa FX #[o D 0,o D 0] 27*(aa O #[.slice A3 out2.length c3] 95*(dD (.slice A3 out2.length c3) out2*(aC p sp W2.H W2.f W2.since*(ak sp W2.σ*(aa X1 #[.pointer (J (T p 0 I))] 75*(aa S0 #[o D yk,o D yc,o D ym.page,o D ym.size,o D ym.frame,o D ym.rights,o D ya.page,o D ya.kind,U ya.user] 43*R)))))))))):=(h9.p2.set 0 (.slice A3 out2.length c3)).eq (by
   show aa O #[.slice A3 out2.length c3] 95*_=_;ac_rfl)
  have x10:=((x6.alloc (.cells #[o D ec,U ef,o D ea,o D eb,o D er,U ek] 36)).trans x8).set (T O 0 I) (.slice A3 out2.length c3);clear h9 x8 x6;go_upto_region 4 with fail;generalize w7.setCell (T O 0 I) (.slice A3 out2.length c3)=w2 at*
  clear o0 of ol;have hE:Z _ (aa E #[o D ec,U ef,o D ea,o D eb,o D er,U ek] 36*(aa F #[o D 0,o D 0] 27*(aa V #[o D ec,U ef,o D ea,o D eb,o D er,U ek] 36*(aa FX #[o D 0,o D 0] 27*(aa O #[.slice A3 out2.length c3] 95*(dD (.slice A3 out2.length c3) out2*(aC p sp W2.H W2.f W2.since*(ak sp W2.σ*(aa X1 #[.pointer (J (T p 0 I))] 75*(aa S0 #[o D yk,o D yc,o D ym.page,o D ym.size,o D ym.frame,o D ym.rights,o D ya.page,o D ya.kind,U ya.user] 43*R)))))))))):=(h10.set6 (o D ec) (U ef) (o D ea) (o D eb) (o D er) (U ek)).drew;have hF:Z _ (aa F #[o D 0,o D 0] 27*(aa E #[o D 0,U N,o D 0,o D 0,o D 0,U N] 36*(aa V #[o D ec,U ef,o D ea,o D eb,o D er,U ek] 36*(aa FX #[o D 0,o D 0] 27*(aa O #[.slice A3 out2.length c3] 95*(dD (.slice A3 out2.length c3) out2*(aC p sp W2.H W2.f W2.since*(ak sp W2.σ*(aa X1 #[.pointer (J (T p 0 I))] 75*(aa S0 #[o D yk,o D yc,o D ym.page,o D ym.size,o D ym.frame,o D ym.rights,o D ya.page,o D ya.kind,U ya.user] 43*R)))))))))):=((h10.p2.set 0 (o D 0)).set 1 (o D 0)).drew;have hEF:Z _ (aa F #[o D 0,o D 0] 27*(aa E #[o D ec,U ef,o D ea,o D eb,o D er,U ek] 36*(aa V #[o D ec,U ef,o D ea,o D eb,o D er,U ek] 36*(aa FX #[o D 0,o D 0] 27*(aa O #[.slice A3 out2.length c3] 95*(dD (.slice A3 out2.length c3) out2*(aC p sp W2.H W2.f W2.since*(ak sp W2.σ*(aa X1 #[.pointer (J (T p 0 I))] 75*(aa S0 #[o D yk,o D yc,o D ym.page,o D ym.size,o D ym.frame,o D ym.rights,o D ya.page,o D ya.kind,U ya.user] 43*R)))))))))):=(((h10.set6 (o D ec) (U ef) (o D ea) (o D eb) (o D er) (U ek)).p2.set 0 (o D 0)).set 1 (o D 0)).drew;have hFE:Z _ (aa E #[o D ec,U ef,o D ea,o D eb,o D er,U ek] 36*(aa F #[o D 0,o D 0] 27*(aa V #[o D ec,U ef,o D ea,o D eb,o D er,U ek] 36*(aa FX #[o D 0,o D 0] 27*(aa O #[.slice A3 out2.length c3] 95*(dD (.slice A3 out2.length c3) out2*(aC p sp W2.H W2.f W2.since*(ak sp W2.σ*(aa X1 #[.pointer (J (T p 0 I))] 75*(aa S0 #[o D yk,o D yc,o D ym.page,o D ym.size,o D ym.frame,o D ym.rights,o D ya.page,o D ya.kind,U ya.user] 43*R)))))))))):=(((h10.p2.set 0 (o D 0)).set 1 (o D 0)).p2.set6 (o D ec) (U ef) (o D ea) (o D eb) (o D er) (U ek)).drew;have hd:=h10.drew;obtain⟨e0,e1,e2,e3,e4,e5⟩:=h10.cells6;obtain⟨f0,f1,f2',f3,f4,f5⟩:=h10.frees6;have el:=h10.lt;have k0:w2.cell? (T F 0 I)=J (o D 0):=h10.right.cell 0;have k1:w2.cell? (T F 1 I)=J (o D 0):=h10.right.cell 1;have l0:w2.frozen? (T F 0 I)=N:=h10.right.free 0;have l1:w2.frozen? (T F 1 I)=N:=h10.right.free 1;have fl:=h10.right.lt;have HK:=S (fun(w':af) (P Q:ab) (h:Z w' (P*(Q*(aa V #[o D ec,U ef,o D ea,o D eb,o D er,U ek] 36*(aa FX #[o D 0,o D 0] 27*(aa O #[.slice A3 out2.length c3] 95*(dD (.slice A3 out2.length c3) out2*(aC p sp W2.H W2.f W2.since*(ak sp W2.σ*(aa X1 #[.pointer (J (T p 0 I))] 75*(aa S0 #[o D yk,o D yc,o D ym.page,o D ym.size,o D ym.frame,o D ym.rights,o D ya.page,o D ya.kind,U ya.user] 43*R)))))))))))=>(by
   obtain⟨c0,c1,c2,c3,c4,c5⟩:=h.right.right.cells6;exact⟨c0,c1,c2,c3,c4,c5,h.r3.cell 0,h.r3.cell 1⟩:w'.cell? (T V 0 I)=J (o D ec)∧w'.cell? (T V 1 I)=J (U ef)∧w'.cell? (T V 2 I)=J (o D ea)∧w'.cell? (T V 3 I)=J (o D eb)∧w'.cell? (T V 4 I)=J (o D er)∧w'.cell? (T V 5 I)=J (U ek)∧w'.cell? (T FX 0 I)=J (o D 0)∧w'.cell? (T FX 1 I)=J (o D 0)))
  have hne:E≠F:=h10.ne;have hne':F≠E:=fun e=>hne e.symm;have vl:=h10.right.right.lt;have xl:=h10.r3.lt;have HEN:=S (fun(w':af) (h:Z w' (aa V #[o D ec,U ef,o D ea,o D eb,o D er,U ek] 36*(aa FX #[o D 0,o D 0] 27*(aa O #[.slice A3 out2.length c3] 95*(dD (.slice A3 out2.length c3) out2*(aC p sp W2.H W2.f W2.since*(ak sp W2.σ*(aa X1 #[.pointer (J (T p 0 I))] 75*(aa S0 #[o D yk,o D yc,o D ym.page,o D ym.size,o D ym.frame,o D ym.rights,o D ya.page,o D ya.kind,U ya.user] 43*R)))))))))=>(by
   have h1:=ny (h.eq (show _=aa O #[.slice A3 out2.length c3] 95*(dD (.slice A3 out2.length c3) out2*(aa V #[o D ec,U ef,o D ea,o D eb,o D er,U ek] 36*(aa FX #[o D 0,o D 0] 27*(aa S0 #[o D yk,o D yc,o D ym.page,o D ym.size,o D ym.frame,o D ym.rights,o D ya.page,o D ya.kind,U ya.user] 43*(aC p sp W2.H W2.f W2.since*(ak sp W2.σ*(aa X1 #[.pointer (J (T p 0 I))] 75*R))))))) by ac_rfl));exact(h1.eq (show _=aa V #[o D ec,U ef,o D ea,o D eb,o D er,U ek] 36*(aa FX #[o D 0,o D 0] 27*(aa S0 #[o D yk,o D yc,o D ym.page,o D ym.size,o D ym.frame,o D ym.rights,o D ya.page,o D ya.kind,U ya.user] 43*(aC p sp W2.H W2.f W2.since*(ak sp W2.σ*(aa X1 #[.pointer (J (T p 0 I))] 75*(fX O out2*R)))))) by ac_rfl)).r3 :Z w' (aC p sp W2.H W2.f W2.since*(ak sp W2.σ*(aa X1 #[.pointer (J (T p 0 I))] 75*(fX O out2*R))))))
  go_region_held3 (fun w'=>w'.cell? (T V 0 I)=J (o D ec)∧w'.cell? (T V 1 I)=J (U ef)∧w'.cell? (T V 2 I)=J (o D ea)∧w'.cell? (T V 3 I)=J (o D eb)∧w'.cell? (T V 4 I)=J (o D er)∧w'.cell? (T V 5 I)=J (U ek)∧w'.cell? (T FX 0 I)=J (o D 0)∧w'.cell? (T FX 1 I)=J (o D 0)) (first|(with_reducible exact HK.out _ _ _ hd)|(with_reducible exact HK.out _ _ _ hE)|(with_reducible exact HK.out _ _ _ hF)|(with_reducible exact HK.out _ _ _ hEF)|(with_reducible exact HK.out _ _ _ hFE)|go_keep) (fail)
  all_goals
   go_wp2_with fail
   refine am (fun wz=>Z wz (aa E #[o D ec,U ef,o D ea,o D eb,o D er,U ek] 36*(aa F #[o D 0,o D 0] 27*(aa V #[o D ec,U ef,o D ea,o D eb,o D er,U ek] 36*(aa FX #[o D 0,o D 0] 27*(aa O #[.slice A3 out2.length c3] 95*(dD (.slice A3 out2.length c3) out2*(aC p sp W2.H W2.f W2.since*(ak sp W2.σ*(aa X1 #[.pointer (J (T p 0 I))] 75*(aa S0 #[o D yk,o D yc,o D ym.page,o D ym.size,o D ym.frame,o D ym.rights,o D ya.page,o D ya.kind,U ya.user] 43*R))))))))))∧bL w wz) ?_ ?_
   ·first
     |exact⟨hEF.p2,(((((((((x10.set _ _).set _ _).set _ _).set _ _).set _ _).set _ _).set _ _).set _ _).drew)⟩
     |exact⟨hFE,(((((((((x10.set _ _).set _ _).set _ _).set _ _).set _ _).set _ _).set _ _).set _ _).drew)⟩
   ·rintro wz ⟨hz,xz⟩
    exact b0 (ng results93 rfl rfl (aM hz) (dx hz.right)) rfl ⟨rfl,HEN.out _ hz.right.right,xz⟩
 ·unfold maxLen;omega
 ·omega
theorem nz:∀(m k:Nat) (σ:Sc),(dg m k σ).2.length≤m
 |0,_,_=>Nat.le_refl _
 |m+1,k,σ=>by
  cases hq:σ.waits k with
  |true=>
   rw[pi hq];have:=nz m (k+1) (σ.act (cy k)).1;show(dg m (k+1) (σ.act (cy k)).1).2.length+1≤m+1;omega
  |false=>
   rw[nr hq];have:=nz m (k+1) σ;omega
theorem qA:∀(m k:Nat) (σ:Sc),(d9 m k σ).2.length≤m
 |0,_,_=>Nat.le_refl _
 |m+1,k,σ=>by
  cases hq:σ.on k with
  |true=>
   rw[pj hq];have:=qA m k (σ.act (aY k)).1;show(d9 m k (σ.act (aY k)).1).2.length+1≤m+1;omega
  |false=>
   rw[ns hq];show 0≤m+1;omega
theorem ou:∀(m k:Nat) (σ:Sc),(cE m k σ).2.length≤7*m
 |0,_,_=>Nat.le_refl _
 |m+1,k,σ=>by
  have h1:=qA 7 k σ;have h2:=ou m (k+1) (d9 7 k σ).1;show((d9 7 k σ).2++(cE m (k+1) (d9 7 k σ).1).2).length ≤_;rw[a7];omega
theorem qB{σ:Sc}(h:σ.cs.length≤4):(gI σ).2.length≤32:=by
 have h1:=nz σ.cs.length 0 σ;have h2:=ou σ.cs.length 0 (dg σ.cs.length 0 σ).1;show((dg σ.cs.length 0 σ).2++(cE σ.cs.length 0 (dg σ.cs.length 0 σ).1).2).length ≤32;rw[a7];omega
theorem sd{σ:Sc}{P:List Mp}(hs:bP σ P){k:Nat}(hk:k<σ.cs.length)(hon:σ.on k=ad):jw (σ.act (aY k)).1.s ((σ.act (aY k)).1.core k).k <jw σ.s (σ.core k).k :=by
 have hon':(σ.core k).k.on =ad:=by rw[←nl hk];exact hon
 have hst:=hs.walk_stepIn hk hon';have hmu:=sb (bD hs.ok k).2 hon' hst.code;rw[qw hk,oi hk];exact hmu
theorem vN(k:Nat)(h:k<4):(cy k).ok :=by
 unfold cy Stp.ok Mp.ok Ac.ok cW;dsimp only;omega
theorem pm(k:Nat)(h:k<4):(aY k).ok :=by
 unfold aY Stp.ok Mp.ok Ac.ok cW;dsimp only;omega
set_option maxHeartbeats 20000000 in
theorem zW(p sp:Nat)(W:Wc)(P:List Mp)(hW:W.Ok P)(hH:W.H.length≤999999)(R:ab)(w:af)(h:Z w (aC p sp W.H W.f W.since*(ak sp W.σ*R))):
  bA prog 47 #[.pointer (J (T p 0 I))] w fun e w'=>∃(A:Option b9) (c:Nat) (W':Wc) (P':List Mp),e= .returned (.tuple #[.slice A (gI W.σ).2.length c,.agg #[o D 0,o D 0]])∧W'.Ok P'∧W'.σ=(gI W.σ).1∧W'.H.length=W.H.length∧
   Z w' (dD (.slice A (gI W.σ).2.length c) (gI W.σ).2*(aC p sp W'.H W'.f W'.since*(ak sp W'.σ*R)))∧bL w w':=by
 obtain⟨K,hK⟩:∃K,W.σ.cs.length=K:=⟨_,rfl⟩;have hK4:K≤4:=hK▸hW.safe.ok.few;have hLen:=S (qB (σ:=W.σ) hW.safe.ok.few);have hCR:bi (gI W.σ=((cE K 0 (dg K 0 W.σ).1).1,(dg K 0 W.σ).2++(cE K 0 (dg K 0 W.σ).1).2)):=S (by rw[←hK];rfl);have HS0:bi (W.Ok P):=S hW;have HH:=S hH;have HA0:bi (dg K 0 W.σ=((dg (K - 0) 0 W.σ).1,([]:List Ev)++(dg (K - 0) 0 W.σ).2)):=S rfl;obtain⟨C,hC⟩:∃C,gI W.σ=C:=⟨_,rfl⟩;obtain⟨AR,hAR⟩:∃a,dg K 0 W.σ=a:=⟨_,rfl⟩;obtain⟨h0,hh0⟩:∃n,W.H.length=n:=⟨_,rfl⟩;rw[hC] at hLen hCR⊢;rw[hAR] at hCR HA0;rw[hh0] at HH⊢;have HB0:bi (W.σ.cs.length=K∧W.H.length=h0):=S ⟨hK,hh0⟩;have h1:Z _ (aa w.heap.size #[.pointer (J (T p 0 I))] 75*(aa (w.heap.size+1) #[o D 0,o D 0] 27*(aa (w.heap.size+1+1) #[.slice I 0 0] 95*(aC p sp W.H W.f W.since*(ak sp W.σ*R))))):=(((h.new #[.pointer (J (T p 0 I))] 75).new #[o D 0,o D 0] 27).new #[.slice I 0 0] 95).eq (by simp only[a6]<;>ac_rfl);have x1:=(((Ext.refl w).alloc (.cells #[.pointer (J (T p 0 I))] 75)).alloc (.cells #[o D 0,o D 0] 27)).alloc (.cells #[.slice I 0 0] 95);clear h hW hH hC hK hAR hh0;go_enter func47,ntmps47;go_upto_region 3 with fail;generalize ((w.alloc (.cells #[.pointer (J (T p 0 I))] 75)).alloc (.cells #[o D 0,o D 0] 27)).alloc (.cells #[.slice I 0 0] 95)=w1 at*
 generalize w.heap.size+1+1=O at*
 generalize w.heap.size+1=F at*
 generalize w.heap.size=X1 at*
 have h2:Z w1 (aC p sp W.H W.f W.since*(ak sp W.σ*(aa X1 #[.pointer (J (T p 0 I))] 75*(fX O []*(aa F #[o D 0,o D 0] 27*R))))):=by
  have a1:=ny (O:=O) (A:=I) (c:=0) (l:=[]) (Has.p2 (Has.rowNil (e:=36) (size:=6) (h1.eq (show _=aa O #[.slice I 0 0] 95*(aC p sp W.H W.f W.since*(ak sp W.σ*(aa X1 #[.pointer (J (T p 0 I))] 75*(aa F #[o D 0,o D 0] 27*R)))) by ac_rfl))));exact a1.eq (by ac_rfl)
 clear h1;have g0:=h2.right.right.cell 0;have gl:=h2.right.right.lt;have pc:=(cH h2).2;have pl:=(cH h2).1;have HCO:=S (uL sp W.σ _ _ h2.p2);rw[HB0.out.1] at HCO;go_wp2_with fail
 refine HCO.out.mono ?_;rintro e w2 ⟨rfl,hw⟩;replace hw:=hw.symm;subst hw;clear HCO g0 gl pc pl;go_wp2_with fail
 go_loopw [20] (fun t20 wr=>∃(i:Nat) (W':Wc) (P':List Mp) (out:List Ev),i≤K∧t20=o D i∧bi (W'.Ok P')∧bi (W'.σ.cs.length=K∧W'.H.length=h0)∧bi (AR=((dg (K - i) i W'.σ).1,out++(dg (K - i) i W'.σ).2))∧Z wr (aC p sp W'.H W'.f W'.since*(ak sp W'.σ*(aa X1 #[.pointer (J (T p 0 I))] 75*(fX O out*(aa F #[o D 0,o D 0] 27*R)))))∧bL w wr) (fun t20 _=>K - (b8 t20).toNat)
 case atStart=>exact⟨0,W,P,[],by omega,rfl,HS0,HB0,HA0,h2,x1⟩
 case round=>
  clear h2 x1 HS0 HB0 HA0;obtain⟨i,W1,P1,out,hi,rfl,hS1,hB1,hA1,hr,hx⟩:=hrel;by_cases hlt:i<K
  ·have hlt':(i:Int)<K:=by omega
   obtain⟨j,hj⟩:∃j,K - i=j+1:=⟨K - i - 1,by omega⟩;have hj':K - (i+1)=j:=by omega
   rw[hj] at hA1;have g0:=hr.right.right.cell 0;have gl:=hr.right.right.lt;have pc:=(cH hr).2;have pl:=(cH hr).1;have HWT:=S (uM sp W1.σ _ _ hr.p2 i);have hol:out.length≤32:=by
    have a1:=hLen.out;have a2:=congrArg Prod.snd hCR.out;have a3:=congrArg Prod.snd hA1.out;dsimp only at a2 a3;rw[a2,a3,a7,a7] at a1;omega
   have HF:=S (fun w h=>xO p sp X1 O W1 P1 (cy i) hS1.out (vN i (by omega)) (by rw[hB1.out.2];exact HH.out) out (by omega) (aa F #[o D 0,o D 0] 27*R) w h);have HS2:bi ((W1.act (cy i)).1.Ok (Safe.prevOf W1.σ P1 (cy i))):=S (hS1.out.act _);have HB2:bi ((W1.act (cy i)).1.σ.cs.length=K∧(W1.act (cy i)).1.H.length=h0):=S ⟨(hS1.out.safe.n_act _).2.trans hB1.out.1,by rw[ld _ _ om];exact hB1.out.2⟩;unfold Ev.val cy at HF;dsimp only at HF;cases hq:W1.σ.waits i with
   |true=>
    have HA2:bi (AR=((dg (K - (i+1)) (i+1) (W1.act (cy i)).1.σ).1,(out++[(W1.act (cy i)).2])++(dg (K - (i+1)) (i+1) (W1.act (cy i)).1.σ).2)):=S (by
     have a1:=hA1.out;rw[pi hq] at a1;rw[hj',a1,List.append_assoc];rfl)
    rw[hq] at HWT;unfold cy at HS2 HB2 HA2;clear hS1 hB1 hA1 hq hj hj';go_wp2_with fail
    refine HWT.out.mono ?_;rintro e w3 ⟨rfl,hw⟩;replace hw:=hw.symm;subst hw;clear HWT g0 gl pc pl;generalize Wc.act W1 ⟨6,(i:Int),⟨0,0,0,0⟩,⟨0,0,N⟩⟩=z at*
    obtain⟨W2,⟨ec,ef,⟨ea,eb,er⟩,ek⟩⟩:=z;dsimp only at*
    go_wp2_with fail
    refine(HF.out _ hr).mono ?_;rintro e w4 ⟨rfl,h4,x4⟩;have h5:=(h4.new #[o D ec,U ef,o D ea,o D eb,o D er,U ek] 36).new #[o D 0,o D 0] 27;have x5:=((hx.trans x4).alloc (.cells #[o D ec,U ef,o D ea,o D eb,o D er,U ek] 36)).alloc (.cells #[o D 0,o D 0] 27);clear hr hx h4 x4 HF;go_upto_region 8 with fail;generalize (w4.alloc (.cells #[o D ec,U ef,o D ea,o D eb,o D er,U ek] 36)).alloc (.cells #[o D 0,o D 0] 27)=w5 at*
    have f0:=h5.cell 0;have fl:=h5.lt;simp only[a6] at f0 fl;generalize w4.heap.size=V at*
    go_wp2_with fail
    go_roundw
    case rel=>exact⟨i+1,W2,_,out++[(⟨ec,ef,⟨ea,eb,er⟩,ek⟩:Ev)],by omega,by go_num,HS2,HB2,HA2,h5.right.right,x5⟩
    case measure=>simp[b8];omega
   |false=>
    have HA2:bi (AR=((dg (K - (i+1)) (i+1) W1.σ).1,out++(dg (K - (i+1)) (i+1) W1.σ).2)):=S (by
     have a1:=hA1.out;rw[nr hq] at a1;rw[hj',a1])
    rw[hq] at HWT;clear hA1 hq hj hj' HF HS2 HB2;go_wp2_with fail
    refine HWT.out.mono ?_;rintro e w3 ⟨rfl,hw⟩;replace hw:=hw.symm;subst hw;clear HWT g0 gl pc pl;go_wp2_with fail
    go_roundw
    case rel=>exact⟨i+1,W1,P1,out,by omega,by go_num,hS1,hB1,HA2,hr,hx⟩
    case measure=>simp[b8];omega
  ·obtain rfl:i=K:=by omega
   have HC1:bi (C=((cE (i - 0) 0 W1.σ).1,out++(cE (i - 0) 0 W1.σ).2)):=S (by
    have a1:=hA1.out;rw[Nat.sub_self] at a1;have a2:=hCR.out;rw[a1] at a2;rw[a2];show((cE i 0 W1.σ).1,(out++[])++(cE i 0 W1.σ).2)=_;rw[List.append_nil];rfl)
   have g0:=hr.right.right.cell 0;have gl:=hr.right.right.lt;have pc:=(cH hr).2;have pl:=(cH hr).1;have HCO:=S (uL sp W1.σ _ _ hr.p2);rw[hB1.out.1] at HCO;clear hA1 hCR;go_wp2_with fail
   refine HCO.out.mono ?_;rintro e w2 ⟨rfl,hw⟩;replace hw:=hw.symm;subst hw;clear HCO g0 gl pc pl;go_wp2_with fail
   go_loopw [46] (fun t46 wr=>∃(k:Nat) (W':Wc) (P':List Mp) (out:List Ev),k≤i∧t46=o D k∧bi (W'.Ok P')∧bi (W'.σ.cs.length=i∧W'.H.length=h0)∧bi (C=((cE (i - k) k W'.σ).1,out++(cE (i - k) k W'.σ).2))∧Z wr (aC p sp W'.H W'.f W'.since*(ak sp W'.σ*(aa X1 #[.pointer (J (T p 0 I))] 75*(fX O out*(aa F #[o D 0,o D 0] 27*R)))))∧bL w wr) (fun t46 _=>i - (b8 t46).toNat)
   case atStart=>exact⟨0,W1,P1,out,by omega,rfl,hS1,hB1,HC1,hr,hx⟩
   case round=>
    clear hr hx hS1 hB1 HC1;obtain⟨k,W3,P3,out3,hk,rfl,hS3,hB3,hC3,hr,hx⟩:=hrel;by_cases hlt:k<i
    ·have hlt':(k:Int)<i:=by omega
     obtain⟨j,hj⟩:∃j,i - k=j+1:=⟨i - k - 1,by omega⟩;have hj':i - (k+1)=j:=by omega
     rw[hj] at hC3;have hC4:bi (C=((cE j (k+1) (d9 7 k W3.σ).1).1,out3++((d9 7 k W3.σ).2++(cE j (k+1) (d9 7 k W3.σ).1).2))):=S hC3.out;have hmu:bi (jw W3.σ.s (W3.σ.core k).k ≤7):=S (vM (bD hS3.out.safe.ok k).2);replace hj':=S hj';have g0:=hr.right.right.cell 0;have gl:=hr.right.right.lt;have pc:=(cH hr).2;have pl:=(cH hr).1;have HON:=S (Aa sp W3.σ _ _ hr.p2 k);clear hC3 hj;go_wp2_with fail
     refine HON.out.mono ?_;rintro e w4 ⟨rfl,b4⟩;have h5:=(hr.below b4).new #[o D (W3.σ.acc k).page,o D (W3.σ.acc k).kind,U (W3.σ.acc k).user] 41;have x5:=(hx.below b4).alloc (.cells #[o D (W3.σ.acc k).page,o D (W3.σ.acc k).kind,U (W3.σ.acc k).user] 41);clear hr hx b4 HON g0 gl pc pl;generalize W3.σ.acc k=a4 at*
     go_upto_region 15 with fail;generalize w4.alloc _=w5 at*
     generalize w4.heap.size=Y4 at*
     go_loopg [10,11] 7 (fun jj t10 t11 wr=>∃(W':Wc) (P':List Mp) (out:List Ev) (Y:Nat) (a:Ac),t10= .pointer (J (T Y 0 I))∧t11=U (W'.σ.on k)∧bi (W'.Ok P')∧bi (W'.σ.cs.length=i∧W'.H.length=h0)∧bi (jw W'.σ.s (W'.σ.core k).k ≤jj)∧
      bi (C=((cE j (k+1) (d9 jj k W'.σ).1).1,out++((d9 jj k W'.σ).2++(cE j (k+1) (d9 jj k W'.σ).1).2)))∧Z wr (aa Y #[o D a.page,o D a.kind,U a.user] 41*(aC p sp W'.H W'.f W'.since*(ak sp W'.σ*(aa X1 #[.pointer (J (T p 0 I))] 75*(fX O out*(aa F #[o D 0,o D 0] 27*R))))))∧bL w wr)
     case atStart=>exact⟨W3,P3,out3,Y4,a4,rfl,rfl,hS3,hB3,hmu,hC4,h5,x5⟩
     case round=>
      clear h5 x5 hS3 hB3 hmu hC4;obtain⟨W5,P5,out5,Y5,a5,rfl,rfl,hS5,hB5,hmu5,hC5,hr,hx⟩:=hrel;cases hq:W5.σ.on k with
      |false=>
       have HC6:bi (C=((cE (i - (k+1)) (k+1) W5.σ).1,out5++(cE (i - (k+1)) (k+1) W5.σ).2)):=S (by
        have a1:=hC5.out;rw[ns hq] at a1;rw[hj'.out,a1];rfl)
       clear hq hC5 hmu5;go_wp2_with fail
       go_roundw
       case rel=>exact⟨k+1,W5,P5,out5,by omega,by go_num,hS5,hB5,HC6,hr.right,hx⟩
       case measure=>simp[b8];omega
      |true=>
       have hk5:k<W5.σ.cs.length:=by rw[hB5.out.1];exact hlt
       obtain⟨jj,rfl⟩:∃jj,gk=jj+1:=⟨gk - 1,by
        have a1:=hmu5.out;have a2:=pd (s:=W5.σ.s) (show(W5.σ.core k).k.on =ad by rw[←nl hk5];exact hq);omega⟩
       have hmu6:bi (jw (W5.act (aY k)).1.σ.s ((W5.act (aY k)).1.σ.core k).k ≤jj):=S (by
        have a1:=sd hS5.out.safe hk5 hq;have a2:=hmu5.out;have a3:jw (W5.act (aY k)).1.σ.s ((W5.act (aY k)).1.σ.core k).k <jw W5.σ.s (W5.σ.core k).k :=a1;omega)
       have HC6:bi (C=((cE j (k+1) (d9 jj k (W5.act (aY k)).1.σ).1).1,(out5++[(W5.act (aY k)).2])++((d9 jj k (W5.act (aY k)).1.σ).2++(cE j (k+1) (d9 jj k (W5.act (aY k)).1.σ).1).2))):=S (by
        have a1:=hC5.out;rw[pj hq] at a1;rw[a1,List.append_assoc];rfl)
       have hol:out5.length≤32:=by
        have a1:=hLen.out;have a2:=congrArg Prod.snd hC5.out;dsimp only at a2;rw[a2,a7] at a1;omega
       have HF:=S (fun w h=>xO p sp X1 O W5 P5 (aY k) hS5.out (pm k (by omega)) (by rw[hB5.out.2];exact HH.out) out5 (by omega) (aa F #[o D 0,o D 0] 27*(aa Y5 #[o D a5.page,o D a5.kind,U a5.user] 41*R)) w h);have HS6:bi ((W5.act (aY k)).1.Ok (Safe.prevOf W5.σ P5 (aY k))):=S (hS5.out.act _);have HB6:bi ((W5.act (aY k)).1.σ.cs.length=i∧(W5.act (aY k)).1.H.length=h0):=S ⟨(hS5.out.safe.n_act _).2.trans hB5.out.1,by rw[ld _ _ kI];exact hB5.out.2⟩;unfold Ev.val at HF;unfold aY at HF hmu6 HC6 HS6 HB6;dsimp only at HF;have h6:Z wr (aC p sp W5.H W5.f W5.since*(ak sp W5.σ*(aa X1 #[.pointer (J (T p 0 I))] 75*(fX O out5*(aa F #[o D 0,o D 0] 27*(aa Y5 #[o D a5.page,o D a5.kind,U a5.user] 41*R)))))):=hr.eq (by ac_rfl);clear hS5 hB5 hmu5 hC5 hr hk5 hq;generalize Wc.act W5 ⟨5,(k:Int),⟨0,0,0,0⟩,⟨0,0,N⟩⟩=z at*
       obtain⟨W6,⟨ec,ef,⟨ea,eb,er⟩,ek⟩⟩:=z;dsimp only at*
       go_wp2_with fail
       refine(HF.out _ h6).mono ?_;rintro e w7 ⟨rfl,h7,x7⟩;have h8:Z _ (aa w7.heap.size #[o D ec,U ef,o D ea,o D eb,o D er,U ek] 36*(aa (w7.heap.size+1) #[o D 0,o D 0] 27*(aa Y5 #[o D a5.page,o D a5.kind,U a5.user] 41*(aC p sp W6.H W6.f W6.since*(ak sp W6.σ*(aa X1 #[.pointer (J (T p 0 I))] 75*(fX O (out5++[(⟨ec,ef,⟨ea,eb,er⟩,ek⟩:Ev)])*(aa F #[o D 0,o D 0] 27*R)))))))):=((h7.new #[o D ec,U ef,o D ea,o D eb,o D er,U ek] 36).new #[o D 0,o D 0] 27).eq (by simp only[a6]<;>ac_rfl);have x8:=((hx.trans x7).alloc (.cells #[o D ec,U ef,o D ea,o D eb,o D er,U ek] 36)).alloc (.cells #[o D 0,o D 0] 27);clear h6 hx h7 x7 HF;go_upto_region 18 with fail;generalize (w7.alloc (.cells #[o D ec,U ef,o D ea,o D eb,o D er,U ek] 36)).alloc (.cells #[o D 0,o D 0] 27)=w8 at*
       generalize w7.heap.size+1=FX at*
       generalize w7.heap.size=V at*
       have f0:=h8.right.cell 0;have fl:=h8.right.lt;obtain⟨a0,a1,a2⟩:=h8.right.right.cells3;have al:=h8.right.right.lt;have h9:=h8.new #[o D a5.page,o D a5.kind,U a5.user] 41;have x9:=x8.alloc (.cells #[o D a5.page,o D a5.kind,U a5.user] 41);go_upto_region 16 with fail;generalize w8.alloc _=w9 at*
       generalize w8.heap.size=Y9 at*
       clear f0 fl a0 a1 a2 al h8 x8;have h10:Z w9 (aa Y9 #[o D a5.page,o D a5.kind,U a5.user] 41*(aC p sp W6.H W6.f W6.since*(ak sp W6.σ*(aa X1 #[.pointer (J (T p 0 I))] 75*(fX O (out5++[(⟨ec,ef,⟨ea,eb,er⟩,ek⟩:Ev)])*(aa F #[o D 0,o D 0] 27*R)))))):=(h9.eq (show _=aa V #[o D ec,U ef,o D ea,o D eb,o D er,U ek] 36*(aa FX #[o D 0,o D 0] 27*(aa Y5 #[o D a5.page,o D a5.kind,U a5.user] 41*(aa Y9 #[o D a5.page,o D a5.kind,U a5.user] 41*(aC p sp W6.H W6.f W6.since*(ak sp W6.σ*(aa X1 #[.pointer (J (T p 0 I))] 75*(fX O (out5++[(⟨ec,ef,⟨ea,eb,er⟩,ek⟩:Ev)])*(aa F #[o D 0,o D 0] 27*R)))))))) by ac_rfl)).r3;clear h9;have g0:=h10.r3.cell 0;have gl:=h10.r3.lt;have pc:=(cH h10.right).2;have pl:=(cH h10.right).1;have HON:=S (Aa sp W6.σ _ _ h10.right.p2 k);go_wp2_with fail
       refine HON.out.mono ?_;rintro e w10 ⟨rfl,b10⟩;have h11:=h10.below b10;have x11:=x9.below b10;clear h10 x9 b10 HON g0 gl pc pl;go_wp2_with fail
       go_roundg jj
       case measure=>omega
       case rel=>exact⟨W6,_,out5++[(⟨ec,ef,⟨ea,eb,er⟩,ek⟩:Ev)],Y9,a5,rfl,rfl,HS6,HB6,hmu6,HC6,h11,x11⟩
    ·obtain rfl:k=i:=by omega
     have HC6:bi (C=(W3.σ,out3)):=S (by
      have a1:=hC3.out;rw[Nat.sub_self] at a1;rw[a1];show(W3.σ,out3++[])=_;rw[List.append_nil])
     obtain⟨A,c,h5⟩:=nx (hr.eq (show _=fX O out3*(aa F #[o D 0,o D 0] 27*(aC p sp W3.H W3.f W3.since*(ak sp W3.σ*(aa X1 #[.pointer (J (T p 0 I))] 75*R)))) by ac_rfl));have h6:Z wr (aa F #[o D 0,o D 0] 27*(aa O #[.slice A out3.length c] 95*(aa X1 #[.pointer (J (T p 0 I))] 75*(dD (.slice A out3.length c) out3*(aC p sp W3.H W3.f W3.since*(ak sp W3.σ*R)))))):=h5.eq (by ac_rfl);clear hC3 hr h5;obtain⟨c0,c1⟩:=h6.cells2;obtain⟨f0,f1⟩:=h6.frees2;have cl:=h6.lt;have o0:=h6.right.cell 0;have ol:=h6.right.lt;have hE:bi (C.1=W3.σ∧C.2=out3):=S (by rw[HC6.out];exact⟨rfl,rfl⟩);clear HC6 hLen;go_wp2_with fail
     refine am (fun wz=>Z wz (aa F #[o D 0,o D 0] 27*(aa O #[.slice A out3.length c] 95*(aa X1 #[.pointer (J (T p 0 I))] 75*(dD (.slice A out3.length c) out3*(aC p sp W3.H W3.f W3.since*(ak sp W3.σ*R))))))∧bL w wz) ⟨by first|(with_reducible exact h6)|(with_reducible exact h6.set2 _ _),ah⟩ ?_;rintro wz ⟨hz,xz⟩;exact b0 (eo results47 rfl rfl (dx hz)) rfl ⟨A,c,W3,P3,by rw[hE.out.2];rfl,hS3.out,hE.out.1.symm,hB3.out.2,by rw[hE.out.2];exact hz.r3,xz⟩
theorem po:jD prog 129 lnZero 5 40:=⟨by kernel_rfl,rfl,by omega⟩
def gJ(v:bG)(l:List Ln):ab:=mC 129 5 v l.length (bW l)
section
variable {w:af} {R:ab} {A:Option b9} {n c:Nat} {l:List Ln}
theorem vO(h:Z w (gJ (.slice A n c) l*R)):n=l.length:=by
 obtain⟨A',c',e⟩:=Has.rowOForm (e:=129) (size:=5) h;injection e
theorem iI(h:Z w (gJ (.slice A n c) l*R)){k:Nat}(hk:k<l.length):
  ∃b off,A=J (T b off I)∧b<w.heap.size∧
   (w.cell? ⟨b,off+k*5,I⟩=J (o D l[k].m.page)∧w.cell? ⟨b,off+k*5+1,I⟩=J (o D l[k].m.size)∧w.cell? ⟨b,off+k*5+2,I⟩=J (o D l[k].m.frame)∧w.cell? ⟨b,off+k*5+3,I⟩=J (o D l[k].m.rights)∧w.cell? ⟨b,off+k*5+4,I⟩=J (U l[k].dirty)):=by
 obtain rfl:=vO h;have g:=fun t (ht:t<5)=>Has.rowOGet (e:=129) (size:=5) h (i:=k*5+t) (u:=(l[k].cells[t]'(by rw[gK];exact ht))) (by
  have:=lc (cells:=Ln.cells) gK hk ht;rw[ag (l:=l[k].cells) (by rw[gK];exact ht)] at this;exact this)
 obtain⟨b,off,rfl,hb,c0⟩:=g 0 (by omega);obtain⟨b1,o1,e1,_,c1⟩:=g 1 (by omega);obtain⟨b2,o2,e2,_,c2⟩:=g 2 (by omega);obtain⟨b3,o3,e3,_,c3⟩:=g 3 (by omega);obtain⟨b4,o4,e4,_,c4⟩:=g 4 (by omega);injection e1 with e1;injection e1 with e1 f1;subst e1;subst f1
 injection e2 with e2;injection e2 with e2 f2;subst e2;subst f2
 injection e3 with e3;injection e3 with e3 f3;subst e3;subst f3
 injection e4 with e4;injection e4 with e4 f4;subst e4;subst f4
 simp only[←Nat.add_assoc,Nat.add_zero] at c0 c1 c2 c3 c4;exact⟨b,off,rfl,hb,c0,c1,c2,c3,c4⟩
end
def cC(q:Nat)(v:bG)(k:Ck):ab:=aa q #[v,U k.on,o D k.a.page,o D k.a.kind,U k.a.user,o D k.t,o D k.level,U k.mark,o vU k.w] 66
def aN(q:Nat)(A:Option b9)(c:Nat)(l:List Ln)(k:Ck)(R:ab):ab:=cC q (.slice A l.length c) k*(gJ (.slice A l.length c) l*R)
theorem zX(q:Nat)(A:Option b9)(c:Nat)(l:List Ln)(k:Ck)(p:Int)(R:ab)(w:af)(hok:∀x∈l,cW x.m.page)(hp:cW p)(h:Z w (aN q A c l k R)):
  bA prog 117 #[.pointer (J (T q 0 I)),.int .i64 p] w (Pure (o D (Tl.idx l p)) w):=by
 have hbig:=(Has.rowOSmall (e:=129) (size:=5) h.right).1;have he:Tl.idx l p=oQ (fun x=>over x.m p) l:=rfl;rw[he];have c0:w.cell? (T q 0 I)=J (.slice A l.length c):=Has.cell h 0;go_enter func117,ntmps117;go_wp2_with fail
 go_loopw [5] (fun s5 wr=>∃i:Nat,i≤l.length∧s5=o D i∧Below w.heap.size w wr∧bi (∀j (hj:j<l.length),j<i→over l[j].m p=N)) (fun s5 _=>l.length - (b8 s5).toNat)
 case atStart=>exact⟨0,Nat.zero_le _,rfl,Below.refl _ _,S fun j _ h=>absurd h (Nat.not_lt_zero _)⟩
 case round=>
  obtain⟨i,hi,rfl,BW,HA⟩:=hrel;have h':=h.below BW;clear c0;have c0:wr.cell? (T q 0 I)=J (.slice A l.length c):=Has.cell h' 0;have cl:=Has.lt h';have BW':=S BW;clear BW;by_cases hlt:i<l.length
  ·obtain⟨b,off,rfl,hb,d0,d1,d2,d3,_⟩:=iI h'.right hlt
   have HC:=S (jt l[i].m p wr (hok _ (List.getElem_mem hlt)) hp);have hz:=S (show(l[i]=l[i]) from rfl);generalize hx:l[i]=x at d0 d1 d2 d3 HC;have HX:=S hx;clear hx hz h' h;cases hq:over x.m p with
   |true=>
    rw[hq] at HC;go_wp2_with(refine HC.out.mono ?_;rintro e w' ⟨rfl,hb'⟩)
    go_ret;exact⟨by rw[mU hlt (by rw[HX.out];exact hq) HA.out];rfl,BW'.out.trans (hb'.mono BW'.out.size)⟩
   |false=>
    rw[hq] at HC;go_wp2_with(refine HC.out.mono ?_;rintro e w' ⟨rfl,hb'⟩)
    go_roundw
    case rel=>
     refine⟨i+1,by omega,by go_num,BW'.out.trans (hb'.mono BW'.out.size),S fun j hj hjk=> ?_⟩;by_cases e:j=i
     ·subst e;rw[HX.out];exact hq
     ·exact HA.out j hj (by omega)
    case measure=>simp[b8];omega
  ·have:i=l.length:=by omega
   subst this;go_wp2_with fail
   go_ret;exact⟨by rw[lC fun j hj=>HA.out j hj hj];rfl,BW'.out⟩
theorem dropR(q:Nat)(A:Option b9)(c:Nat)(l:List Ln)(k:Ck)(m:Mp)(R:ab)(w:af)(hok:∀x∈l,cW x.m.page)(hm:cW m.page)(hl:l.length≤1000)(h:Z w (aN q A c l k R)):
  bA prog 126 #[.pointer (J (T q 0 I)),.agg #[o D m.page,o D m.size,o D m.frame,o D m.rights]] w
   fun e w'=>∃A' c',cR (o D ((l.length:Int) - (Tl.drop l m).length)) (aN q A' c' (Tl.drop l m) k R) w e w':=by
 have hbig:=(Has.rowOSmall (e:=129) (size:=5) h.right).1;have h1:=Has.new h #[o D m.page,o D m.size,o D m.frame,o D m.rights] 39;have x1:=(Ext.refl w).alloc (.cells #[o D m.page,o D m.size,o D m.frame,o D m.rights] 39);have h2:Z (w.alloc (.cells #[o D m.page,o D m.size,o D m.frame,o D m.rights] 39)) (mC 129 5 (.slice I 0 0) 0 []*(aa w.heap.size #[o D m.page,o D m.size,o D m.frame,o D m.rights] 39*aN q A c l k R)):=Has.rowONil h1;clear h h1;go_enter func126,ntmps126;go_wp2_with fail
 go_loopw [5,6] (fun s5 s6 wr=>∃(i:Nat) (A':Option b9) (c':Nat) (kept:List Ln),i≤l.length∧s6=o D i∧s5= .slice A' kept.length c'∧kept.length≤i∧bi (kept=(l.take i).filter fun x=> !dV x.m m)∧
   Z wr (gJ (.slice A' kept.length c') kept*(aa w.heap.size #[o D m.page,o D m.size,o D m.frame,o D m.rights] 39*aN q A c l k R))∧bL w wr) (fun _ s6 _=>l.length - (b8 s6).toNat)
 case atStart=>exact⟨0,I,0,[],Nat.zero_le _,rfl,rfl,Nat.zero_le _,S rfl,h2,x1⟩
 case round=>
  clear h2 x1;obtain⟨i,A',c',kept,hi,rfl,rfl,hkl,HK,hr,hx⟩:=hrel;have hsm:=(Has.rowOSmall (e:=129) (size:=5) hr).1;have hcore:=hr.right.right;have c0:wr.cell? (T q 0 I)=J (.slice A l.length c):=Has.cell hcore 0;have cl:=Has.lt hcore;by_cases hlt:i<l.length
  ·obtain⟨b,off,rfl,hb,d0,d1,d2,d3,d4⟩:=iI hcore.right hlt
   have hxo:=hok _ (List.getElem_mem hlt);have HN:=S (jN (p:=fun x=> !dV x.m m) hlt);have HX:=S (show l[i]=l[i] from rfl);generalize hgx:l[i]=x at d0 d1 d2 d3 d4 hxo HN;have HGX:=S hgx;clear hgx HX;have v0:=ae c0;have vd0:=ae d0;have vd1:=ae d1;have vd2:=ae d2;have vd3:=ae d3;obtain⟨e0,e1,e2,e3⟩:=hr.right.cells4;have ve0:=ae e0;have ve1:=ae e1;have ve2:=ae e2;have ve3:=ae e3;have HC:=S (fun W=>vC x.m m W hxo hm);cases hq:dV x.m m with
   |true=>
    rw[hq] at HC;go_wp2_with fail
    refine au (by kernel_rfl) (by kernel_rfl) ?_;repeat(first|go_big_quiet_step ((go_at_call 146;exact Pure.via (HC.out _)))|quiet_step ((go_at_call 146;exact Pure.via (HC.out _))))
    refine wpQuiet_nil ?_;intro _ hw';obtain⟨uq,hw''⟩:=hw';subst hw'';go_wp2_with fail
    go_roundw
    case rel=>exact⟨i+1,A',c',kept,by omega,by go_num,rfl,by omega,S (by rw[HN.out,hq,←HK.out];simp),hr.via uq,hx.below (aE _ _)⟩
    case measure=>simp[b8];omega
   |false=>
    rw[hq] at HC;go_wp2_with fail
    refine au (by kernel_rfl) (by kernel_rfl) ?_;repeat(first|go_big_quiet_step ((go_at_call 146;exact Pure.via (HC.out _)))|quiet_step ((go_at_call 146;exact Pure.via (HC.out _))))
    refine wpQuiet_nil ?_;intro _ hw';obtain⟨uq,hw''⟩:=hw';subst hw'';have hv:=hr.via uq;have xv:=hx.below (aE wr uq);clear v0 vd0 vd1 vd2 vd3 ve0 ve1 ve2 ve3 c0 d0 d1 d2 d3 d4 e0 e1 e2 e3 cl hb;generalize gU wr uq=wv at*
    have c0:wv.cell? (T q 0 I)=J (.slice (J (T b off I)) l.length c):=Has.cell hv.right.right 0;have cl:=Has.lt hv.right.right;obtain⟨b',off',he,hb,d0,d1,d2,d3,d4⟩:=iI hv.r3 hlt;injection he with he;injection he with he1 he2;subst he1;subst he2
    rw[HGX.out] at d0 d1 d2 d3 d4;have hrow:=hv.alloc (.cells #[o D x.m.page,o D x.m.size,o D x.m.frame,o D x.m.rights,U x.dirty] 129);clear hcore hr hx HC;go_wp2_with(at_builtin;refine kC rfl _ _ 63 rfl underlying63 po _ _ _ rfl hrow (T wv.heap.size 0 I) 1 1 x.cells rfl rfl (eC wv x.cells 129) (jO x) ?c2 ?c3 ?_)
    case c2=>unfold maxLen;omega
    case c3=>omega
    intro A2 c2 w2 h2 x2;go_wp2_with fail
    go_roundw
    case rel=>
     refine⟨i+1,A2,c2,kept++[x],by omega,by go_num,by rw[a7];rfl,by simp;omega,S (by rw[HN.out,hq,←HK.out];simp),?_,(xv.alloc _).trans x2⟩;have e1:bW (kept++[x])=bW kept++x.cells:=by rw[gx];simp[bW]
     unfold gJ;rw[e1,a7];exact h2
    case measure=>simp[b8];omega
  ·have:i=l.length:=by omega
   subst this;have hf:kept=Tl.drop l m:=by rw[HK.out,List.take_length];rfl
   have HF:=S hf;clear hf;have cf:=Has.free hcore 0;have hfin:Z wr (cC q (.slice A l.length c) k*(gJ (.slice A' kept.length c') kept*R)):=by
    have:=hr.p2.right;unfold aN at this;exact this.p2.drop3
   go_wp2_with fail
   go_ret;rw[←HF.out];exact⟨A',c',by go_num,Has.set hfin 0 _,hx.set _ _⟩
end Go.Proofs.YtmfheghbgihdmaaGreat
