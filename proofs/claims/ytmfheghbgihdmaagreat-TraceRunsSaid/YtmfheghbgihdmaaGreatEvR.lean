/- Rows of events. -/
import Derived.Test.YtmfheghbgihdmaaGreatMpRow
import Derived.Test.YtmfheghbgihdmaaGreatScE
import Derived.Test.YtmfheghbgihdmaaGreatFrames3
import Derived.Test.YtmfheghbgihdmaaGreatSpcO
import Derived.Test.YtmfheghbgihdmaaGreatWchN
import Derived.Test.YtmfheghbgihdmaaGreatSpcA
import Derived.Test.YtmfheghbgihdmaaGreatScF
import Derived.Test.YtmfheghbgihdmaaGreatEntry5
namespace Go.Proofs.YtmfheghbgihdmaaGreat
open Go.Addr renaming mk→aMk
open Go.Value renaming int→o,bool→M
open Go.IntKind renaming i64→q
open Go.Lib renaming hid→r
open List renaming getElem?_eq_some_iff→s,getElem?_eq_getElem→F
open Go.Proofs.YtmfheghbgihdmaaGreat.Sc renaming new→D
open Bool renaming false→E,true→V
open Go renaming World→G,Addr→O,bodyPost_ret→Q,Value→T,Calls→U
open Go.Proofs.YtmfheghbgihdmaaGreat.Wc renaming new→I
open Option renaming none→J,some→S
open Tryz
open Go.RowKit
set_option maxRecDepth 100000
def wM:T:= .agg #[o q 0,M E,o q 0,o q 0,o q 0,M E]
theorem tu:jp prog 36 wM 6 48:=⟨by kernel_rfl,rfl,by omega⟩
def Ev.cells(e:Ev):List T:=[o q e.code,M e.fin,o q e.an.fin,o q e.an.frame,o q e.an.rights,M e.back]
theorem mv(e:Ev):e.cells.length=6:=rfl
def mw(l:List Ev):List T:=fZ Ev.cells l
theorem pj(l:List Ev)(e:Ev):mw (l++[e])=mw l++e.cells:=by unfold mw;rw[iC];simp[fZ]
def fO(v:T)(l:List Ev):ae:=cj 36 6 v l.length (mw l)
theorem wl(e:Ev):∀u∈e.cells,u.oneCell'=V:=by
 intro u hu;simp[Ev.cells] at hu;rcases hu with rfl|rfl|rfl|rfl|rfl|rfl<;>rfl
theorem kT{w:G}{R:ae}{A:Option O}{n c:Nat}{l:List Ev}(h:Has w (fO (.slice A n c) l*R)):n=l.length:=by
 rcases(Has.rowCases (e:=36) (size:=6) h) with ⟨hv,h0,_⟩|⟨g,cap,cur,hv,_⟩
 ·injection hv with a b
  omega
 ·injection hv
theorem qo{w:G}{R:ae}{A:Option O}{n c:Nat}{l:List Ev}(h:Has w (fO (.slice A n c) l*R)):n≤9223372036854775807:=by
 obtain rfl:=kT h;exact(Has.rowLens (e:=36) (size:=6) h).2
theorem tv{w:G}{R:ae}{A:Option O}{n c:Nat}{l:List Ev}(h:Has w (fO (.slice A n c) l*R))(k:Nat)(hk:k≤l.length):Arr w A k 6 ((l.take k).map Ev.cells):=by
 obtain rfl:=kT h;have hsm:=qo h;refine⟨by simp;omega,by omega,fun i xs hi=> ?_⟩;have hik:i<k:=by
  have:=(s.1 hi).1;simp at this;omega
 have hil:i<l.length:=by omega
 have hxs:xs=l[i].cells :=by
  rw[List.getElem?_map,List.getElem?_take,if_pos hik,F hil] at hi;exact(Option.some.inj hi).symm
 subst hxs;have g:=fun t (ht:t<6)=>Has.rowGet (e:=36) (size:=6) h (i:=i*6+t) (u:=(l[i].cells[t]'(by rw[mv];exact ht))) (by
  have:=kU (cells:=Ev.cells) mv hil ht;rw[F (l:=l[i].cells) (by rw[mv];exact ht)] at this;exact this)
 obtain⟨b,hb,hbl,_⟩:=g 0 (by omega);refine⟨b,0,hb,hbl,fun j u hj=> ?_⟩;have hj6:j<6:=by
  have:=(s.1 hj).1;rwa [mv] at this
 obtain⟨b',hb',_,c',_⟩:=g j hj6;rw[hb] at hb';injection hb' with hb'
 injection hb' with hb'
 subst hb';rw[Nat.zero_add,c',←hj,F (by rw[mv];exact hj6)]
theorem iV{w:G}{R:ae}{A:Option O}{n c:Nat}{l:List Ev}(h:Has w (fO (.slice A n c) l*R)):Arr w A n 6 (l.map Ev.cells):=by
 obtain rfl:=kT h;have:=tv h l.length (Nat.le_refl _);rwa [List.take_length] at this
theorem Arr.ev{w:G}{A:Option O}{n:Nat}{l:List Ev}(h:Arr w A n 6 (l.map Ev.cells)){i:Nat}(hi:i<l.length):∃b off,A=S (aMk b off J)∧b<w.heap.size∧
  (w.cell? ⟨b,off+i*6,J⟩=S (o q l[i].code)∧w.cell? ⟨b,off+i*6+1,J⟩=S (M l[i].fin)∧w.cell? ⟨b,off+i*6+2,J⟩=S (o q l[i].an.fin)∧w.cell? ⟨b,off+i*6+3,J⟩=S (o q l[i].an.frame)∧
   w.cell? ⟨b,off+i*6+4,J⟩=S (o q l[i].an.rights)∧w.cell? ⟨b,off+i*6+5,J⟩=S (M l[i].back)):=by
 obtain⟨b,off,hb,hbl,hc⟩:=h.at_ (i:=i) (xs:=(l[i]).cells) (by simp[hi]);exact⟨b,off,hb,hbl,hc 0 _ rfl,hc 1 _ rfl,hc 2 _ rfl,hc 3 _ rfl,hc 4 _ rfl,hc 5 _ rfl⟩
theorem Arr.below{w w':G}{A:Option O}{n size:Nat}{ls:List (List T)}(h:Arr w A n size ls)(hb:Below w.heap.size w w'):Arr w' A n size ls:=
 ⟨h.1,h.2.1,fun i xs hi=>by
  obtain⟨b,off,ha,hl,hc⟩:=h.2.2 i xs hi;exact⟨b,off,ha,Nat.lt_of_lt_of_le hl hb.size,fun j u hu=>(hb.cell (p:=⟨b,off+i*size+j,J⟩) hl).trans (hc j u hu)⟩⟩
theorem nJ{w:G}{R:ae}{v:T}{out:List Ev}{x:Ev}(h:Has w (cj 36 6 v (out.length+1) (mw out++x.cells)*R)):∃A c,v= .slice A (out++[x]).length c∧Has w (fO (.slice A (out++[x]).length c) (out++[x])*R):=by
 have hl:(out++[x]).length =out.length+1:=by simp
 have hf:∃A c,v= .slice A (out.length+1) c:=by
  rcases h.rowCases with ⟨hv,hn,_,_⟩|⟨g,cap,cur,hv,_⟩
  ·omega
  ·exact⟨_,_,hv⟩
 obtain⟨A,c,rfl⟩:=hf;refine⟨A,c,by rw[hl],?_⟩;unfold fO;rw[pj,hl];exact h
theorem rn(C N:Int)(hc:C<1∨4<C∨N<1∨128<N)(B:Option O)(m d:Nat)(w:G):
  U prog 44 #[o q C,o q N,.slice B m d] w (Pure (.tuple #[.slice J 0 0,.agg #[o q 1,o q (-1)]]) w):=by
 have h0:=(aM w).new #[o q 0,o q 0] 27;have x0:=(Ext.refl w).alloc (.cells #[o q 0,o q 0] 27);have HN:=r (fun w=>ji C N hc w);clear hc;go_enter func44,ntmps44;go_wp2_with fail
 refine(HN.out _).mono ?_;rintro e w2 ⟨rfl,b2⟩;have h2:Has _ (aa w.heap.size #[o q 0,o q 0] 27*(aa w2.heap.size #[o q 1,o q (-1)] 27*a9 w w.heap.size)):=((h0.below b2).new #[o q 1,o q (-1)] 27).eq (by ac_rfl);have x2:=(x0.below b2).alloc (.cells #[o q 1,o q (-1)] 27);clear h0 x0 b2 HN;go_upto_region 2 with fail;generalize w2.alloc _=w3 at*
 generalize w2.heap.size=Y at*
 obtain⟨c0,c1⟩:=h2.cells2;obtain⟨f0,f1⟩:=h2.frees2;have cl:=h2.lt;obtain⟨d0,d1⟩:=h2.right.cells2;have dl:=h2.right.lt;have h3:=h2.set2 (o q 1) (o q (-1));go_upto_region 3 with fail;go_region
 all_goals
  go_wp2_with fail
  refine ao (fun wz=>Has wz (aa w.heap.size #[o q 1,o q (-1)] 27*(aa Y #[o q 1,o q (-1)] 27*a9 w w.heap.size))∧Ext w wz) ⟨by first|(with_reducible exact h3.drew)|(with_reducible exact h3),ai⟩ ?_;rintro wz ⟨hz,xz⟩;exact Q (dS results44 rfl rfl (cF hz)) rfl ⟨rfl,ap hz.right.right xz⟩
theorem rS(K n:Nat)(h1:1≤K)(h4:K≤4)(hn:1≤n)(hn2:n≤128)(B:Option O)(m d:Nat)(hm:(2000:Int)<m)(w:G):
  U prog 44 #[o q K,o q n,.slice B m d] w (Pure (.tuple #[.slice J 0 0,.agg #[o q 10,o q (-1)]]) w):=by
 have h0:=(aM w).new #[o q 0,o q 0] 27;have x0:=(Ext.refl w).alloc (.cells #[o q 0,o q 0] 27);have HN:=r (fun R w h=>kO K n h1 h4 hn hn2 R w h);go_enter func44,ntmps44;go_wp2_with fail
 refine(HN.out _ _ h0).mono ?_;rintro e w2 ⟨p,sp,rfl,h2,x2⟩;have h3:Has _ (aa w.heap.size #[o q 0,o q 0] 27*(aa w2.heap.size #[o q 0,o q 0] 27*(ar p sp [[]] 0 (List.replicate K 0)*(ah sp (D K n)*a9 w w.heap.size)))):=(h2.new #[o q 0,o q 0] 27).eq (by ac_rfl);have x3:=(x0.trans x2).alloc (.cells #[o q 0,o q 0] 27);clear h0 x0 h2 x2 HN;go_upto_region 2 with fail;generalize w2.alloc _=w3 at*
 generalize w2.heap.size=Y at*
 obtain⟨c0,c1⟩:=h3.cells2;obtain⟨f0,f1⟩:=h3.frees2;have cl:=h3.lt;obtain⟨d0,d1⟩:=h3.right.cells2;have dl:=h3.right.lt;have h5:=h3.set2 (o q 10) (o q (-1));go_wp2_with fail
 refine ao (fun wz=>Has wz (aa w.heap.size #[o q 10,o q (-1)] 27*(aa Y #[o q 0,o q 0] 27*(ar p sp [[]] 0 (List.replicate K 0)*(ah sp (D K n)*a9 w w.heap.size))))∧Ext w wz) ⟨h5,ai⟩ ?_;rintro wz ⟨hz,xz⟩;exact Q (dS results44 rfl rfl (cF hz)) rfl ⟨rfl,ap hz.right.r3 xz⟩
set_option maxHeartbeats 8000000 in
theorem vb(K n:Nat)(h1:1≤K)(h4:K≤4)(hn:1≤n)(hn2:n≤128)(B:Option O)(m d:Nat)(L:List Stp)(w:G)(h2:Arr w B m 9 (L.map Stp.cells))(hLo:∀x∈L,x.ok)(hm:m≤2000):
  U prog 44 #[o q K,o q n,.slice B m d] w fun e w'=>∃A c,e= .returned (.tuple #[.slice A m c,.agg #[o q 0,o q 0]])∧Has w' (fO (.slice A m c) (cL (D K n) L)*a9 w w.heap.size)∧Ext w w':=by
 have hB:=r h2;have hL:=r (show L.length=m by simpa using h2.1);have hLO:=r hLo;have h0:=(aM w).new #[o q 0,o q 0] 27;have x0:=(Ext.refl w).alloc (.cells #[o q 0,o q 0] 27);have HN:=r (fun R w h=>kO K n h1 h4 hn hn2 R w h);have HS0:Hid ((I K n).Ok []):=r (Wc.Ok.new h1 h4 hn hn2);have hm':¬(2000:Int)<m:=by omega
 clear h2 hLo;go_enter func44,ntmps44;go_wp2_with fail
 refine(HN.out _ _ h0).mono ?_;rintro e w2 ⟨p,sp,rfl,h2,x2⟩;have h3:Has _ (aa w.heap.size #[o q 0,o q 0] 27*(aa w2.heap.size #[o q 0,o q 0] 27*(ar p sp [[]] 0 (List.replicate K 0)*(ah sp (D K n)*a9 w w.heap.size)))):=(h2.new #[o q 0,o q 0] 27).eq (by ac_rfl);have x3:=(x0.trans x2).alloc (.cells #[o q 0,o q 0] 27);clear h0 x0 h2 x2 HN;go_upto_region 2 with fail;generalize w2.alloc _=w3 at*
 generalize w2.heap.size=Y at*
 generalize hX:w.heap.size=X at*
 obtain⟨c0,c1⟩:=h3.cells2;have cl:=h3.lt;obtain⟨d0,d1⟩:=h3.right.cells2;have dl:=h3.right.lt;go_upto_region 6 with fail;have h4:Has w3 (fO (.slice J (cL (D K n) (L.take 0)).length 0) (cL (D K n) (L.take 0))*(ar p sp (I K n).H (I K n).f (I K n).since *(ah sp (I K n).σ*(aa X #[o q 0,o q 0] 27*(aa Y #[o q 0,o q 0] 27*a9 w X))))):=Has.rowNil (e:=36) (size:=6) (h3.eq (show _=ar p sp [[]] 0 (List.replicate K 0)*(ah sp (D K n)*(aa X #[o q 0,o q 0] 27*(aa Y #[o q 0,o q 0] 27*a9 w X))) by ac_rfl));have HW0:Hid (I K n=jN (I K n) (L.take 0)):=r rfl;have HL0:Hid ((I K n).H.length ≤1+0):=r (Nat.le_refl _);clear h3 c0 c1 cl d0 d1 dl;go_wp2_with fail
 go_loopw [10,31] (fun t10 t31 wr=>∃(i:Nat) (A:Option O) (c:Nat) (W:Wc) (P:List Mp),i≤m∧t31=o q i∧t10= .slice A (cL (D K n) (L.take i)).length c∧Hid (W.Ok P)∧Hid (W=jN (I K n) (L.take i))∧Hid (W.H.length≤1+i)∧
   Has wr (fO (.slice A (cL (D K n) (L.take i)).length c) (cL (D K n) (L.take i))*(ar p sp W.H W.f W.since*(ah sp W.σ*(aa X #[o q 0,o q 0] 27*(aa Y #[o q 0,o q 0] 27*a9 w X)))))∧Ext w wr) (fun _ t31 _=>m - (intOf t31).toNat)
 case atStart=>exact⟨0,J,0,I K n,[],by omega,rfl,rfl,HS0,HW0,HL0,h4,x3⟩
 case round=>
  clear h4 x3 HS0 HW0 HL0;obtain⟨i,A,c,W1,P1,hi,rfl,rfl,hS1,hW1,hL1,hr,hx⟩:=hrel;obtain⟨out,hout⟩:∃out,cL (D K n) (L.take i)=out:=⟨_,rfl⟩;rw[hout] at hr⊢;have hol:out.length=i:=by rw[←hout,lx,List.length_take,hL.out];omega
  replace hout:=r hout;replace hol:=r hol;by_cases hlt:i<m
  ·have hil:i<L.length:=by have:=hL.out;omega
   obtain⟨b',off,hb,-⟩:=(hB.out.old1 (show Has wr (a9 w w.heap.size) by rw[hX];exact hr.right.right.r3) hx).stp hil;subst hb;obtain⟨y,hy⟩:∃y,L[i]=y:=⟨_,rfl⟩;have hyo:y.ok:=by rw[←hy];exact hLO.out _ (List.getElem_mem hil)
   have HD:=r (fun(w':G) (h:Has w' (a9 w X)) (e:Ext w w')=>(hB.out.old1 (by rw[hX];exact h) e).stpAt hil hy);have hb1:W1.H.length≤999999:=by have:=hL1.out;omega
   have HW:Hid (∀R w,Has w (ar p sp W1.H W1.f W1.since*(ah sp W1.σ*R))→U prog 37 #[.pointer (S (aMk p 0 J)),.agg #[o q y.kind,o q y.core,o q y.m.page,o q y.m.size,o q y.m.frame,o q y.m.rights,o q y.a.page,o q y.a.kind,M y.a.user]] w
     (cN (.tuple #[(W1.act y).2.val,.agg #[o q 0,o q 0]]) (ar p sp (W1.act y).1.H (W1.act y).1.f (W1.act y).1.since*(ah sp (W1.act y).1.σ*R)) w)):=r (fun R w h=>ye p sp W1 P1 y hS1.out hyo hb1 R w h)
   have HS2:Hid ((W1.act y).1.Ok (Safe.prevOf W1.σ P1 y)):=r (hS1.out.act y);have HL2:Hid ((W1.act y).1.H.length≤1+(i+1)):=r (by have:=Wc.hist_len W1 y;have:=hL1.out;omega);have HW2:Hid ((W1.act y).1=jN (I K n) (L.take (i+1))):=r (by rw[kg hil hy,pP,←hW1.out]);have HT2:Hid (cL (D K n) (L.take (i+1))=out++[(W1.act y).2]):=r (by
    rw[kg hil hy,kM,hout.out];show out++[((d9 (I K n).σ (L.take i)).act y).2]=_;rw[←pQ,←hW1.out];rfl)
   unfold Ev.val at HW;clear hS1 hyo hb1 hL1 hW1 hy hout;generalize W1.act y=z at*
   generalize Safe.prevOf W1.σ P1 y=P2 at*
   obtain⟨W2,⟨ec,ef,⟨ea,eb,er⟩,ek⟩⟩:=z;obtain⟨yk,yc,ym,ya⟩:=y;dsimp only at*
   have hlt':(i:Int)<m:=by omega
   have hi0:(0:Int)≤i:=by omega
   obtain⟨dl,d0,d1,d2,d3,d4,d5,d6,d7,d8⟩:=HD.out _ hr.right.right.r3 hx;have h5:Has _ (ar p sp W1.H W1.f W1.since*(ah sp W1.σ*(aa wr.heap.size #[o q yk,o q yc,o q ym.page,o q ym.size,o q ym.frame,o q ym.rights,o q ya.page,o q ya.kind,M ya.user] 43*(fO (.slice A out.length c) out*(aa X #[o q 0,o q 0] 27*(aa Y #[o q 0,o q 0] 27*a9 w X)))))):=(hr.new #[o q yk,o q yc,o q ym.page,o q ym.size,o q ym.frame,o q ym.rights,o q ya.page,o q ya.kind,M ya.user] 43).eq (by ac_rfl);have x5:=hx.alloc (.cells #[o q yk,o q yc,o q ym.page,o q ym.size,o q ym.frame,o q ym.rights,o q ya.page,o q ya.kind,M ya.user] 43);clear hr hx;go_upto_region 10 with fail;generalize wr.alloc _=w4 at*
   generalize wr.heap.size=S0 at*
   clear dl d0 d1 d2 d3 d4 d5 d6 d7 d8;obtain⟨d0,d1,d2,d3,d4,d5,d6,d7,d8⟩:=h5.right.right.cells9;have dl:=h5.right.right.lt;go_wp2_with fail
   refine(HW.out _ _ h5).mono ?_;rintro e w5 ⟨rfl,h6,x6⟩;have h7:Has _ (fO (.slice A out.length c) out*(aa w5.heap.size #[o q ec,M ef,o q ea,o q eb,o q er,M ek] 36*(aa (w5.heap.size+1) #[o q 0,o q 0] 27*(ar p sp W2.H W2.f W2.since*(ah sp W2.σ*(aa S0 #[o q yk,o q yc,o q ym.page,o q ym.size,o q ym.frame,o q ym.rights,o q ya.page,o q ya.kind,M ya.user] 43*(aa X #[o q 0,o q 0] 27*(aa Y #[o q 0,o q 0] 27*a9 w X)))))))):=((h6.new #[o q ec,M ef,o q ea,o q eb,o q er,M ek] 36).new #[o q 0,o q 0] 27).eq (by simp only[World.size_alloc]<;>ac_rfl);have x7:=((x5.trans x6).alloc (.cells #[o q ec,M ef,o q ea,o q eb,o q er,M ek] 36)).alloc (.cells #[o q 0,o q 0] 27);clear h5 x5 h6 x6 HW dl d0 d1 d2 d3 d4 d5 d6 d7 d8 HD;go_upto_region 11 with fail;generalize (w5.alloc (.cells #[o q ec,M ef,o q ea,o q eb,o q er,M ek] 36)).alloc (.cells #[o q 0,o q 0] 27)=w6 at*
   generalize w5.heap.size+1=FX at*
   generalize w5.heap.size=EX at*
   obtain⟨e0,e1,e2,e3,e4,e5⟩:=h7.right.cells6;have el:=h7.right.lt;have f0:=h7.right.right.cell 0;have fl:=h7.right.right.lt;go_upto_region 13 with fail;clear f0 fl;go_wp2_with(at_builtin;refine aN rfl _ _ 95 rfl underlying95 tu _ _ _ rfl (h7.alloc (.cells #[o q ec,M ef,o q ea,o q eb,o q er,M ek] 36)) (aMk w6.heap.size 0 J) 1 1 (⟨ec,ef,⟨ea,eb,er⟩,ek⟩:Ev).cells rfl rfl (dq w6 (⟨ec,ef,⟨ea,eb,er⟩,ek⟩:Ev).cells 36) (wl ⟨ec,ef,⟨ea,eb,er⟩,ek⟩) ?_ ?_ ?_)
   rotate_left;rotate_left
   ·intro v3 w7 h8 x8
    obtain⟨A3,c3,rfl,h9⟩:=nJ h8;have h10:Has w7 (fO (.slice A3 (out++[(⟨ec,ef,⟨ea,eb,er⟩,ek⟩:Ev)]).length c3) (out++[(⟨ec,ef,⟨ea,eb,er⟩,ek⟩:Ev)])*(ar p sp W2.H W2.f W2.since*(ah sp W2.σ*(aa X #[o q 0,o q 0] 27*(aa Y #[o q 0,o q 0] 27*a9 w X))))):=(h9.eq (show _=aa EX #[o q ec,M ef,o q ea,o q eb,o q er,M ek] 36*(aa FX #[o q 0,o q 0] 27*(aa S0 #[o q yk,o q yc,o q ym.page,o q ym.size,o q ym.frame,o q ym.rights,o q ya.page,o q ya.kind,M ya.user] 43*(fO (.slice A3 (out++[(⟨ec,ef,⟨ea,eb,er⟩,ek⟩:Ev)]).length c3) (out++[(⟨ec,ef,⟨ea,eb,er⟩,ek⟩:Ev)])*(ar p sp W2.H W2.f W2.since*(ah sp W2.σ*(aa X #[o q 0,o q 0] 27*(aa Y #[o q 0,o q 0] 27*a9 w X))))))) by ac_rfl)).r3;have x10:=(x7.alloc (.cells #[o q ec,M ef,o q ea,o q eb,o q er,M ek] 36)).trans x8;clear h7 x7 h8 x8 h9 e0 e1 e2 e3 e4 e5 el;go_wp2_with fail
    go_roundw
    case rel=>exact⟨i+1,A3,c3,W2,P2,by omega,by go_num,by rw[HT2.out],HS2,HW2,HL2,by rw[HT2.out];exact h10,x10⟩
    case measure=>simp[intOf];omega
   ·have:=hol.out;unfold maxLen;omega
   ·have:=hol.out;omega
  ·obtain rfl:i=m:=by omega
   have he:out=cL (D K n) L:=by rw[←hout.out,List.take_of_length_le (by rw[hL.out];exact Nat.le_refl _)]
   rw[hol.out] at hr⊢;rw[he] at hr;have h5:Has wr (aa X #[o q 0,o q 0] 27*(fO (.slice A i c) (cL (D K n) L)*(ar p sp W1.H W1.f W1.since*(ah sp W1.σ*(aa Y #[o q 0,o q 0] 27*a9 w X))))):=hr.eq (by ac_rfl);obtain⟨c0,c1⟩:=h5.cells2;obtain⟨f0,f1⟩:=h5.frees2;have cl:=h5.lt;have hF:=r (fun(w':G) (h:Has w' (aa X #[o q 0,o q 0] 27*(fO (.slice A i c) (cL (D K n) L)*(ar p sp W1.H W1.f W1.since*(ah sp W1.σ*(aa Y #[o q 0,o q 0] 27*a9 w X))))))=>(by
    rw[hX];exact(h.eq (show _=aa X #[o q 0,o q 0] 27*(ar p sp W1.H W1.f W1.since*(ah sp W1.σ*(aa Y #[o q 0,o q 0] 27*(fO (.slice A i c) (cL (D K n) L)*a9 w X)))) by ac_rfl)).r4 :Has w' (fO (.slice A i c) (cL (D K n) L)*a9 w w.heap.size)))
   clear hr hS1 hW1 hL1 he hout hol hi hX hm hm';go_wp2_with fail
   refine ao (fun wz=>Has wz (aa X #[o q 0,o q 0] 27*(fO (.slice A i c) (cL (D K n) L)*(ar p sp W1.H W1.f W1.since*(ah sp W1.σ*(aa Y #[o q 0,o q 0] 27*a9 w X)))))∧Ext w wz) ⟨by first|(with_reducible exact h5)|(with_reducible exact h5.set2 _ _),ai⟩ ?_;rintro wz ⟨hz,xz⟩;exact Q (dS results44 rfl rfl (cF hz)) rfl ⟨A,c,rfl,hF.out _ hz,xz⟩
theorem ii(l:List Ev)(A B:Option O)(n c c':Nat)(w:G)(ha:Arr w A n 6 (l.map Ev.cells))(hb:Arr w B n 6 (l.map Ev.cells)):
  U prog 45 #[.slice A n c,.slice B n c'] w (Pure (M V) w):=by
 have hn:=r (show l.length=n by simpa using ha.1);have hsm:=ha.2.1;have HA:=r ha;have HB:=r hb;clear ha hb;go_enter func45,ntmps45;go_wp2_with fail
 go_loopw [5] (fun s5 wr=>∃i:Nat,i≤n∧s5=o q i∧Below w.heap.size w wr) (fun s5 _=>n - (intOf s5).toNat)
 case atStart=>exact⟨0,Nat.zero_le _,rfl,Below.refl _ _⟩
 case round=>
  obtain⟨i,hi,rfl,BW⟩:=hrel;by_cases hlt:i<n
  ·have hil:i<l.length:=by rw[hn.out];exact hlt
   obtain⟨a,oa,hA,la,c0,c1,c2,c3,c4,c5⟩:=(HA.out.below BW).ev hil;obtain⟨b,ob,hB,lb,d0,d1,d2,d3,d4,d5⟩:=(HB.out.below BW).ev hil;subst hA;subst hB;have BW':=r BW;clear BW;generalize l[i]=x at c0 c1 c2 c3 c4 c5 d0 d1 d2 d3 d4 d5;have v0:=ab c0;have v1:=ab c1;have v2:=ab c2;have v3:=ab c3;have v4:=ab c4;have v5:=ab c5;have u0:=ab d0;have u1:=ab d1;have u2:=ab d2;have u3:=ab d3;have u4:=ab d4;have u5:=ab d5;clear c0 c1 c2 c3 c4 c5 d0 d1 d2 d3 d4 d5;have hlt':(i:Int)<n:=by omega
   go_wp2_with fail
   refine aq (by kernel_rfl) (by kernel_rfl) ?_;repeat(first|go_big_quiet_step (fail)|quiet_step (fail))
   refine wpQuiet_nil ?_;intro _ hw';obtain⟨uq,hw''⟩:=hw';subst hw'';go_wp2_with fail
   go_roundw
   case rel=>exact⟨i+1,by omega,by go_num,BW'.out.trans ((aA _ _).mono BW'.out.size)⟩
   case measure=>simp[intOf];omega
  ·go_wp2_with fail
   go_ret;exact⟨rfl,BW⟩
def zo:Stp:=⟨1,0,⟨5,0,9,0⟩,⟨0,0,E⟩⟩
def zp:Stp:=⟨4,0,⟨0,0,0,0⟩,⟨5,0,E⟩⟩
def zq:Stp:=⟨5,1,⟨0,0,0,0⟩,⟨0,0,E⟩⟩
theorem yv{x:Stp}(h:x∈[zo,zp,zq]):x.ok:=by
 simp at h;rcases h with rfl|rfl|rfl<;>(unfold Stp.ok Mp.ok Ac.ok cy;decide)
theorem vc:cL (D 1 4) [zo,zp,zq]=[⟨0,E,⟨0,0,0⟩,V⟩,⟨0,E,⟨0,0,0⟩,E⟩,⟨1,E,⟨0,0,0⟩,E⟩]:=by kernel_rfl
theorem wN{w:G}{R:ae}{b:Nat}(h:Has w (aa b #[o q 1,o q 0,o q 5,o q 0,o q 9,o q 0,o q 0,o q 0,M E,o q 4,o q 0,o q 0,o q 0,o q 0,o q 0,o q 5,o q 0,M E,o q 5,o q 1,o q 0,o q 0,o q 0,o q 0,o q 0,o q 0,M E] 43*R)):Arr w (S (aMk b 0 J)) 3 9 ([zo,zp,zq].map Stp.cells):=by
 refine⟨rfl,by omega,fun i xs hi=>⟨b,0,rfl,h.lt,fun j u hj=> ?_⟩⟩;rw[h.cell];have hi3:i<3:=(s.1 hi).1;rcases(show i=0∨i=1∨i=2 by omega) with rfl|rfl|rfl<;>
  (injection hi with hi
   subst hi;have hj9:j<9:=(s.1 hj).1;rcases(show j=0∨j=1∨j=2∨j=3∨j=4∨j=5∨j=6∨j=7∨j=8 by omega) with rfl|rfl|rfl|rfl|rfl|rfl|rfl|rfl|rfl<;>exact hj)
theorem jC(w:G):U prog 43 #[] w (Pure (M V) w):=by
 have h0:=(aM w).new #[o q 1,o q 0,o q 5,o q 0,o q 9,o q 0,o q 0,o q 0,M E,o q 4,o q 0,o q 0,o q 0,o q 0,o q 0,o q 5,o q 0,M E,o q 5,o q 1,o q 0,o q 0,o q 0,o q 0,o q 0,o q 0,M E] 43;have x0:=(Ext.refl w).alloc (.cells #[o q 1,o q 0,o q 5,o q 0,o q 9,o q 0,o q 0,o q 0,M E,o q 4,o q 0,o q 0,o q 0,o q 0,o q 0,o q 5,o q 0,M E,o q 5,o q 1,o q 0,o q 0,o q 0,o q 0,o q 0,o q 0,M E] 43);have HR:=r (fun d=>vb 1 4 (by omega) (by omega) (by omega) (by omega) (S (aMk w.heap.size 0 J)) 3 d [zo,zp,zq] _ (wN h0) (fun x hx=>yv hx) (by omega));rw[vc] at HR;go_enter func43,ntmps43;go_wp2_with fail
 refine(HR.out _).mono ?_;rintro e w2 ⟨A,c,rfl,h2,x2⟩;have h3:=(h0.onto' h2).new #[o q 0,o q 0] 27;have x3:=(x0.trans x2).alloc (.cells #[o q 0,o q 0] 27);have HE:=iV h3.right;obtain⟨a,oa,hA,la,c0,c1,c2,c3,c4,c5⟩:=HE.ev (i:=0) (by decide);obtain⟨a1,oa1,hA1,-,d0,d1,d2,d3,d4,d5⟩:=HE.ev (i:=1) (by decide);obtain⟨a2,oa2,hA2,-,e0,e1,e2,e3,e4,e5⟩:=HE.ev (i:=2) (by decide);subst hA;injection hA1 with hA1
 injection hA1 with hA1 hO1
 subst hA1;subst hO1;injection hA2 with hA2
 injection hA2 with hA2 hO2
 subst hA2;subst hO2;simp at c0 c1 c2 c3 c4 c5 d0 d1 d2 d3 d4 d5 e0 e1 e2 e3 e4 e5;have f0:=h3.cell 0;have fl:=h3.lt;have hE:=h3.r3;clear h0 x0 HR h2 x2 HE h3;go_wp2_with fail
 go_ret;exact⟨by first|rfl|simp,ap hE x3⟩
end Go.Proofs.YtmfheghbgihdmaaGreat
