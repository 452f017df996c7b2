/- The desk's begin, list, find and kept. -/
import Derived.Test.YtmfheghbgihdmaaGreatDoorDkS
import Derived.Test.YtmfheghbgihdmaaGreatDoorBkIns
import Derived.Test.YtmfheghbgihdmaaGreatDoorScI
namespace Go.Proofs.YtmfheghbgihdmaaGreatDoor
open Option renaming some→C,none→I
open Go.Lib renaming hid→D
open Go.Value renaming int→F,bool→V
open Go.IntKind renaming i64→G
open Go.Addr renaming mk→J
open Go.Proofs.YtmfheghbgihdmaaGreatDoor renaming Has→O,Keeps→ad
open List renaming getElem?_eq_getElem→T,length_append→Z
open Go renaming World→U,Calls→Y,Value→ag
open Go.World renaming size_alloc→af
open Tryz
open Go.RowKit
set_option maxRecDepth 100000
section
variable {w:U} {m:Nat} {R:ab}
theorem po(h:O w R):O w (kh (.pointer I) m I*R):=bZ.2 ⟨rfl,h⟩
theorem pp{p sp:Nat}{W:Wc}{P:List Mp}(hW:W.Ok P)(hm:W.H.length≤m)(h:O w (aE p sp W.H W.f W.since*(ah sp W.σ*R))):O w (kh (jK p) m (C W.σ)*R):=by
 unfold kh;refine aw.2 ⟨p,aw.2 ⟨sp,aw.2 ⟨W,aw.2 ⟨P,?_⟩⟩⟩⟩;rw[aN];exact bZ.2 ⟨⟨rfl,rfl,hW,hm⟩,h.a2⟩
theorem pq{q:ag}{σ:Sc}(h:O w (kh q m (C σ)*R)):∃(p sp:Nat) (W:Wc) (P:List Mp),q=jK p∧W.σ=σ∧W.Ok P∧W.H.length≤m∧O w (aE p sp W.H W.f W.since*(ah sp W.σ*R)):=by
 unfold kh at h;obtain⟨p,h⟩:=aw.1 h;obtain⟨sp,h⟩:=aw.1 h;obtain⟨W,h⟩:=aw.1 h;obtain⟨P,h⟩:=aw.1 h;rw[aN] at h;obtain⟨⟨h1,h2,h3,h4⟩,h⟩:=bZ.1 h;exact⟨p,sp,W,P,h1,h2,h3,h4,h.a1⟩
def ny(d p sp:Nat)(a v:ag)(told:List UInt8)(W:Wc)(R:ab):ab:=
 aE p sp W.H W.f W.since*(ah sp W.σ*(aa d #[a,v,jK p] 47*(bt 5 1 v told.length (Lib.byteCells told)*R)))
theorem eO{d:Nat}{σ:Sc}{told:List UInt8}(h:O w (aG d m (C σ) told*R)):∃(a v:ag) (p sp:Nat) (W:Wc) (P:List Mp),(a= .pointer I∨a=jK d)∧(told=[]→v= .slice I 0 0)∧W.σ=σ∧W.Ok P∧W.H.length≤m∧O w (ny d p sp a v told W R):=by
 obtain⟨a,v,q,ha,hv,h⟩:=eM h;unfold gS at h;obtain⟨p,sp,W,P,rfl,h1,h2,h3,h4⟩:=pq (h.eq (show _=kh q m (C σ)*(aa d #[a,v,q] 47*(bt 5 1 v told.length (Lib.byteCells told)*R)) by ac_rfl));exact⟨a,v,p,sp,W,P,ha,hv,h1,h2,h3,h4⟩
theorem fD{d p sp:Nat}{a v:ag}{told:List UInt8}{W:Wc}{P:List Mp}(ha:a= .pointer I∨a=jK d)(hv:told=[]→v= .slice I 0 0)(hW:W.Ok P)(hm:W.H.length≤m)(h:O w (ny d p sp a v told W R)):O w (aG d m (C W.σ) told*R):=by
 refine gV ha hv (q:=jK p) ?_;unfold gS;exact(pp hW hm h).eq (by ac_rfl)
end
def lT(p:Nat):ag→ab:=fun q=>eZ (q=jK p)
section
variable {w:U} {R:ab} {d p sp m:Nat} {a v:ag} {told:List UInt8} {W:Wc} {P:List Mp}
theorem ul(ha:a= .pointer I∨a=jK d)(hv:told=[]→v= .slice I 0 0)(h:O w (ny d p sp a v told W R)):O w (dG d (lT p) told*(aE p sp W.H W.f W.since*(ah sp W.σ*R))):=by
 refine jU ha hv (q:=jK p) ?_;have h2:O w (lT p (jK p)*ny d p sp a v told W R):=bZ.2 ⟨rfl,h⟩;exact h2.eq (by unfold gS ny;ac_rfl)
theorem qN(hW:W.Ok P)(hm:W.H.length≤m)(h:O w (dG d (lT p) told*(aE p sp W.H W.f W.since*(ah sp W.σ*R)))):O w (aG d m (C W.σ) told*R):=by
 obtain⟨a,v,q,ha,hv,h⟩:=iI h;have h2:O w (lT p q*(aa d #[a,v,q] 47*(bt 5 1 v told.length (Lib.byteCells told)*(aE p sp W.H W.f W.since*(ah sp W.σ*R))))):=h.eq (by unfold gS;ac_rfl);obtain⟨rfl,h3⟩:=bZ.1 h2;exact fD ha hv hW hm (h3.eq (by unfold ny;ac_rfl))
theorem um(h:O w (dG d (lT p) told*R)):d<w.heap.size∧w.cell? (J d 2 I)=C (.pointer (C (J p 0 I))):=by
 obtain⟨a,v,q,ha,hv,h⟩:=iI h;have h2:O w (lT p q*(aa d #[a,v,q] 47*(bt 5 1 v told.length (Lib.byteCells told)*R))):=h.eq (by unfold gS;ac_rfl);obtain⟨rfl,h3⟩:=bZ.1 h2;exact⟨h3.lt,h3.cell 2⟩
end
set_option maxHeartbeats 4000000 in
theorem yF(d m:Nat)(S:Option Sc)(told:List UInt8)(c n:Int)(hm:1≤m)(ht:told.length≤140000000000000)(R:ab)(HK:ad R)(w:U)(h:O w (aG d m S told*R)):
  Y prog 23 #[.pointer (C (J d 0 I)),F G c,F G n] w (cF (.tuple #[]) (aG d m (fN c n).1 (told++(fN c n).2)*R) w):=by
 obtain⟨a,v,q,ha,hv,h⟩:=eM h;unfold gS at h;by_cases hc:1≤c∧c≤4∧1≤n∧n≤128
 ·have hE:fN c n=(C (Sc.new c.toNat n.toNat),bN [.s wa]):=by unfold fN;rw[if_pos hc]
  rw[hE];dsimp only;clear hE;obtain⟨c1,c4,n1,n2⟩:=hc;obtain⟨K,rfl⟩:=Int.eq_ofNat_of_zero_le (show 0≤c by omega);obtain⟨N,rfl⟩:=Int.eq_ofNat_of_zero_le (show 0≤n by omega);have e1:((K:Int)).toNat =K:=Int.toNat_natCast K;have e2:((N:Int)).toNat =N:=Int.toNat_natCast N;rw[e1,e2];have hOk:Hid ((Wc.new K N).Ok []):=D (Wc.Ok.new (by omega) (by omega) (by omega) (by omega));have HN:Hid (∀R w,O w R→Y prog 45 #[F G K,F G N] w fun e w'=>∃b sp,cF (.tuple #[.pointer (C (J b 0 I)),.agg #[F G 0,F G 0]]) (aE b sp (Wc.new K N).H (Wc.new K N).f (Wc.new K N).since *(ah sp (Wc.new K N).σ*R)) w e w'):=D (fun R w h=>yP K N (by omega) (by omega) (by omega) (by omega) R w h);have hH:(Wc.new K N).H.length ≤m:=hm;rw[show Sc.new K N=(Wc.new K N).σ from rfl];clear e1 e2 c1 c4 n1 n2;generalize Wc.new K N=W at*
  obtain⟨out,ho⟩:∃o,told++bN [.s wa]=o:=⟨_,rfl⟩;have HS:=(fun R w hK h=>ji d m (C W.σ) told [.s wa] (by first|assumption|(intro x hx;rw[List.mem_singleton.1 hx];show _≤20;decide)) (by simp) (by simp) ht R hK w h:∀R w,ad R→O w (aG d m (C W.σ) told*R)→_);rw[ho];simp only[ho] at HS;simp only[List.map_cons,List.map_nil,List.length_cons,List.length_nil,Nat.reduceAdd,Pt.val,wa] at HS;replace HS:=D HS;clear ho;go_enter func23,ntmps23;go_wp2_with fail
  refine(HN.out _ _ h).mono ?_;rintro e w2 ⟨p,sp,rfl,h2,x2⟩;have h3:O _ (aa d #[a,v,q] 47*(aa w2.heap.size #[F G 0,F G 0] 33*(aE p sp W.H W.f W.since*(ah sp W.σ*(bt 5 1 v told.length (Lib.byteCells told)*(kh q m S*R)))))):=(h2.new #[F G 0,F G 0] 33).eq (by ac_rfl);have x3:=x2.alloc (.cells #[F G 0,F G 0] 33);clear h h2 x2 HN;go_upto_region 1 with fail;generalize w2.alloc _=w3 at*
  generalize w2.heap.size=X at*
  have f0:=h3.right.cell 0;have fl:=h3.right.lt;obtain⟨c0,c1,c2⟩:=h3.cells3;have k2:=h3.free 2;have cl:=h3.lt;have h4:=h3.set 2 (.pointer (C (J p 0 I)));have x4:=x3.set (J d 2 I) (.pointer (C (J p 0 I)));go_upto_region 5 with fail;have h5:O (w3.setCell (J d 2 I) (.pointer (C (J p 0 I)))) (aG d m (C W.σ) told*(aa X #[F G 0,F G 0] 33*(kh q m S*R))):=fD ha hv hOk.out hH (h4.eq (by
   show aa d #[a,v,jK p] 47*_=_;unfold ny;ac_rfl))
  clear h3 h4 x3 f0 fl c0 c1 c2 k2 cl hOk hH;generalize w3.setCell _ _=w4 at*
  go_wp2_with fail
  (with_reducible refine(HS.out _ _ ((HK.star _).star _) h5).mono ?_);rintro e w6 ⟨rfl,h6,x6⟩
  go_wp2_with fail
  go_end0
  exact⟨rfl,(h6.eq (show _=aa X #[F G 0,F G 0] 33*(kh q m S*(aG d m (C W.σ) out*R)) by ac_rfl)).right.right,x4.trans x6⟩
 ·have hE:fN c n=(I,bN [.s pu,.n 1]):=by unfold fN;rw[if_neg hc]
  rw[hE];dsimp only;clear hE;have HN:=D (fun w=>sN c n (by omega) w);have k1:bX 1:=ce (by decide) (by decide);clear hc;have hok:∀x∈[Pt.s pu,.n 1],x.ok:=fun x hx=>by
   simp only[List.mem_cons,List.not_mem_nil,or_false] at hx;rcases hx with rfl|rfl
   ·show 2≤20;decide
   ·exact k1
  obtain⟨out,ho⟩:∃o,told++bN [.s pu,.n 1]=o:=⟨_,rfl⟩;have HS:=(fun R w hK h=>ji d m (I) told [.s pu,.n 1] (by first|assumption|(intro x hx;rw[List.mem_singleton.1 hx];show _≤20;decide)) (by simp) (by simp) ht R hK w h:∀R w,ad R→O w (aG d m (I) told*R)→_);rw[ho];simp only[ho] at HS;simp only[List.map_cons,List.map_nil,List.length_cons,List.length_nil,Nat.reduceAdd,Pt.val,pu] at HS;replace HS:=D HS;clear ho;clear hok;go_enter func23,ntmps23;go_wp2_with fail
  refine(HN.out _).mono ?_;rintro e w2 ⟨rfl,b2⟩;have h3:O _ (aa d #[a,v,q] 47*(aa w2.heap.size #[F G 1,F G (-1)] 33*(bt 5 1 v told.length (Lib.byteCells told)*(kh q m S*R)))):=((h.below b2).new #[F G 1,F G (-1)] 33).p2;have x3:=((Ext.refl w).below b2).alloc (.cells #[F G 1,F G (-1)] 33);clear h b2 HN;go_upto_region 1 with fail;generalize w2.alloc _=w3 at*
  generalize w2.heap.size=X at*
  obtain⟨c0,c1,c2⟩:=h3.cells3;have k2:=h3.free 2;have cl:=h3.lt;have h4:=h3.set 2 (.pointer I);have x4:=x3.set (J d 2 I) (.pointer I);have f0:=h3.right.cell 0;have fl:=h3.right.lt;go_upto_region 3 with fail;have h5:O (w3.setCell (J d 2 I) (.pointer I)) (aG d m I told*(aa X #[F G 1,F G (-1)] 33*(kh q m S*R))):=gV ha hv (q:= .pointer I) (by
   unfold gS;exact(po (m:=m) (h4.eq (show _=aa d #[a,v,.pointer I] 47*(bt 5 1 v told.length (Lib.byteCells told)*(aa X #[F G 1,F G (-1)] 33*(kh q m S*R))) by
    show aa d #[a,v,.pointer I] 47*_=_;ac_rfl))).eq (by ac_rfl))
  clear h3 h4 x3 c0 c1 c2 k2 cl f0 fl;generalize w3.setCell _ _=w4 at*
  have f0:=h5.right.cell 0;have fl:=h5.right.lt;go_wp2_with fail
  (with_reducible refine(HS.out _ _ ((HK.star _).star _) h5).mono ?_);rintro e w6 ⟨rfl,h6,x6⟩
  clear f0 fl h5;go_wp2_with fail
  go_end0
  exact⟨rfl,(h6.eq (show _=aa X #[F G 1,F G (-1)] 33*(kh q m S*(aG d m I out*R)) by ac_rfl)).right.right,x4.trans x6⟩
theorem ov{α:Type}(f:α→List UInt8){l:List α}{i:Nat}(hi:i<l.length){x:α}(hx:l[i]=x):(l.take (i+1)).flatMap f=(l.take i).flatMap f++f x:=by
 rw[List.take_add_one,List.flatMap_append];simp[hi,hx]
theorem qO{α:Type}{l:List UInt8}(f:α→List UInt8)(c:Nat)(L:List α)(i:Nat)(h:∀x∈L,(f x).length ≤c):(l++(L.take i).flatMap f).length ≤l.length+c*L.length:=by
 have h1:=lV f c (L.take i) (fun x hx=>h x (List.mem_of_mem_take hx));have h2:(L.take i).length ≤L.length:=List.length_take_le' ..;have h3:=Nat.mul_le_mul_left c h2;rw[Z];omega
set_option maxHeartbeats 8000000 in
theorem zL(d m:Nat)(σ:Sc)(told:List UInt8)(ht:told.length≤130000000000000)(R:ab)(HK:ad R)(w:U)(h:O w (aG d m (C σ) told*R)):
  Y prog 49 #[.pointer (C (J d 0 I))] w (cF (.tuple #[]) (aG d m (C σ) (told++lZ (cJ σ.s 0))*R) w):=by
 obtain⟨a,v,p,sp,W,P,ha,hv,rfl,hW,hm,h⟩:=eO h;have hbk:=hW.safe.lk.ok;obtain⟨L,hL⟩:∃L,cJ W.σ.s 0=L:=⟨_,rfl⟩;have HL:=D (fun R w h=>xV sp W.σ hW.safe.wf R w h);have HSH:=D (fun(w':U) (R':ab) (h:O w' (ny d p sp a v told W R'))=>fD ha hv hW hm h);rw[hL] at hbk HL⊢;have HB:=D hbk;obtain⟨n,hN⟩:∃n,L.length=n:=⟨_,rfl⟩;have HN:=D hN;have hn:n≤4096:=hN▸hbk.le;unfold ny at h HSH;obtain⟨pl,p0⟩:=cu h;obtain⟨c0,c1,c2⟩:=h.right.right.cells3;have c3:w.cell? (J d 2 I)=C (.pointer (C (J p 0 I))):=c2;have cl:=h.right.right.lt;rw[hN] at HL;clear hW hm ha hv hL hN hbk c2;generalize W.σ=σ at*
 go_enter func49,ntmps49;go_wp2_with fail
 refine(HL.out _ _ h.p2).mono ?_;rintro e w2 ⟨A,c,rfl,h2,x2⟩;have h3:=HSH.out w2 (cz (.slice A n c) L*R) (h2.eq (by ac_rfl));clear h HL HSH pl p0 c0 c1 c3 cl h2;have h4:O w2 (aG d m (C σ) (told++(L.take 0).flatMap fun m=>bN (gT m))*(cz (.slice A n c) L*R)):=by
  rw[List.take_zero,List.flatMap_nil,List.append_nil];exact h3
 clear h3;go_wp2_with fail
 go_loopw [13] (fun t13 wr=>∃i:Nat,i≤n∧t13=F G i∧O wr (aG d m (C σ) (told++(L.take i).flatMap fun m=>bN (gT m))*(cz (.slice A n c) L*R))∧Ext w wr) (fun t13 _=>n - (intOf t13).toNat)
 case atStart=>exact⟨0,by omega,rfl,h4,x2⟩
 case round=>
  clear h4 x2;obtain⟨i,hi,rfl,hr,hx⟩:=hrel;have hlen:(told++(L.take i).flatMap fun m=>bN (gT m)).length ≤140000000000000:=by
   have:=qO (l:=told) (fun m=>bN (gT m)) 200 L i (fun x hx=>by
    have:=ir (oC (Safe.mapOk_ok (HB.out.chk x hx)));have:(gT x).length =5:=rfl;omega)
   have:=HN.out;omega
  by_cases hlt:i<n
  ·have hil:i<L.length:=by have:=HN.out;omega
   obtain⟨y,hy⟩:∃y,L[i]=y:=⟨_,rfl⟩;have hok:∀x∈gT y,x.ok:=oC (Safe.mapOk_ok (HB.out.chk y (hy▸List.getElem_mem hil)));have HT:Hid ((told++(L.take i).flatMap fun m=>bN (gT m))++bN (gT y)=told++(L.take (i+1)).flatMap fun m=>bN (gT m)):=D (by rw[ov _ hil hy,List.append_assoc]);obtain⟨g,rfl,gl,g0,g1,g2,g3⟩:=fk (hr.eq (av _ _ _)) hil;rw[hy] at g0 g1 g2 g3;generalize (told++(L.take i).flatMap fun m=>bN (gT m))=told2 at*
   obtain⟨told3,hT3⟩:∃z,(told++(L.take (i+1)).flatMap fun m=>bN (gT m))=z:=⟨_,rfl⟩;rw[hT3] at HT;replace hT3:=D hT3;have HS:=(fun R w hK h=>ji d m (C σ) told2 (gT y) hok (by simp[gT]) (by simp[gT]) hlen R hK w h:∀R w,ad R→O w (aG d m (C σ) told2*R)→_);rw[HT.out] at HS;simp only[gT,List.map_cons,List.map_nil,List.length_cons,List.length_nil,Nat.reduceAdd,Pt.val,jX] at HS;replace HS:=D HS;obtain⟨yp,ys,yf,yr⟩:=y;dsimp only at*
   have hlt':(i:Int)<n:=by omega
   have hi0:(0:Int)≤i:=by omega
   have h5:O _ (aG d m (C σ) told2*(aa wr.heap.size #[F G yp,F G ys,F G yf,F G yr] 75*(cz (.slice (C (J g 0 I)) n c) L*R))):=(hr.new #[F G yp,F G ys,F G yf,F G yr] 75).p2;have x5:=hx.alloc (.cells #[F G yp,F G ys,F G yf,F G yr] 75);clear hr hx hok hlen hy HT;go_upto_region 3 with fail;generalize wr.alloc _=w5 at*
   generalize wr.heap.size=X at*
   clear gl g0 g1 g2 g3;obtain⟨d0,d1,d2,d3⟩:=h5.right.cells4;have dl:=h5.right.lt;go_wp2_with fail
   (with_reducible refine(HS.out _ _ ((HK.star _).star _) h5).mono ?_);rintro e w6 ⟨rfl,h6,x6⟩
   have h7:O w6 (aG d m (C σ) told3*(cz (.slice (C (J g 0 I)) n c) L*R)):=(h6.eq (av _ _ _)).right;have x7:=x5.trans x6;clear h5 x5 h6 x6 d0 d1 d2 d3 dl HS;go_wp2_with fail
   go_roundw
   case rel=>exact⟨i+1,by omega,by go_num,by rw[hT3.out];exact h7,x7⟩
   case measure=>simp[intOf];omega
  ·obtain rfl:i=n:=by omega
   have hall:L.take i=L:=List.take_of_length_le (by rw[HN.out];exact Nat.le_refl _);rw[hall] at hr hlen;have HE:Hid (told++(L.flatMap fun m=>bN (gT m))++bN [.s nk]=told++lZ L):=D (List.append_assoc _ _ _);generalize (told++L.flatMap fun m=>bN (gT m))=told2 at*
   have HS:=(fun R w hK h=>ji d m (C σ) told2 [.s nk] (by intro x hx;rw[List.mem_singleton.1 hx];show 3≤20;decide) (by simp) (by simp) hlen R hK w h:∀R w,ad R→O w (aG d m (C σ) told2*R)→_);rw[HE.out] at HS;simp only[List.map_cons,List.map_nil,List.length_cons,List.length_nil,Nat.reduceAdd,Pt.val,nk] at HS;replace HS:=D HS;clear hlen hall HE HB HN hi hlt hn ht;go_wp2_with fail
   (with_reducible refine(HS.out _ _ (HK.star _) hr).mono ?_);rintro e w6 ⟨rfl,h6,x6⟩
   clear HS;go_wp2_with fail
   go_end0
   exact⟨rfl,(h6.eq (av _ _ _)).right,hx.trans x6⟩
theorem xO(b:Bool)(w:U):Y prog 75 #[V b] w (Same (F G (py b)) w):=by
 cases b with
 |true=>
  go_enter func75,ntmps75;go_wp2;go_ret;exact⟨rfl,rfl⟩
 |false=>
  go_enter func75,ntmps75;go_wp2;go_ret;exact⟨rfl,rfl⟩
set_option maxHeartbeats 8000000 in
theorem zM(d m:Nat)(σ:Sc)(told:List UInt8)(k:Int)(ht:told.length≤140000000000000)(R:ab)(HK:ad R)(w:U)(h:O w (aG d m (C σ) told*R)):
  Y prog 47 #[.pointer (C (J d 0 I)),F G k] w (cF (.tuple #[]) (aG d m (C σ) (told++l5 σ k)*R) w):=by
 obtain⟨a,v,p,sp,W,P,ha,hv,rfl,hW,hm,h⟩:=eO h;have HF:=D (fun R w h=>zT sp W.σ R w h k);have HSH:=D (fun(w':U) (R':ab) (h:O w' (ny d p sp a v told W R'))=>fD ha hv hW hm h);have hci:=kq hW.safe k;have hmo:=fun h=>pA (p:=k) hW.safe h;unfold ny at h HSH;obtain⟨pl,p0⟩:=cu h;obtain⟨c0,c1,c2⟩:=h.right.right.cells3;have c3:w.cell? (J d 2 I)=C (.pointer (C (J p 0 I))):=c2;have cl:=h.right.right.lt;unfold l5;unfold Mp.val zX at HF;clear hW hm ha hv c2;generalize hfc:bm W.σ.s 0 k=fc at*
 generalize bJ W.σ.s 0 k=fm at*
 generalize jT W.σ.s 0 k=fe at*
 generalize W.σ=σ at*
 obtain⟨mp,ms,mf,mr⟩:=fm;obtain⟨et,el,er,eu,ed,ef⟩:=fe;dsimp only at*
 by_cases hz:fc=0
 ·subst hz
  rw[if_neg (fun h=>h rfl)];have hok:=nz (e:=⟨et,el,er,eu,ed,ef⟩) (hmo rfl);obtain⟨out,ho⟩:∃o,told++bN (iK ⟨mp,ms,mf,mr⟩ ⟨et,el,er,eu,ed,ef⟩)=o:=⟨_,rfl⟩;have HS:=(fun R w hK h=>ji d m (C σ) told (iK ⟨mp,ms,mf,mr⟩ ⟨et,el,er,eu,ed,ef⟩) hok (by simp[iK]) (by simp[iK]) ht R hK w h:∀R w,ad R→O w (aG d m (C σ) told*R)→_);rw[ho];simp only[ho] at HS;simp only[iK,List.map_cons,List.map_nil,List.length_cons,List.length_nil,Nat.reduceAdd,Pt.val,jX] at HS;replace HS:=D HS;clear hok hmo hci hfc ho;go_enter func47,ntmps47;go_wp2_with fail
  refine(HF.out _ _ h.p2).mono ?_;rintro e w2 ⟨rfl,b2⟩;have h3:O _ (aG d m (C σ) told*(aa w2.heap.size #[F G mp,F G ms,F G mf,F G mr] 75*(aa (w2.heap.size+1) #[V et,V el,F G er,V eu,V ed,F G ef] 81*R))):=(((HSH.out w2 R (h.below b2)).new #[F G mp,F G ms,F G mf,F G mr] 75).new #[V et,V el,F G er,V eu,V ed,F G ef] 81).eq (by simp only[af]<;>ac_rfl);have x3:=((((Ext.refl w).below b2).alloc (.cells #[F G mp,F G ms,F G mf,F G mr] 75)).alloc (.cells #[V et,V el,F G er,V eu,V ed,F G ef] 81));clear h HF HSH b2 pl p0 c0 c1 c3 cl;go_upto_region 3 with fail;generalize (w2.alloc (.cells #[F G mp,F G ms,F G mf,F G mr] 75)).alloc (.cells #[V et,V el,F G er,V eu,V ed,F G ef] 81)=w3 at*
  generalize w2.heap.size+1=E at*
  generalize w2.heap.size=X at*
  have hd:=h3.drew;have xd:=x3.drew;have HC:=D (fun(w':U) (Q:ab) (h:O w' (Q*(aa X #[F G mp,F G ms,F G mf,F G mr] 75*(aa E #[V et,V el,F G er,V eu,V ed,F G ef] 81*R))))=>(by
   obtain⟨a0,a1,a2,a3⟩:=h.right.cells4;exact⟨a0,a1,a2,a3,h.right.right.cell 3,h.right.right.cell 4⟩:w'.cell? (J X 0 I)=C (F G mp)∧w'.cell? (J X 1 I)=C (F G ms)∧w'.cell? (J X 2 I)=C (F G mf)∧w'.cell? (J X 3 I)=C (F G mr)∧w'.cell? (J E 3 I)=C (V eu)∧w'.cell? (J E 4 I)=C (V ed)))
  have xl:=h3.right.lt;have el':=h3.right.right.lt;have hA:=D (fun(o:Obj)=>(h3.alloc o).drew);clear h3 x3;go_region_held3 (fun w'=>w'.cell? (J X 0 I)=C (F G mp)∧w'.cell? (J X 1 I)=C (F G ms)∧w'.cell? (J X 2 I)=C (F G mf)∧w'.cell? (J X 3 I)=C (F G mr)∧w'.cell? (J E 3 I)=C (V eu)∧w'.cell? (J E 4 I)=C (V ed)) (first|(with_reducible exact HC.out _ _ hd)|(with_reducible exact HC.out _ _ (hA.out _))|(with_reducible exact HC.out _ _ hL)|go_keep)
   (first
    |(go_at_call 75;(with_reducible refine(xO _ _).mono ?_);rintro e w5 ⟨rfl,rfl⟩)
    |(go_at_call 22;(refine(HS.out _ _ ((HK.star _).star _) hd).mono ?_);rintro e w5 ⟨rfl,hL,xL⟩))
  all_goals
   go_wp2_with fail
   go_end0
   exact⟨rfl,(hL.eq (show _=aa X #[F G mp,F G ms,F G mf,F G mr] 75*(aa E #[V et,V el,F G er,V eu,V ed,F G ef] 81*(aG d m (C σ) out*R)) by ac_rfl)).right.right,xd.trans xL⟩
 ·rw[if_pos hz]
  have hok:∀x∈[Pt.s pu,.n fc],x.ok:=fun x hx=>by
   simp only[List.mem_cons,List.not_mem_nil,or_false] at hx;rcases hx with rfl|rfl
   ·show 2≤20;decide
   ·exact hci
  obtain⟨out,ho⟩:∃o,told++bN [.s pu,.n fc]=o:=⟨_,rfl⟩;have HS:=(fun R w hK h=>ji d m (C σ) told [.s pu,.n fc] (by first|assumption|(intro x hx;rw[List.mem_singleton.1 hx];show _≤20;decide)) (by simp) (by simp) ht R hK w h:∀R w,ad R→O w (aG d m (C σ) told*R)→_);rw[ho];simp only[ho] at HS;simp only[List.map_cons,List.map_nil,List.length_cons,List.length_nil,Nat.reduceAdd,Pt.val,pu] at HS;replace HS:=D HS;clear ho;have hz':(fc !=0)=true:=by simpa using hz
  clear hok hmo hci hfc hz;go_enter func47,ntmps47;go_wp2_with fail
  refine(HF.out _ _ h.p2).mono ?_;rintro e w2 ⟨rfl,b2⟩;have h3:O _ (aG d m (C σ) told*(aa w2.heap.size #[F G mp,F G ms,F G mf,F G mr] 75*(aa (w2.heap.size+1) #[V et,V el,F G er,V eu,V ed,F G ef] 81*R))):=(((HSH.out w2 R (h.below b2)).new #[F G mp,F G ms,F G mf,F G mr] 75).new #[V et,V el,F G er,V eu,V ed,F G ef] 81).eq (by simp only[af]<;>ac_rfl);have x3:=((((Ext.refl w).below b2).alloc (.cells #[F G mp,F G ms,F G mf,F G mr] 75)).alloc (.cells #[V et,V el,F G er,V eu,V ed,F G ef] 81));clear h HF HSH b2 pl p0 c0 c1 c3 cl;go_upto_region 2 with fail;generalize (w2.alloc (.cells #[F G mp,F G ms,F G mf,F G mr] 75)).alloc (.cells #[V et,V el,F G er,V eu,V ed,F G ef] 81)=w3 at*
  generalize w2.heap.size+1=E at*
  generalize w2.heap.size=X at*
  go_wp2_with fail
  (with_reducible refine(HS.out _ _ ((HK.star _).star _) h3).mono ?_);rintro e w5 ⟨rfl,hL,xL⟩
  go_wp2_with fail
  go_end0
  exact⟨rfl,(hL.eq (show _=aa X #[F G mp,F G ms,F G mf,F G mr] 75*(aa E #[V et,V el,F G er,V eu,V ed,F G ef] 81*(aG d m (C σ) out*R)) by ac_rfl)).right.right,x3.trans xL⟩
theorem rG{σ:Sc}{P:List Mp}(h:Safe σ P)(k:Int):(∀x∈σ.kept k,x.m.ok)∧(σ.kept k).length ≤6:=by
 unfold Sc.kept;split
 ·have:=(Sc.core_ok h.ok k.toNat).1
  exact⟨fun x hx=>Safe.mapOk_ok (dL (this.chk x hx)),this.len⟩
 ·exact⟨fun x hx=>(by cases hx),Nat.zero_le _⟩
set_option maxHeartbeats 8000000 in
theorem zN(d m:Nat)(σ:Sc)(told:List UInt8)(k:Int)(ht:told.length≤130000000000000)(R:ab)(HK:ad R)(w:U)(h:O w (aG d m (C σ) told*R)):
  Y prog 48 #[.pointer (C (J d 0 I)),F G k] w (cF (.tuple #[]) (aG d m (C σ) (told++pz (σ.kept k))*R) w):=by
 obtain⟨a,v,p,sp,W,P,ha,hv,rfl,hW,hm,h⟩:=eO h;obtain⟨hbk,hle⟩:=rG hW.safe k;obtain⟨L,hL⟩:∃L,W.σ.kept k=L:=⟨_,rfl⟩;have HL:=D (fun R w h=>zU sp W.σ hW.safe.ok k R w h);have HSH:=D (fun(w':U) (R':ab) (h:O w' (ny d p sp a v told W R'))=>fD ha hv hW hm h);rw[hL] at hbk hle HL⊢;have HB:=D hbk;obtain⟨n,hN⟩:∃n,L.length=n:=⟨_,rfl⟩;have HN:=D hN;have hn:n≤6:=hN▸hle;unfold ny at h HSH;obtain⟨pl,p0⟩:=cu h;obtain⟨c0,c1,c2⟩:=h.right.right.cells3;have c3:w.cell? (J d 2 I)=C (.pointer (C (J p 0 I))):=c2;have cl:=h.right.right.lt;rw[hN] at HL;clear hW hm ha hv hL hN hbk c2 hle;generalize W.σ=σ at*
 go_enter func48,ntmps48;go_wp2_with fail
 refine(HL.out _ _ h.p2).mono ?_;rintro e w2 ⟨A,c,rfl,h2,x2⟩;have h3:=HSH.out w2 (dM (.slice A n c) L*R) (h2.eq (by ac_rfl));clear h HL HSH pl p0 c0 c1 c3 cl h2;have h4:O w2 (aG d m (C σ) (told++(L.take 0).flatMap fun m=>bN (eo m))*(dM (.slice A n c) L*R)):=by
  rw[List.take_zero,List.flatMap_nil,List.append_nil];exact h3
 clear h3;go_wp2_with fail
 go_loopw [16] (fun t13 wr=>∃i:Nat,i≤n∧t13=F G i∧O wr (aG d m (C σ) (told++(L.take i).flatMap fun m=>bN (eo m))*(dM (.slice A n c) L*R))∧Ext w wr) (fun t13 _=>n - (intOf t13).toNat)
 case atStart=>exact⟨0,by omega,rfl,h4,x2⟩
 case round=>
  clear h4 x2;obtain⟨i,hi,rfl,hr,hx⟩:=hrel;have hlen:(told++(L.take i).flatMap fun m=>bN (eo m)).length ≤140000000000000:=by
   have:=qO (l:=told) (fun m=>bN (eo m)) 200 L i (fun x hx=>by
    have:=ir (l8 (HB.out x hx));have:(eo x).length =6:=rfl;omega)
   have:=HN.out;omega
  by_cases hlt:i<n
  ·have hil:i<L.length:=by have:=HN.out;omega
   obtain⟨y,hy⟩:∃y,L[i]=y:=⟨_,rfl⟩;have hok:∀x∈eo y,x.ok:=l8 (HB.out y (hy▸List.getElem_mem hil));have HT:Hid ((told++(L.take i).flatMap fun m=>bN (eo m))++bN (eo y)=told++(L.take (i+1)).flatMap fun m=>bN (eo m)):=D (by rw[ov _ hil hy,List.append_assoc]);obtain⟨g,rfl,gl,⟨g0,g1,g2,g3,g4⟩,-⟩:=iQ (hr.eq (av _ _ _)) hil;rw[hy] at g0 g1 g2 g3 g4;generalize (told++(L.take i).flatMap fun m=>bN (eo m))=told2 at*
   obtain⟨told3,hT3⟩:∃z,(told++(L.take (i+1)).flatMap fun m=>bN (eo m))=z:=⟨_,rfl⟩;rw[hT3] at HT;replace hT3:=D hT3;have HS:=(fun R w hK h=>ji d m (C σ) told2 (eo y) hok (by simp[eo]) (by simp[eo]) hlen R hK w h:∀R w,ad R→O w (aG d m (C σ) told2*R)→_);rw[HT.out] at HS;simp only[eo,List.map_cons,List.map_nil,List.length_cons,List.length_nil,Nat.reduceAdd,Pt.val,xS] at HS;replace HS:=D HS;obtain⟨⟨yp,ys,yf,yr⟩,yd⟩:=y;dsimp only at*
   have hlt':(i:Int)<n:=by omega
   have hi0:(0:Int)≤i:=by omega
   have h5:O _ (aG d m (C σ) told2*(aa wr.heap.size #[F G yp,F G ys,F G yf,F G yr,V yd] 150*(dM (.slice (C (J g 0 I)) n c) L*R))):=(hr.new #[F G yp,F G ys,F G yf,F G yr,V yd] 150).p2;have x5:=hx.alloc (.cells #[F G yp,F G ys,F G yf,F G yr,V yd] 150);clear hr hx hok hlen hy HT;go_upto_region 3 with fail;generalize wr.alloc _=w5 at*
   generalize wr.heap.size=X at*
   clear gl g0 g1 g2 g3 g4;have hd:=h5.drew;have xd:=x5.drew;have HC:=D (fun(w':U) (Q:ab) (h:O w' (Q*(aa X #[F G yp,F G ys,F G yf,F G yr,V yd] 150*(dM (.slice (C (J g 0 I)) n c) L*R))))=>(h.right.cells5:w'.cell? (J X 0 I)=C (F G yp)∧w'.cell? (J X 1 I)=C (F G ys)∧w'.cell? (J X 2 I)=C (F G yf)∧w'.cell? (J X 3 I)=C (F G yr)∧w'.cell? (J X 4 I)=C (V yd)));have dl:=h5.right.lt;have hA:=D (fun(o:Obj)=>(h5.alloc o).drew);clear h5 x5;go_region_held3 (fun w'=>w'.cell? (J X 0 I)=C (F G yp)∧w'.cell? (J X 1 I)=C (F G ys)∧w'.cell? (J X 2 I)=C (F G yf)∧w'.cell? (J X 3 I)=C (F G yr)∧w'.cell? (J X 4 I)=C (V yd)) (first|(with_reducible exact HC.out _ _ hd)|(with_reducible exact HC.out _ _ (hA.out _))|(with_reducible exact HC.out _ _ hL)|go_keep)
    (first
     |(go_at_call 75;(with_reducible refine(xO _ _).mono ?_);rintro e w6 ⟨rfl,rfl⟩)
     |(go_at_call 22;(refine(HS.out _ _ ((HK.star _).star _) hd).mono ?_);rintro e w6 ⟨rfl,hL,xL⟩))
   all_goals
    have h7:O w6 (aG d m (C σ) told3*(dM (.slice (C (J g 0 I)) n c) L*R)):=(hL.eq (av _ _ _)).right;have x7:=xd.trans xL;clear hd xd hL xL dl HS hA HC;go_wp2_with fail
    go_roundw
    case rel=>exact⟨i+1,by omega,by go_num,by rw[hT3.out];exact h7,x7⟩
    case measure=>simp[intOf];omega
  ·obtain rfl:i=n:=by omega
   have hall:L.take i=L:=List.take_of_length_le (by rw[HN.out];exact Nat.le_refl _);rw[hall] at hr hlen;have HE:Hid (told++(L.flatMap fun m=>bN (eo m))++bN [.s nk]=told++pz L):=D (List.append_assoc _ _ _);generalize (told++L.flatMap fun m=>bN (eo m))=told2 at*
   have HS:=(fun R w hK h=>ji d m (C σ) told2 [.s nk] (by intro x hx;rw[List.mem_singleton.1 hx];show 3≤20;decide) (by simp) (by simp) hlen R hK w h:∀R w,ad R→O w (aG d m (C σ) told2*R)→_);rw[HE.out] at HS;simp only[List.map_cons,List.map_nil,List.length_cons,List.length_nil,Nat.reduceAdd,Pt.val,nk] at HS;replace HS:=D HS;clear hlen hall HE HB HN hi hlt hn ht;go_wp2_with fail
   (with_reducible refine(HS.out _ _ (HK.star _) hr).mono ?_);rintro e w6 ⟨rfl,h6,x6⟩
   clear HS;go_wp2_with fail
   go_end0
   exact⟨rfl,(h6.eq (av _ _ _)).right,hx.trans x6⟩
theorem Has.rowSmall'{w:U}{R:ab}{A:Option Addr}{c:Nat}{l:List Nat}{n:Nat}(h:O w (cV (.slice A n c) l*R)):n≤9223372036854775807:=by
 obtain rfl:=oW h;rcases(Has.rowCases (e:=139) (size:=1) h) with ⟨hv,h0,_⟩|⟨g,cap,cur,hv,hn,hc,_⟩
 ·omega
 ·unfold maxLen at hc;omega
theorem yH(l:List Mp)(A B:Option Addr)(n c n' c':Nat)(R:ab)(w:U)(h:O w (cz (.slice A n c) l*(cz (.slice B n' c') l*R))):
  Y prog 117 #[.slice A n c,.slice B n' c'] w (Pure (V true) w):=by
 have hn:=dt h;have hn':=dt h.right;subst hn;subst hn';have hbig:=gH h;go_enter func117,ntmps117;go_wp2_with fail
 go_loopw [13] (fun s5 wr=>∃i:Nat,i≤l.length∧s5=F G i∧Below w.heap.size w wr) (fun s5 _=>l.length - (intOf s5).toNat)
 case atStart=>exact⟨0,Nat.zero_le _,rfl,Below.refl _ _⟩
 case round=>
  obtain⟨i,hi,rfl,BW⟩:=hrel;have h':=h.below BW;clear h;have BW':=D BW;clear BW;by_cases hlt:i<l.length
  ·obtain⟨b,rfl,hb,c0,c1,c2,c3⟩:=fk h' hlt
   obtain⟨b',rfl,hb',d0,d1,d2,d3⟩:=fk h'.right hlt;clear h';generalize l[i]=x at c0 c1 c2 c3 d0 d1 d2 d3;have v0:=am c0;have v1:=am c1;have v2:=am c2;have v3:=am c3;have u0:=am d0;have u1:=am d1;have u2:=am d2;have u3:=am d3;clear c0 c1 c2 c3 d0 d1 d2 d3;go_wp2_with fail
   refine aI (by kernel_rfl) (by kernel_rfl) ?_;repeat(first|go_big_quiet_step (fail)|quiet_step (fail))
   refine wpQuiet_nil ?_;intro _ hw';obtain⟨uq,hw''⟩:=hw';subst hw'';go_wp2_with fail
   go_roundw
   case rel=>exact⟨i+1,by omega,by go_num,BW'.out.trans ((aV _ _).mono BW'.out.size)⟩
   case measure=>simp[intOf];omega
  ·go_wp2_with fail
   go_ret;exact⟨rfl,BW'.out⟩
theorem xR(b sp:Nat)(H:List (List Mp))(f:Nat)(since:List Int)(y:Wl)(p k:Nat)(hk:H.length=k+1)(hy:y.bs.length=H.length)(hp:y.bs[k]? =C p)(R:ab)(w:U)(h:O w (cB b sp H f since y R)):
  Y prog 118 #[.pointer (C (J b 0 I))] w (Pure (.pointer (C (J p 0 I))) w):=by
 unfold cB at h;obtain⟨bA,hA,lA,cA⟩:=oc h.right hp;have c1:=h.cell 1;have hbs:=Has.rowSmall' h.right;rw[hA,hy,hk] at c1;rw[hy,hk] at hbs;have v1:=am c1;have vA:=am cA;have hkk:IntKind.i64.wrap (((k+1:Nat):Int) - 1)=(k:Int):=by
  rw[IntKind.wrap_i64];omega
 clear h c1 cA hA hy hp hk;go_enter func118,ntmps118;go_wp2_with fail
 refine aI (by kernel_rfl) (by kernel_rfl) ?_;repeat(first|go_big_quiet_step (fail)|quiet_step (fail))
 refine wpQuiet_nil ?_;intro _ hw';obtain⟨uq,hw''⟩:=hw';subst hw'';go_wp2_with fail
 go_ret;exact⟨rfl,aV _ _⟩
theorem un{H:List (List Mp)}{L:List Mp}(h:H.getLast?=C L):∃k,H.length=k+1∧H[k]? =C L∧H.getLastD []=L:=by
 rw[List.getLast?_eq_getElem?] at h;have hne:H.length≠0:=by
  intro e;rw[List.length_eq_zero_iff.1 e] at h;cases h
 refine⟨H.length - 1,by omega,h,?_⟩;rw[List.getLastD_eq_getLast?,List.getLast?_eq_getElem?,h];rfl
theorem uo(q:Nat):∀u∈([.pointer (C (J q 0 I))]:List ag),u.oneCell'=true:=by
 intro u hu;simp at hu;subst hu;rfl
set_option maxHeartbeats 4000000 in
theorem wI(b sp:Nat)(H:List (List Mp))(f:Nat)(since:List Int)(x:Stp)(L:List Mp)(hx:1≤x.kind∧x.kind≤3)(hxo:x.ok)(hL:H.getLast?=C L)(hLo:Bk.Ok L)(hH:H.length≤1000000)(R:ab)(w:U)(h:O w (aE b sp H f since*R)):
  Y prog 116 #[.pointer (C (J b 0 I)),.agg #[F G x.kind,F G x.core,F G x.m.page,F G x.m.size,F G x.m.frame,F G x.m.rights,F G x.a.page,F G x.a.kind,V x.a.user]] w
   (cF (.tuple #[]) (aE b sp (H++[cW (H.getLastD []) x 0]) f since*R) w):=by
 obtain⟨k,hk,hkL,hLD⟩:=un hL;obtain⟨y,hy,h⟩:=dV h;obtain⟨yA,yc,ybs,yG,yd,yz⟩:=y;dsimp only at*
 have hkb:k<ybs.length:=by omega
 obtain⟨p,hp⟩:∃p,ybs[k]? =C p:=⟨ybs[k],T hkb⟩;obtain⟨Q,hQ⟩:=kj hp hkL;have h0:O _ (cB b sp H f since ⟨yA,yc,ybs,yG,yd,yz⟩ (aa w.heap.size #[F G x.kind,F G x.core,F G x.m.page,F G x.m.size,F G x.m.frame,F G x.m.rights,F G x.a.page,F G x.a.kind,V x.a.user] 79*R)):=(h.new #[F G x.kind,F G x.core,F G x.m.page,F G x.m.size,F G x.m.frame,F G x.m.rights,F G x.a.page,F G x.a.kind,V x.a.user] 79).eq (by unfold cB;ac_rfl);have x0:=(Ext.refl w).alloc (.cells #[F G x.kind,F G x.core,F G x.m.page,F G x.m.size,F G x.m.frame,F G x.m.rights,F G x.a.page,F G x.a.kind,V x.a.user] 79);have HLW:=D (fun R w h=>xR b sp H f since ⟨yA,yc,ybs,yG,yd,yz⟩ p k hk hy hp R w h);have HCP:=D (fun R w h=>zE p L R w (by have:=hLo.le;omega) h);have hNo:=p6 hLo x 0;rw[hLD];have hxp:=hxo.2.2.1.1;have HAD:=D (fun q (h1:x.kind=1) R w h=>(show cW L x 0=Bk.add L x.m from by unfold cW;simp[h1])▸AF q L x.m R w hLo hxp h);have HDR:=D (fun q (h2:x.kind=2) R w h=>(show cW L x 0=Bk.dropL L x.m.page from by unfold cW;simp[h2])▸zG q L x.m.page R w hLo hxp h);have HPR:=D (fun q (h3:x.kind=3) R w h=>(show cW L x 0=Bk.protL L x.m.page x.m.rights from by unfold cW;simp[h3])▸tQ q L x.m.page x.m.rights R w hLo hxp h);generalize cW L x 0=L2 at*
 unfold cB at HLW h0;dsimp only at HLW h0;have HSN:=D (fun q=>lC ybs H q L2 hy);have HB:=D hQ;have HY:=D hy;have hyl:ybs.length≤1000000:=by omega
 clear h hLo hL hkL hLD hNo hxo hk hy hQ hp hkb hH hxp;obtain⟨kx,cx,mx,ax⟩:=x;dsimp only at*
 have k0:=h0.right.r3.cell 0;have kl:=h0.right.r3.lt;go_enter func116,ntmps116;go_wp2_with fail
 refine(HLW.out _ _ h0).mono ?_;rintro e w2 ⟨rfl,b2⟩;have x2:=x0.below b2;have h2:O w2 (aX p L*(aa b #[.pointer (C (J sp 0 I)),.slice yA ybs.length yc,F G f,.slice yG since.length yd,F G 0,F G 0,F G yz] 143*(cV (.slice yA ybs.length yc) ybs*(aq (.slice yG since.length yd) since*(Q*(aa w.heap.size #[F G kx,F G cx,F G mx.page,F G mx.size,F G mx.frame,F G mx.rights,F G ax.page,F G ax.kind,V ax.user] 79*R)))))):=(h0.below b2).eq (by rw[HB.out];ac_rfl);clear h0 x0 b2 HLW k0 kl;go_wp2_with fail
 refine(HCP.out _ _ h2).mono ?_;rintro e w3 ⟨q,rfl,h3,x3⟩;have x4:=x2.trans x3;have h4:O w3 (aX q L*(aa b #[.pointer (C (J sp 0 I)),.slice yA ybs.length yc,F G f,.slice yG since.length yd,F G 0,F G 0,F G yz] 143*(cV (.slice yA ybs.length yc) ybs*(aq (.slice yG since.length yd) since*(aS ybs H*(aa w.heap.size #[F G kx,F G cx,F G mx.page,F G mx.size,F G mx.frame,F G mx.rights,F G ax.page,F G ax.kind,V ax.user] 79*R)))))):=h3.eq (by rw[HB.out];ac_rfl);clear h2 x2 h3 x3 HCP HB;obtain⟨k0,-,k2,k3,k4,k5,-,-,-⟩:=h4.right.right.r3.cells9;have kl:=h4.right.right.r3.lt;go_upto_block 0 with fail
 go_cut [] from 10 to 32 (fun wx=>O wx (aX q L2*(aa b #[.pointer (C (J sp 0 I)),.slice yA ybs.length yc,F G f,.slice yG since.length yd,F G 0,F G 0,F G yz] 143*(cV (.slice yA ybs.length yc) ybs*(aq (.slice yG since.length yd) since*(aS ybs H*(aa w.heap.size #[F G kx,F G cx,F G mx.page,F G mx.size,F G mx.frame,F G mx.rights,F G ax.page,F G ax.kind,V ax.user] 79*R))))))∧Ext w wx)
 case first=>
  clear HSN HY;by_cases k1:kx=1
  ·have HA:=D (fun R w h=>HAD.out q k1 R w h)
   subst k1;clear HAD HDR HPR;go_wp2_with fail
   refine(HA.out _ _ h4).mono ?_;rintro e w5 ⟨rfl,h5,x5⟩;go_wp2_with fail
   go_meet
   case rel=>exact⟨h5,x4.trans x5⟩
  by_cases k2':kx=2
  ·have HA:=D (fun R w h=>HDR.out q k2' R w h)
   subst k2';clear HAD HDR HPR;go_wp2_with fail
   refine(HA.out _ _ h4).mono ?_;rintro e w5 ⟨rfl,h5,x5⟩;go_wp2_with fail
   go_meet
   case rel=>exact⟨h5,x4.trans x5⟩
  ·have k3':kx=3:=by omega
   have HA:=D (fun R w h=>HPR.out q k3' R w h);subst k3';clear HAD HDR HPR;go_wp2_with fail
   refine(HA.out _ _ h4).mono ?_;rintro e w5 ⟨rfl,h5,x5⟩;go_wp2_with fail
   go_meet
   case rel=>exact⟨h5,x4.trans x5⟩
 case rest=>
  obtain⟨h5,x5⟩:=hcut;clear h4 x4 k0 k2 k3 k4 k5 kl HAD HDR HPR;have c1:=h5.right.cell 1;have cl:=h5.right.lt;have h6:O _ (cV (.slice yA ybs.length yc) ybs*(aa b #[.pointer (C (J sp 0 I)),.slice yA ybs.length yc,F G f,.slice yG since.length yd,F G 0,F G 0,F G yz] 143*(aq (.slice yG since.length yd) since*((aX q L2*aS ybs H)*(aa w.heap.size #[F G kx,F G cx,F G mx.page,F G mx.size,F G mx.frame,F G mx.rights,F G ax.page,F G ax.kind,V ax.user] 79*R))))):=h5.eq (by ac_rfl);clear h5;go_wp2_with(at_builtin;(refine a8 rfl _ _ 141 rfl underlying141 yq _ _ _ rfl (h6.alloc _) (J wc.heap.size 0 I) 1 1 [.pointer (C (J q 0 I))] rfl rfl (fj _ _ _) ?c1 ?c2 ?c3 ?_))
  case c1=>exact uo _
  case c2=>unfold maxLen;omega
  case c3=>omega
  intro v9 w9 h9 x9;obtain⟨A',c',rfl⟩:=Has.rowForm (e:=139) (size:=1) h9;have y2:=h9.right.cell 1;have yf:=h9.right.free 1;have yl:=h9.right.lt;have h10:O (w9.setCell (J b 1 I) (.slice A' (ybs.length+1) c')) (aE b sp (H++[L2]) f since*R):=by
   have h12:=(h9.p2.set 1 (.slice A' (ybs.length+1) c'));have h13:O _ (aa b #[.pointer (C (J sp 0 I)),.slice A' (ybs.length+1) c',F G f,.slice yG since.length yd,F G 0,F G 0,F G yz] 143*(cV (.slice A' (ybs++[q]).length c') (ybs++[q])*(aq (.slice yG since.length yd) since*(aS (ybs++[q]) (H++[L2])*(aa w.heap.size #[F G kx,F G cx,F G mx.page,F G mx.size,F G mx.frame,F G mx.rights,F G ax.page,F G ax.kind,V ax.user] 79*R))))):=h12.eq (by
    rw[HSN.out q];unfold cV;rw[Z,List.map_append];show _*(bt 139 1 (.slice A' (ybs.length+1) c') (ybs.length+1) (ybs.map jK++[.pointer (C (J q 0 I))])*_)=_*(bt 139 1 (.slice A' (ybs.length+1) c') (ybs.length+1) (ybs.map jK++[.pointer (C (J q 0 I))])*_);ac_rfl)
   have h14:=dW (b:=b) (sp:=sp) (H:=H++[L2]) (f:=f) (since:=since) (y:=⟨A',c',ybs++[q],yG,yd,yz⟩) (R:=aa w.heap.size #[F G kx,F G cx,F G mx.page,F G mx.size,F G mx.frame,F G mx.rights,F G ax.page,F G ax.kind,V ax.user] 79*R) (by simp[HY.out]) (by
    unfold cB;dsimp only;rw[Z] at h13⊢;exact h13)
   exact(h14.eq (show _=aa w.heap.size #[F G kx,F G cx,F G mx.page,F G mx.size,F G mx.frame,F G mx.rights,F G ax.page,F G ax.kind,V ax.user] 79*(aE b sp (H++[L2]) f since*R) by ac_rfl)).right
  have x10:=((x5.alloc (.cells #[.pointer (C (J q 0 I))] 139)).trans x9).set (J b 1 I) (.slice A' (ybs.length+1) c');clear h9 h6 x9 x5 c1 cl HSN HY;go_wp2_with fail
  exact bodyPost_ret (v:= .tuple #[]) (by simp[results,results116]) rfl ⟨rfl,h10,x10⟩
theorem yI(p XA XR:Nat)(L:List Mp)(a:Ac)(r:An)(hl:Bk.Ok L)(ha:bX a.page)(R:ab)(w:U)(h:O w (aX p L*(aa XA #[F G a.page,F G a.kind,V a.user] 77*(aa XR #[F G r.fin,F G r.frame,F G r.rights] 70*R)))):
  Y prog 157 #[.pointer (C (J p 0 I)),.pointer (C (J XA 0 I)),.pointer (C (J XR 0 I))] w (Pure (V (decide (Bk.ans L a=r))) w):=by
 have HA:=D (fun u=>we p L a _ _ hl ha (h.via u));obtain⟨c0,c1,c2⟩:=h.right.cells3;obtain⟨d0,d1,d2⟩:=h.right.right.cells3;have v0:=am c0;have v1:=am c1;have v2:=am c2;have u0:=am d0;have u1:=am d1;have u2:=am d2;unfold An.val at HA;clear h c0 c1 c2 d0 d1 d2;obtain⟨r0,r1,r2⟩:=r;dsimp only at*
 generalize Bk.ans L a=z at*
 obtain⟨z0,z1,z2⟩:=z;dsimp only at*
 by_cases he:(⟨z0,z1,z2⟩:An)=⟨r0,r1,r2⟩
 ·rw[decide_eq_true he]
  injection he with e0 e1 e2
  subst e0;subst e1;subst e2;go_enter func157,ntmps157;go_wp2_with fail
  refine aI (by kernel_rfl) (by kernel_rfl) ?_;repeat(first|go_big_quiet_step ((go_at_call 158;exact Pure.via (HA.out _)))|quiet_step ((go_at_call 158;exact Pure.via (HA.out _))))
  refine wpQuiet_nil ?_;intro _ hw';obtain⟨uq,hw''⟩:=hw';subst hw'';go_wp2_with fail
  go_ret;exact⟨by simp,aV _ _⟩
 ·rw[decide_eq_false he]
  have hd:(z0==r0)=false∨(z1==r1)=false∨(z2==r2)=false:=by
   by_cases e0:z0=r0
   ·by_cases e1:z1=r1
    ·right;right
     have:z2≠r2:=fun e2=>he (by rw[e0,e1,e2]);simpa using this
    ·right;left;simpa using e1
   ·left;simpa using e0
  clear he;rcases hd with hd|hd|hd
  ·go_enter func157,ntmps157
   go_wp2_with fail
   refine aI (by kernel_rfl) (by kernel_rfl) ?_;repeat(first|go_big_quiet_step ((go_at_call 158;exact Pure.via (HA.out _)))|quiet_step ((go_at_call 158;exact Pure.via (HA.out _))))
   refine wpQuiet_nil ?_;intro _ hw';obtain⟨uq,hw''⟩:=hw';subst hw'';go_wp2_with fail
   go_ret;exact⟨by simp,aV _ _⟩
  ·go_enter func157,ntmps157
   go_wp2_with fail
   refine aI (by kernel_rfl) (by kernel_rfl) ?_;repeat(first|go_big_quiet_step ((go_at_call 158;exact Pure.via (HA.out _)))|quiet_step ((go_at_call 158;exact Pure.via (HA.out _))))
   refine wpQuiet_nil ?_;intro _ hw';obtain⟨uq,hw''⟩:=hw';subst hw'';go_wp2_with fail
   go_ret;exact⟨by simp,aV _ _⟩
  ·go_enter func157,ntmps157
   go_wp2_with fail
   refine aI (by kernel_rfl) (by kernel_rfl) ?_;repeat(first|go_big_quiet_step ((go_at_call 158;exact Pure.via (HA.out _)))|quiet_step ((go_at_call 158;exact Pure.via (HA.out _))))
   refine wpQuiet_nil ?_;intro _ hw';obtain⟨uq,hw''⟩:=hw';subst hw'';go_wp2_with fail
   go_ret;exact⟨by simp,aV _ _⟩
structure AI (w:U) (g i0:Nat) (ps:List Nat):Prop where
 at_:∀j p,ps[j]? =C p→w.cell? ⟨g,i0+j,I⟩=C (.pointer (C (J p 0 I)))
 lt:ps≠[]→g<w.heap.size
theorem yJ(XA XR g i0 c:Nat)(ps:List Nat)(Hs:List (List Mp))(a:Ac)(r:An)(ha:bX a.page)(hlen:ps.length=Hs.length)(hsm:ps.length≤1000000)(hok:∀L∈Hs,Bk.Ok L)
  (hwas:(Hs.any fun L=>decide (Bk.ans L a=r))=true) (R:ab) (w:U) (hb:AI w g i0 ps) (h:O w (aS ps Hs*(aa XA #[F G a.page,F G a.kind,V a.user] 77*(aa XR #[F G r.fin,F G r.frame,F G r.rights] 70*R)))):
  Y prog 197 #[.slice (C (J g i0 I)) ps.length c,.func (.func 157) #[] #[.pointer (C (J XA 0 I)),.pointer (C (J XR 0 I))]] w
   (fun e w'=>∃z:Nat,e= .returned (F G z)∧Below w.heap.size w w'):=by
 have HW:=D hwas;have HO:=D hok;have HBK:=D hb;have HLN:=D hlen;clear hwas hok hb hlen;go_enter func197,ntmps197;go_wp2_with fail
 go_loopw [8] (fun t wr=>∃j:Nat,j≤ps.length∧t=F G j∧Hid (∀k L,k<j→Hs[k]? =C L→Bk.ans L a≠r)∧Below w.heap.size w wr) (fun t _=>ps.length - (intOf t).toNat)
 case atStart=>exact⟨0,by omega,rfl,D (fun k L hk=>absurd hk (by omega)),Below.refl _ _⟩
 case round=>
  obtain⟨j,hj,rfl,HA,BW⟩:=hrel;by_cases hlt:j<ps.length
  ·obtain⟨p,hp⟩:∃p,ps[j]? =C p:=⟨ps[j],T hlt⟩
   have hjh:j<Hs.length:=by rw[←HLN.out];exact hlt
   obtain⟨L,hL⟩:∃L,Hs[j]? =C L:=⟨Hs[j],T hjh⟩;obtain⟨Q,hQ⟩:=kj hp hL;have h2:O wr (aX p L*(aa XA #[F G a.page,F G a.kind,V a.user] 77*(aa XR #[F G r.fin,F G r.frame,F G r.rights] 70*(Q*R)))):=(h.below BW).eq (by rw[hQ];ac_rfl);have HF:=D (yI p XA XR L a r (HO.out L (List.mem_of_getElem? hL)) ha _ wr h2);have c0:=(HBK.out.at_ j p hp);have cw:=(BW.cell (World.block_lt_of_cell? w _ c0)).trans c0;have cl:g<wr.heap.size:=World.block_lt_of_cell? wr _ cw;have BW':=D BW;have HL:=D hL;clear h2 hQ hp hL c0 BW hjh h;by_cases he:Bk.ans L a=r
   ·rw[decide_eq_true he] at HF
    clear he HA;go_wp2_with(first|(refine HF.out.mono ?_;rintro e w3 ⟨rfl,b3⟩))
    go_ret;exact⟨j,rfl,BW'.out.trans (b3.mono BW'.out.size)⟩
   ·rw[decide_eq_false he] at HF
    have HA2:Hid (∀k L,k<j+1→Hs[k]? =C L→Bk.ans L a≠r):=D fun k M hk hM=>by
     by_cases hkj:k=j
     ·subst hkj
      rw[HL.out] at hM;injection hM with hM
      subst hM;exact he
     ·exact HA.out k M (by omega) hM
    clear he HA HL;go_wp2_with(first|(refine HF.out.mono ?_;rintro e w3 ⟨rfl,b3⟩))
    go_roundw
    case rel=>exact⟨j+1,by omega,by go_num,HA2,BW'.out.trans (b3.mono BW'.out.size)⟩
    case measure=>simp[intOf];omega
  ·obtain rfl:j=ps.length:=by omega
   exfalso;obtain⟨L,hL,hd⟩:=List.any_eq_true.1 HW.out;obtain⟨k,hk,hkL⟩:=List.getElem_of_mem hL;exact HA.out k L (by rw[HLN.out];exact hk) (by rw[T hk,hkL]) (of_decide_eq_true hd)
theorem sE(XA XR g i0 c:Nat)(ps:List Nat)(Hs:List (List Mp))(a:Ac)(r:An)(ha:bX a.page)(hlen:ps.length=Hs.length)(hsm:ps.length≤1000000)(hok:∀L∈Hs,Bk.Ok L)
  (hwas:(Hs.any fun L=>decide (Bk.ans L a=r))=true) (R:ab) (w:U) (hb:AI w g i0 ps) (h:O w (aS ps Hs*(aa XA #[F G a.page,F G a.kind,V a.user] 77*(aa XR #[F G r.fin,F G r.frame,F G r.rights] 70*R)))):
  Y prog 156 #[.slice (C (J g i0 I)) ps.length c,.func (.func 157) #[] #[.pointer (C (J XA 0 I)),.pointer (C (J XR 0 I))]] w (Pure (V true) w):=by
 have HI:=D (yJ XA XR g i0 c ps Hs a r ha hlen hsm hok hwas R w hb h);clear hlen hok hwas hb h;go_enter func156,ntmps156;go_wp2_with(refine HI.out.mono ?_;rintro e w2 ⟨z,rfl,b2⟩)
 go_ret;exact⟨by simp,b2⟩
theorem lU:∀(i:Nat) (ps:List Nat) (Ls:List (List Mp)),ps.length=Ls.length→∃Q,aS ps Ls=Q*aS (ps.drop i) (Ls.drop i)
 |0,ps,Ls,_=>⟨eZ True,(iA _).symm⟩
 |i+1,[],Ls,h=>⟨eZ True,by
   have:Ls=[]:=List.length_eq_zero_iff.1 h.symm;subst this;exact(iA _).symm⟩
 |i+1,p::ps,[],h=>by simp at h
 |i+1,p::ps,L::Ls,h=>by
  obtain⟨Q,hQ⟩:=lU i ps Ls (by simpa using h);refine⟨aX p L*Q,?_⟩;show aX p L*aS ps Ls=_;rw[hQ];show _=(aX p L*Q)*aS (ps.drop i) (Ls.drop i);ac_rfl
theorem yK(b sp:Nat)(H:List (List Mp))(f:Nat)(since:List Int)(a:Ac)(r:An)(i:Nat)(ha:bX a.page)(hi:i<H.length)(hH:H.length≤1000000)(hok:∀L∈H,Bk.Ok L)(hwas:vb H i a r=true)(R:ab)(w:U)(h:O w (aE b sp H f since*R)):
  Y prog 120 #[.pointer (C (J b 0 I)),.agg #[F G a.page,F G a.kind,V a.user],.agg #[F G r.fin,F G r.frame,F G r.rights],F G i] w (Pure (V true) w):=by
 have hold:=bc w;obtain⟨y,hy,h⟩:=dV h;obtain⟨yA,yc,ybs,yG,yd,yz⟩:=y;dsimp only at*
 have hib:i<ybs.length:=by omega
 have h0:=(h.new #[F G a.page,F G a.kind,V a.user] 77).new #[F G r.fin,F G r.frame,F G r.rights] 70;simp only[af] at h0;have g0:O _ (cr w w.heap.size):=((hold.new #[F G a.page,F G a.kind,V a.user] 77).new #[F G r.fin,F G r.frame,F G r.rights] 70).right.right;have x0:=((Ext.refl w).alloc (.cells #[F G a.page,F G a.kind,V a.user] 77)).alloc (.cells #[F G r.fin,F G r.frame,F G r.rights] 70);unfold cB at h0;dsimp only at h0;have h1:O _ (aa b #[.pointer (C (J sp 0 I)),.slice yA ybs.length yc,F G f,.slice yG since.length yd,F G 0,F G 0,F G yz] 143*(cV (.slice yA ybs.length yc) ybs*(aS ybs H*(aa w.heap.size #[F G a.page,F G a.kind,V a.user] 77*(aa (w.heap.size+1) #[F G r.fin,F G r.frame,F G r.rights] 70*(aq (.slice yG since.length yd) since*R)))))):=h0.eq (by ac_rfl);obtain⟨bA,hA,lA,cA⟩:=oc h1.right (T hib);subst hA;have hcap:ybs.length≤yc:=by
  rcases(Has.rowCases (e:=139) (size:=1) h1.right) with ⟨hv,_⟩|⟨g,cap,cur,hv,hn,_⟩
  ·cases hv
  ·injection hv with _ _ hc
   omega
 obtain⟨Q,hQ⟩:=lU i ybs H hy;have HB:AI ((w.alloc (.cells #[F G a.page,F G a.kind,V a.user] 77)).alloc (.cells #[F G r.fin,F G r.frame,F G r.rights] 70)) bA i (ybs.drop i):=⟨fun j p hj=>by
  rw[List.getElem?_drop] at hj;obtain⟨b2,e2,_,q2⟩:=oc h1.right hj;injection e2 with e2;injection e2 with e2
  subst e2;exact q2,fun _=>lA⟩
 have hl:(ybs.drop i).length =ybs.length - i:=List.length_drop;have HC:=D (sE w.heap.size (w.heap.size+1) bA i (yc - i) (ybs.drop i) (H.drop i) a r ha (by simp[hy]) (by rw[hl];omega) (fun L hL=>hok L (List.mem_of_mem_drop hL)) hwas _ _ HB (h1.right.right.eq (show _=aS (ybs.drop i) (H.drop i)*(aa w.heap.size #[F G a.page,F G a.kind,V a.user] 77*(aa (w.heap.size+1) #[F G r.fin,F G r.frame,F G r.rights] 70*(Q*(aq (.slice yG since.length yd) since*R)))) by rw[hQ];ac_rfl)));rw[hl] at HC;have c1:=h1.cell 1;have cl:=h1.lt;have hci:¬yc=i:=by omega
 have hib':(i:Int)≤ybs.length:=by omega
 have hcap':(ybs.length:Int)≤yc:=by omega
 have hsm:ybs.length≤1000000:=by omega
 clear hwas hok hQ HB hl hy h h0 h1 cA hH hi hold;go_enter func120,ntmps120;go_wp2_with(refine HC.out.mono ?_;rintro e w2 ⟨rfl,b2⟩)
 go_ret;exact⟨rfl,aA (g0.below b2) (x0.below b2)⟩
end Go.Proofs.YtmfheghbgihdmaaGreatDoor
