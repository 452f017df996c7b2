/- Contract of table.Insert. -/
import Derived.Test.YtmfheghbgihdmaaGreatDoorDkM
import Derived.Test.YtmfheghbgihdmaaGreatDoorInsM2
import Derived.Test.YtmfheghbgihdmaaGreatDoorEntBits
namespace Go.Proofs.YtmfheghbgihdmaaGreatDoor
open Go.Value renaming int→a,bool→I
open Go.IntKind renaming i64→o,wrap_i64→M
open Option renaming none→E,some→J
open Bool renaming false→F,true→U
open Go.Lib renaming hid→H
open Go.Addr renaming mk→L
open Go.Proofs.YtmfheghbgihdmaaGreatDoor renaming lev→N,Has→V,Ext→ak
open List renaming getElem?_eq_some_iff→O,getElem?_eq_getElem→af
open Go renaming bodyPost_ret→Y,World→ad,Addr→an,Calls→ap
open Go.World renaming size_alloc→ag
open Tryz
open Go.RowKit
set_option maxRecDepth 100000
def gr(f:Nat)(s:Ms)(r:Int)(x:Mp)(R:ab)(w:ad)(e:Ending)(w':ad):Prop:=
 ∃s',s'.Ok∧Agree s' (eB s r x)∧cF (a o (dm s r x)) (ae f s'*R) w e w'
theorem lu{s:Ms}{r:Int}{x:Mp}(h:dm s r x≠0):eB s r x=s:=by unfold eB;rw[if_neg h]
set_option maxHeartbeats 8000000 in
theorem A1(f:Nat)(s:Ms)(root:Int)(x:Mp)(R:ab)(w:ad)(hs:s.Ok)(h:V w (ae f s*R)):
  ap prog 175 #[.pointer (J (L f 0 E)),a o root,.agg #[a o x.page,a o x.size,a o x.frame,a o x.rights]] w (gr f s root x R w):=by
 have h0:=h.new #[a o x.page,a o x.size,a o x.frame,a o x.rights] 75;have x0:=(Ext.refl w).alloc (.cells #[a o x.page,a o x.size,a o x.frame,a o x.rights] 75);have HC:=H (jD x);by_cases hck:bp x=0
 case neg=>
  have hic:dm s root x=bp x:=by unfold dm;rw[if_pos hck]
  have HI:=H (And.intro hic (lu (s:=s) (r:=root) (x:=x) (by rw[hic];exact hck)));have hn:(bp x !=0)=U:=by simpa using hck
  unfold gr;rw[HI.out.1,HI.out.2];generalize bp x=cx at*
  clear hck h hic;obtain⟨c0,c1,c2,c3⟩:=h0.cells4;go_enter func175,ntmps175;go_wp2_with fail
  refine(HC.out _).mono ?_;rintro e w2 ⟨rfl,b2⟩;go_wp2_with fail
  go_ret;exact⟨s,hs,Agree.refl s,rfl,(h0.right.below b2),x0.below b2⟩
 obtain⟨hp,z,hz0,hz2⟩:=qW hck;have HZ:=H hz0;clear hz0;have W1:=H (fun w' (h:V w' (ae f s*(aa w.heap.size #[a o x.page,a o x.size,a o x.frame,a o x.rights] 75*R)))=>pI f s root x.page _ w' hs h);rw[hck] at HC;by_cases hcode:(bo s root x.page).code =0
 case neg=>
  have hic:dm s root x=(bo s root x.page).code :=by unfold dm;rw[if_neg (by rw[hck];simp),if_pos hcode]
  have HI:=H (And.intro hic (lu (s:=s) (r:=root) (x:=x) (by rw[hic];exact hcode)));unfold gr;rw[HI.out.1,HI.out.2];clear hic hck h;generalize bo s root x.page=y at*
  have hn:(y.code !=0)=U:=by simpa using hcode
  clear hcode;obtain⟨c0,c1,c2,c3⟩:=h0.cells4;have cl:=h0.lt;go_enter func175,ntmps175;go_wp2_with fail
  refine(HC.out _).mono ?_;rintro e w2 ⟨rfl,b2⟩;have h2:=h0.below b2;have x2:=x0.below b2;clear h0 x0 b2 c0 c1 c2 c3 cl;obtain⟨c0,c1,c2,c3⟩:=h2.cells4;have cl:=h2.lt;go_wp2_with fail
  refine(W1.out _ h2.p2).mono ?_;rintro e w3 hF;obtain⟨A,B,c,d,rfl,h3,x3⟩:∃(A B:Option an) (c d:Nat),e= .returned (.tuple #[.agg #[a o y.lev,I y.e.there,I y.e.leaf,a o y.e.rights,I y.e.used,I y.e.dirty,a o y.e.frame,.slice A y.tabs.length c,.slice B y.tabs.length d],a o y.code])∧V w3 (aq (.slice A y.tabs.length c) y.tabs*(aq (.slice B y.tabs.length d) (aB x.page y.tabs.length)*cr w2 w2.heap.size))∧ak w2 w3:=hF;have h4:=((h2.onto' (h3.a2)).a1).right.right.right;go_wp2_with fail
  go_ret;exact⟨s,hs,Agree.refl s,rfl,h4.alloc _,(x2.trans x3).alloc _⟩
 by_cases hbad:(bo s root x.page).e.there =U∨(bo s root x.page).lev <x.size
 case pos=>
  have hic:dm s root x=4:=by unfold dm;rw[if_neg (by rw[hck];simp),if_neg (by rw[hcode];simp),if_pos hbad]
  have HI:=H (And.intro hic (lu (s:=s) (r:=root) (x:=x) (by rw[hic];decide)));unfold gr;rw[HI.out.1,HI.out.2];clear hic hck h;generalize bo s root x.page=y at*
  obtain⟨code,tabs,N,th,lf,rg,us,di,fr⟩:=y;dsimp only at*
  subst hcode;cases th with
  |true=>
   clear hbad;obtain⟨c0,c1,c2,c3⟩:=h0.cells4;have cl:=h0.lt;go_enter func175,ntmps175;go_wp2_with fail
   refine(HC.out _).mono ?_;rintro e w2 ⟨rfl,b2⟩;have h2:=h0.below b2;have x2:=x0.below b2;clear h0 x0 b2 c0 c1 c2 c3 cl;obtain⟨c0,c1,c2,c3⟩:=h2.cells4;have cl:=h2.lt;go_wp2_with fail
   refine(W1.out _ h2.p2).mono ?_;rintro e w3 hF;obtain⟨A,B,c,d,rfl,h3,x3⟩:∃(A B:Option an) (c d:Nat),e= .returned (.tuple #[.agg #[a o N,I U,I lf,a o rg,I us,I di,a o fr,.slice A tabs.length c,.slice B tabs.length d],a o 0])∧V w3 (aq (.slice A tabs.length c) tabs*(aq (.slice B tabs.length d) (aB x.page tabs.length)*cr w2 w2.heap.size))∧ak w2 w3:=hF;have h5:V _ (aa w3.heap.size #[a o N,I U,I lf,a o rg,I us,I di,a o fr,.slice A tabs.length c,.slice B tabs.length d] 248*(aq (.slice A tabs.length c) tabs*(aq (.slice B tabs.length d) (aB x.page tabs.length)*(aa w.heap.size #[a o x.page,a o x.size,a o x.frame,a o x.rights] 75*(ae f s*R))))):=((h2.onto' (h3.a2)).a1).new #[a o N,I U,I lf,a o rg,I us,I di,a o fr,.slice A tabs.length c,.slice B tabs.length d] 248;have x5:=(x2.trans x3).alloc (.cells #[a o N,I U,I lf,a o rg,I us,I di,a o fr,.slice A tabs.length c,.slice B tabs.length d] 248);clear h2 x2 h3 x3 c0 c1 c2 c3 cl W1 HC;go_upto_region 5 with fail;generalize w3.alloc _=w5 at*
   generalize w3.heap.size=X1 at*
   generalize w.heap.size=X0 at*
   obtain⟨c0,c1,c2,c3⟩:=h5.r3.cells4;have cl:=h5.r3.lt;obtain⟨k0,k1,k2,k3,k4,k5,k6,k7,k8⟩:=h5.cells9;have kl:=h5.lt;go_wp2_with fail
   go_ret;exact⟨s,hs,Agree.refl s,rfl,h5.right.r3,x5⟩
  |false=>
   have hlt:N<x.size:=by rcases hbad with h|h;· cases h
                         ·exact h
   clear hbad;obtain⟨c0,c1,c2,c3⟩:=h0.cells4;have cl:=h0.lt;go_enter func175,ntmps175;go_wp2_with fail
   refine(HC.out _).mono ?_;rintro e w2 ⟨rfl,b2⟩;have h2:=h0.below b2;have x2:=x0.below b2;clear h0 x0 b2 c0 c1 c2 c3 cl;obtain⟨c0,c1,c2,c3⟩:=h2.cells4;have cl:=h2.lt;go_wp2_with fail
   refine(W1.out _ h2.p2).mono ?_;rintro e w3 hF;obtain⟨A,B,c,d,rfl,h3,x3⟩:∃(A B:Option an) (c d:Nat),e= .returned (.tuple #[.agg #[a o N,I F,I lf,a o rg,I us,I di,a o fr,.slice A tabs.length c,.slice B tabs.length d],a o 0])∧V w3 (aq (.slice A tabs.length c) tabs*(aq (.slice B tabs.length d) (aB x.page tabs.length)*cr w2 w2.heap.size))∧ak w2 w3:=hF;have h5:V _ (aa w3.heap.size #[a o N,I F,I lf,a o rg,I us,I di,a o fr,.slice A tabs.length c,.slice B tabs.length d] 248*(aq (.slice A tabs.length c) tabs*(aq (.slice B tabs.length d) (aB x.page tabs.length)*(aa w.heap.size #[a o x.page,a o x.size,a o x.frame,a o x.rights] 75*(ae f s*R))))):=((h2.onto' (h3.a2)).a1).new #[a o N,I F,I lf,a o rg,I us,I di,a o fr,.slice A tabs.length c,.slice B tabs.length d] 248;have x5:=(x2.trans x3).alloc (.cells #[a o N,I F,I lf,a o rg,I us,I di,a o fr,.slice A tabs.length c,.slice B tabs.length d] 248);clear h2 x2 h3 x3 c0 c1 c2 c3 cl W1 HC;go_upto_region 5 with fail;generalize w3.alloc _=w5 at*
   generalize w3.heap.size=X1 at*
   generalize w.heap.size=X0 at*
   obtain⟨c0,c1,c2,c3⟩:=h5.r3.cells4;have cl:=h5.r3.lt;obtain⟨k0,k1,k2,k3,k4,k5,k6,k7,k8⟩:=h5.cells9;have kl:=h5.lt;go_wp2_with fail
   go_ret;exact⟨s,hs,Agree.refl s,rfl,h5.right.r3,x5⟩
 obtain⟨_,n,hn,hn3,hl,hu⟩:=gE hcode
 have hth:(bo s root x.page).e.there =F:=by cases h:(bo s root x.page).e.there;· rfl
                                            ·exact absurd (.inl h) hbad
 have hls:¬((bo s root x.page).lev <x.size):=fun h=>hbad (.inr h);obtain⟨m,hm⟩:∃m:Nat,n+m+z=3:=⟨3 - n - z,by have:=HZ.out;omega⟩;have HT:=H (fun b R w h=>zR b f s hs m (by omega) R w h);unfold zQ at HT;by_cases hfull:s.frees.length<m
 case pos=>
  have hic:dm s root x=6:=by
   unfold dm;rw[if_neg (by rw[hck];simp),if_neg (by rw[hcode];simp),if_neg hbad,if_pos (by have:=HZ.out;omega)]
  have HI:=H (And.intro hic (lu (s:=s) (r:=root) (x:=x) (by rw[hic];decide)));unfold gr;rw[HI.out.1,HI.out.2];have hmm:(bo s root x.page).lev - x.size=(m:Int):=by have:=HZ.out;omega
  have HN:=H hn;clear hic hck h hu hn hl;generalize bo s root x.page=y at*
  obtain⟨code,tabs,N,th,lf,rg,us,di,fr⟩:=y;dsimp only at*
  subst hcode hth;clear hbad;obtain⟨c0,c1,c2,c3⟩:=h0.cells4;have cl:=h0.lt;go_enter func175,ntmps175;go_wp2_with fail
  refine(HC.out _).mono ?_;rintro e w2 ⟨rfl,b2⟩;have h2:=h0.below b2;have x2:=x0.below b2;clear h0 x0 b2 c0 c1 c2 c3 cl;obtain⟨c0,c1,c2,c3⟩:=h2.cells4;have cl:=h2.lt;go_wp2_with fail
  refine(W1.out _ h2.p2).mono ?_;rintro e w3 hF;obtain⟨A,B,c,d,rfl,h3,x3⟩:∃(A B:Option an) (c d:Nat),e= .returned (.tuple #[.agg #[a o N,I F,I lf,a o rg,I us,I di,a o fr,.slice A tabs.length c,.slice B tabs.length d],a o 0])∧V w3 (aq (.slice A tabs.length c) tabs*(aq (.slice B tabs.length d) (aB x.page tabs.length)*cr w2 w2.heap.size))∧ak w2 w3:=hF;have h5:V _ (aa w3.heap.size #[a o N,I F,I lf,a o rg,I us,I di,a o fr,.slice A tabs.length c,.slice B tabs.length d] 248*(aq (.slice A tabs.length c) tabs*(aq (.slice B tabs.length d) (aB x.page tabs.length)*(aa w.heap.size #[a o x.page,a o x.size,a o x.frame,a o x.rights] 75*(ae f s*R))))):=((h2.onto' (h3.a2)).a1).new #[a o N,I F,I lf,a o rg,I us,I di,a o fr,.slice A tabs.length c,.slice B tabs.length d] 248;have x5:=(x2.trans x3).alloc (.cells #[a o N,I F,I lf,a o rg,I us,I di,a o fr,.slice A tabs.length c,.slice B tabs.length d] 248);clear h2 x2 h3 x3 c0 c1 c2 c3 cl W1 HC;go_upto_region 5 with fail;generalize w3.alloc _=w5 at*
  generalize w3.heap.size=X1 at*
  generalize w.heap.size=X0 at*
  obtain⟨c0,c1,c2,c3⟩:=h5.r3.cells4;have cl:=h5.r3.lt;obtain⟨k0,k1,k2,k3,k4,k5,k6,k7,k8⟩:=h5.cells9;have kl:=h5.lt;have h6:=h5.new #[.pointer (J (L f 0 E)),.slice E 0 0] 293;have x6:=x5.alloc (.cells #[.pointer (J (L f 0 E)),.slice E 0 0] 293);go_upto_region 10 with fail;generalize w5.alloc _=w6 at*
  generalize w5.heap.size=Xb at*
  clear h5 x5 c0 c1 c2 c3 cl k0 k1 k2 k3 k4 k5 k6 k7 k8 kl;obtain⟨k0,k1,k2,k3,k4,k5,k6,k7,k8⟩:=h6.right.cells9;have kl:=h6.right.lt;obtain⟨c0,c1,c2,c3⟩:=h6.right.r3.cells4;have cl:=h6.right.r3.lt;have hmw:IntKind.i64.wrap (m:Int)=(m:Int):=by rw[M];omega
  have hmw2:IntKind.i64.wrap (N - x.size)=(m:Int):=by rw[hmm];exact hmw
  have h7:V w6 (aa Xb #[.pointer (J (L f 0 E)),.slice E 0 0] 293*(ae f s*(aa X1 #[a o N,I F,I lf,a o rg,I us,I di,a o fr,.slice A tabs.length c,.slice B tabs.length d] 248*(aq (.slice A tabs.length c) tabs*(aq (.slice B tabs.length d) (aB x.page tabs.length)*(aa X0 #[a o x.page,a o x.size,a o x.frame,a o x.rights] 75*R)))))):=h6.eq (by ac_rfl);go_wp2_with fail
  refine(HT.out _ _ _ h7).mono ?_;rintro e w7 hF;rcases hF with ⟨hle,_⟩|⟨_,s',hs',hag,rfl,h8,x8⟩
  ·exact absurd hle (by omega)
  ·go_wp2_with fail
   go_ret;exact⟨s',hs',hag,rfl,h8.eq (show _=aa X1 #[a o N,I F,I lf,a o rg,I us,I di,a o fr,.slice A tabs.length c,.slice B tabs.length d] 248*(aq (.slice A tabs.length c) tabs*(aq (.slice B tabs.length d) (aB x.page tabs.length)*(aa X0 #[a o x.page,a o x.size,a o x.frame,a o x.rights] 75*(ae f s'*R)))) by ac_rfl) |>.right.right.right.right,x6.trans x8⟩
 have hic:dm s root x=0:=by
  unfold dm;rw[if_neg (by rw[hck];simp),if_neg (by rw[hcode];simp),if_neg hbad,if_neg (by have:=HZ.out;omega)]
 have HAT:InsAt s root x n m z:=⟨hcode,hp,hn,hl,HZ.out,hm,by omega⟩;have HFIN:=H (HAT.fin hs hic);have HLAST:=H (fun t ht σ lw=>HAT.last (t:=t) ht σ lw);have HSTEP:=H (fun j t k ht hk σ lw=>HAT.step (j:=j) (t:=t) (k:=k) ht hk σ lw);have HSTO:=H (fun σ hσ j t hj v=>HAT.store hs (σ:=σ) hσ (j:=j) (t:=t) hj v);have HALN:=H HAT.all_len;have HAL:=H (show gU s root x m=(bo s root x.page).tabs ++ep s m from rfl);have HOKF:=H (fun(l:List Int)=>uI (fT hs m) x.page (ju (dU x) x.size) z l);have HHAS:=H (fun(l:List Int) (u:Int)=>rK (aM s m) x.page (bF (dU x) x.size) z u l);have HIC:=H hic;have HN:=H hn;have hmm:(bo s root x.page).lev - x.size=(m:Int):=by have:=HZ.out;omega
 have htl:=jm s m;unfold gr;rw[HIC.out];generalize eB s root x=sF at*
 generalize gU s root x m=al at*
 generalize ep s m=tp at*
 clear HAT hic hck h hu hn HIC;generalize bo s root x.page=y at*
 obtain⟨code,tabs,N,th,lf,rg,us,di,fr⟩:=y;dsimp only at*
 subst hcode hth;have HLV:=H hl;clear hbad hl;obtain⟨c0,c1,c2,c3⟩:=h0.cells4;have cl:=h0.lt;go_enter func175,ntmps175;go_wp2_with fail
 refine(HC.out _).mono ?_;rintro e w2 ⟨rfl,b2⟩;have h2:=h0.below b2;have x2:=x0.below b2;clear h0 x0 b2 c0 c1 c2 c3 cl;obtain⟨c0,c1,c2,c3⟩:=h2.cells4;have cl:=h2.lt;go_wp2_with fail
 refine(W1.out _ h2.p2).mono ?_;rintro e w3 hF;obtain⟨A,B,c,d,rfl,h3,x3⟩:∃(A B:Option an) (c d:Nat),e= .returned (.tuple #[.agg #[a o N,I F,I lf,a o rg,I us,I di,a o fr,.slice A tabs.length c,.slice B tabs.length d],a o 0])∧V w3 (aq (.slice A tabs.length c) tabs*(aq (.slice B tabs.length d) (aB x.page tabs.length)*cr w2 w2.heap.size))∧ak w2 w3:=hF;have h5:V _ (aa w3.heap.size #[a o N,I F,I lf,a o rg,I us,I di,a o fr,.slice A tabs.length c,.slice B tabs.length d] 248*(aq (.slice A tabs.length c) tabs*(aq (.slice B tabs.length d) (aB x.page tabs.length)*(aa w.heap.size #[a o x.page,a o x.size,a o x.frame,a o x.rights] 75*(ae f s*R))))):=((h2.onto' (h3.a2)).a1).new #[a o N,I F,I lf,a o rg,I us,I di,a o fr,.slice A tabs.length c,.slice B tabs.length d] 248;have x5:=(x2.trans x3).alloc (.cells #[a o N,I F,I lf,a o rg,I us,I di,a o fr,.slice A tabs.length c,.slice B tabs.length d] 248);clear h2 x2 h3 x3 c0 c1 c2 c3 cl W1 HC;go_upto_region 5 with fail;generalize w3.alloc _=w5 at*
 generalize w3.heap.size=X1 at*
 generalize w.heap.size=X0 at*
 obtain⟨c0,c1,c2,c3⟩:=h5.r3.cells4;have cl:=h5.r3.lt;obtain⟨k0,k1,k2,k3,k4,k5,k6,k7,k8⟩:=h5.cells9;have kl:=h5.lt;have h6:=h5.new #[.pointer (J (L f 0 E)),.slice E 0 0] 293;have x6:=x5.alloc (.cells #[.pointer (J (L f 0 E)),.slice E 0 0] 293);go_upto_region 10 with fail;generalize w5.alloc _=w6 at*
 generalize w5.heap.size=Xb at*
 clear h5 x5 c0 c1 c2 c3 cl k0 k1 k2 k3 k4 k5 k6 k7 k8 kl;obtain⟨k0,k1,k2,k3,k4,k5,k6,k7,k8⟩:=h6.right.cells9;have kl:=h6.right.lt;obtain⟨c0,c1,c2,c3⟩:=h6.right.r3.cells4;have cl:=h6.right.r3.lt;have hmw:IntKind.i64.wrap (m:Int)=(m:Int):=by rw[M];omega
 have hmw2:IntKind.i64.wrap (N - x.size)=(m:Int):=by rw[hmm];exact hmw
 have h7:V w6 (aa Xb #[.pointer (J (L f 0 E)),.slice E 0 0] 293*(ae f s*(aa X1 #[a o N,I F,I lf,a o rg,I us,I di,a o fr,.slice A tabs.length c,.slice B tabs.length d] 248*(aq (.slice A tabs.length c) tabs*(aq (.slice B tabs.length d) (aB x.page tabs.length)*(aa X0 #[a o x.page,a o x.size,a o x.frame,a o x.rights] 75*R)))))):=h6.eq (by ac_rfl);clear h6;go_wp2_with fail
 refine(HT.out _ _ _ h7).mono ?_;rintro e w7 hF;rcases hF with ⟨_,G,gc,rfl,h8,x8⟩|⟨hle,_⟩
 case inr=>exact absurd hle (by omega)
 have x9:=x6.trans x8;clear h7 x6 x8 HT hmw hmw2 hmm k0 k1 k2 k3 k4 k5 k6 k7 k8 kl c0 c1 c2 c3 cl;have h9:V w7 (aq (.slice A tabs.length c) tabs*(bt 3 1 (.slice G m gc) m (tp.map (a o))*(aa X1 #[a o N,I F,I lf,a o rg,I us,I di,a o fr,.slice A tabs.length c,.slice B tabs.length d] 248*(aa Xb #[.pointer (J (L f 0 E)),.slice G m gc] 293*(aq (.slice B tabs.length d) (aB x.page tabs.length)*(ae f (aM s m)*(aa X0 #[a o x.page,a o x.size,a o x.frame,a o x.rights] 75*R))))))):=h8.eq (by ac_rfl);clear h8;have hlen1:((tabs.length:Nat):Int) - 1=(n:Int):=by have:=HN.out;omega
 have k7:=h9.right.right.cell 7;have kl:=h9.right.right.lt;have HLN:=H hlen1;clear hlen1;go_upto_region 12 with fail;go_cut [11] from 55 to 59 (fun s11 wx=>s11=a o n∧wx=w7)
 case first=>
  have hlen1:=HLN.out;go_wp2_with fail
  go_meet
  case rel=>exact⟨by first|rfl|(rw[←hlen1];done)|(rw[←hlen1];go_num),rfl⟩
 case rest=>
 obtain⟨rfl,hwr⟩:=hcut;replace hwr:=hwr.symm;subst hwr;have HS:=H (fun(w':ad) (P Q:ab) (h:V w' (P*(Q*(aa X1 #[a o N,I F,I lf,a o rg,I us,I di,a o fr,.slice A tabs.length c,.slice B tabs.length d] 248*(aa Xb #[.pointer (J (L f 0 E)),.slice G m gc] 293*(aq (.slice B tabs.length d) (aB x.page tabs.length)*(ae f (aM s m)*(aa X0 #[a o x.page,a o x.size,a o x.frame,a o x.rights] 75*R))))))))=>(⟨h.right.right.cell 7,h.r3.cell 1⟩:w'.cell? (L X1 7 E)=J (.slice A tabs.length c)∧w'.cell? (L Xb 1 E)=J (.slice G m gc)));have hbl:=h9.r3.lt;have hnt:tabs.length=n+1:=HN.out;have hnt4:tabs.length≤1000000:=by omega
 have hntm:tabs.length+m≤1000000:=by omega
 clear hnt;go_upto_region 13 with fail;go_cut [12] from 59 to 67 (fun s12 wx=>∃(D:Option an) (dc:Nat),s12= .slice D (tabs.length+m) dc∧V wx (bt 3 1 (.slice D (tabs.length+m) dc) (tabs.length+m) (tabs.map (a o)++tp.map (a o))*(aq (.slice A tabs.length c) tabs*(bt 3 1 (.slice G m gc) m (tp.map (a o))*(aa X1 #[a o N,I F,I lf,a o rg,I us,I di,a o fr,.slice A tabs.length c,.slice B tabs.length d] 248*(aa Xb #[.pointer (J (L f 0 E)),.slice G m gc] 293*(aq (.slice B tabs.length d) (aB x.page tabs.length)*(ae f (aM s m)*(aa X0 #[a o x.page,a o x.size,a o x.frame,a o x.rights] 75*R))))))))∧ak w wx)
 case first=>
  refine wp_region_held_drew (S:=fun w'=>w'.cell? (L X1 7 E)=J (.slice A tabs.length c)∧w'.cell? (L Xb 1 E)=J (.slice G m gc)) (by kernel_rfl) (HS.out _ _ _ h9) (fun hHeld=> ?_);refine wpAnyH_take (i:=0) (v:= ?_) rfl (by kernel_rfl) (by kernel_rfl) (by kernel_rfl) (fun _ _ _ h=>h) (Or.inl ⟨by kernel_rfl,?_⟩) hHeld ?_;rotate_left;focus (intro wS hSw;(try dsimp only at hSw);go_simp;first|done|with_reducible rfl)
  try go_simp
  refine wpAnyH_take (i:=1) (v:= ?_) rfl (by kernel_rfl) (by kernel_rfl) (by kernel_rfl) (fun _ _ _ h=>h) (Or.inl ⟨by kernel_rfl,?_⟩) hHeld ?_;rotate_left;focus (intro wS hSw;(try dsimp only at hSw);go_simp;first|done|with_reducible rfl)
  try go_simp
  refine wpAnyH_take (i:=3) (v:= ?_) rfl (by kernel_rfl) (by kernel_rfl) (by kernel_rfl) (fun _ _ _ h=>h) (Or.inl ⟨by kernel_rfl,?_⟩) hHeld ?_;rotate_left;focus (intro wS hSw;(try dsimp only at hSw);go_simp;first|done|with_reducible rfl)
  try go_simp
  refine wpAnyH_take (i:=4) (v:= ?_) rfl (by kernel_rfl) (by kernel_rfl) (by kernel_rfl) (fun _ _ _ h=>h) (Or.inl ⟨by kernel_rfl,?_⟩) hHeld ?_;rotate_left;focus (intro wS hSw;(try dsimp only at hSw);go_simp;first|done|with_reducible rfl)
  try go_simp
  refine wpAnyH_take (i:=5) (v:= ?_) rfl (by kernel_rfl) (by kernel_rfl) (by kernel_rfl) (fun _ _ _ h=>h) (Or.inl ⟨by kernel_rfl,?_⟩) hHeld ?_;rotate_left;focus (intro wS hSw;(try dsimp only at hSw);go_simp;first|done|with_reducible rfl)
  try go_simp
  refine wpAnyH_take (i:=6) (v:= ?_) rfl (by kernel_rfl) (by kernel_rfl) (by kernel_rfl) (fun _ _ _ h=>h) (Or.inl ⟨by kernel_rfl,?_⟩) hHeld ?_;rotate_left;focus (intro wS hSw;(try dsimp only at hSw);go_simp;first|done|with_reducible rfl)
  try go_simp
  refine wpAnyH_ready (rs:=[2]) (by kernel_rfl) (by simp) (AllReadyH.cons rfl (fun K hK=> ?_) AllReadyH.nil);go_simp;go_wp2_with((go_at_call 208;refine(nB tabs A _ c _ _ hnt4 h9.drew).mono ?_;rintro e w10 ⟨C,cn,cc,rfl,h10,x10⟩;have h11:=h9.drew.onto' h10;obtain rfl:=fh h11))
  refine hK.out _ _ (HS.out _ _ _ h11.right) (fun hHeld=> ?_);clear hK K;have h12:V w10 (bt 3 1 (.slice C tabs.length cc) tabs.length (tabs.map (a o))*(bt 3 1 (.slice G m gc) m (tp.map (a o))*(aq (.slice A tabs.length c) tabs*(aa X1 #[a o N,I F,I lf,a o rg,I us,I di,a o fr,.slice A tabs.length c,.slice B tabs.length d] 248*(aa Xb #[.pointer (J (L f 0 E)),.slice G m gc] 293*(aq (.slice B tabs.length d) (aB x.page tabs.length)*(ae f (aM s m)*(aa X0 #[a o x.page,a o x.size,a o x.frame,a o x.rights] 75*R)))))))):=h11.eq (by unfold aq;ac_rfl);refine wpAnyH_ready (rs:=[7]) (by kernel_rfl) (by simp) (AllReadyH.cons rfl (fun K hK=> ?_) AllReadyH.nil);refine lh rfl (.tmp 61) (.tmp 65) 55 rfl underlying55 gK (.slice C tabs.length cc) tabs.length (tabs.map (a o)) (by simp[Act.eval]) (.slice G m gc) m (tp.map (a o)) (by simp[Act.eval]) h12 (pD _) (by unfold maxLen;omega) (by omega) ?_;intro D dc w13 h13 x13;have h14:V w13 (bt 3 1 (.slice D (tabs.length+m) dc) (tabs.length+m) (tabs.map (a o)++tp.map (a o))*(aq (.slice A tabs.length c) tabs*(bt 3 1 (.slice G m gc) m (tp.map (a o))*(aa X1 #[a o N,I F,I lf,a o rg,I us,I di,a o fr,.slice A tabs.length c,.slice B tabs.length d] 248*(aa Xb #[.pointer (J (L f 0 E)),.slice G m gc] 293*(aq (.slice B tabs.length d) (aB x.page tabs.length)*(ae f (aM s m)*(aa X0 #[a o x.page,a o x.size,a o x.frame,a o x.rights] 75*R)))))))):=h13.eq (by ac_rfl);try go_simp
  refine hK.out _ _ (HS.out _ _ _ h14.right) (fun hHeld=> ?_);clear hK K;refine wpAnyH_take (i:=8) (v:= ?_) rfl (by kernel_rfl) (by kernel_rfl) (by kernel_rfl) (fun _ _ _ h=>h) (Or.inl ⟨by kernel_rfl,?_⟩) hHeld ?_;rotate_left;focus (intro wS hSw;(try dsimp only at hSw);go_simp;first|done|with_reducible rfl)
  try go_simp
  refine wpAnyH_done (by kernel_rfl) ?_ _;go_wp2_with fail
  go_meet
  case rel=>exact⟨D,dc,rfl,h14,(x9.drew.trans x10).trans x13⟩
 case rest=>
 clear h9 x9 k7 kl hbl HS;obtain⟨D,dc,rfl,h10,x10⟩:=hcut;rw[←List.map_append,←HAL.out] at h10;have HPL:=H (ge x.page tabs.length);have h11:V wc (aq (.slice B tabs.length d) (aB x.page tabs.length)*(aa X1 #[a o N,I F,I lf,a o rg,I us,I di,a o fr,.slice A tabs.length c,.slice B tabs.length d] 248*(bt 3 1 (.slice D (tabs.length+m) dc) (tabs.length+m) (al.map (a o))*(ae f (aM s m)*(aa Xb #[.pointer (J (L f 0 E)),.slice G m gc] 293*(aa X0 #[a o x.page,a o x.size,a o x.frame,a o x.rights] 75*(aq (.slice A tabs.length c) tabs*(bt 3 1 (.slice G m gc) m (tp.map (a o))*R)))))))):=h10.eq (by ac_rfl);have k8:=h11.right.cell 8;have kl:=h11.right.lt;go_wp2_with fail
 refine(nB (aB x.page tabs.length) B _ d _ _ (by rw[HPL.out];exact hnt4) h11).mono ?_;rintro e w12 ⟨P0,pn,pc,rfl,h12,x12⟩;have h13:=h11.onto' h12;have hpn:=(fh h13).trans HPL.out;obtain rfl:=hpn;have x13:=x10.trans x12;obtain⟨QQ,hQQ⟩:∃Q:ab,Q=(aq (.slice A tabs.length c) tabs*(bt 3 1 (.slice G m gc) m (tp.map (a o))*(aq (.slice B tabs.length d) (aB x.page tabs.length)*aa X1 #[a o N,I F,I lf,a o rg,I us,I di,a o fr,.slice A tabs.length c,.slice B tabs.length d] 248))):=⟨_,rfl⟩;obtain⟨N1,hN1⟩:∃N1,N1=tabs.length+m:=⟨_,rfl⟩;have h14:V w12 (bt 3 1 (.slice P0 tabs.length pc) tabs.length ((aB x.page tabs.length).map (a o))*(bt 3 1 (.slice D N1 dc) N1 (al.map (a o))*(ae f (aM s m)*(aa Xb #[.pointer (J (L f 0 E)),.slice G m gc] 293*(aa X0 #[a o x.page,a o x.size,a o x.frame,a o x.rights] 75*(QQ*R)))))):=by
  rw[hQQ,hN1];have:=h13;unfold aq at this⊢;rw[HPL.out] at this⊢;exact this.eq (by ac_rfl)
 have k0:w12.cell? (L X1 0 E)=J (a o N):=h13.right.right.cell 0;have kl2:=h13.right.right.lt;have HN1:=H (show N1=n+1+m by have:=HN.out;omega);have HQQ:=H hQQ;have hw15:IntKind.i64.wrap (N - 1)=3 - ((n+1:Nat):Int):=by rw[M,HLV.out];omega
 have hN1c:Value.slice D (tabs.length+m) dc=Value.slice D N1 dc:=by rw[hN1]
 rw[hN1c];have HNT:=H HN.out;clear h10 x10 h11 x12 h12 h13 hQQ hN1 hN1c kl k8;go_upto_region 15 with fail;go_cut [14] from 70 to 73 (fun s14 wx=>s14=a o (3 - ((n+1:Nat):Int))∧wx=w12)
 case first=>
  go_wp2_with fail
  go_meet
  case rel=>exact⟨by first|rfl|(rw[←hw15];done)|(rw[←hw15];go_num),rfl⟩
 case rest=>
 obtain⟨rfl,hwr⟩:=hcut;replace hwr:=hwr.symm;subst hwr;clear k0 kl2 hw15 hnt4 hntm;generalize hT:tabs.length=T at*
 have HTT:=H (show T=n+1 from HNT.out);have h15:V w12 (bt 3 1 (.slice P0 T pc) T ((aB x.page T).map (a o))*(bt 3 1 (.slice D N1 dc) N1 (al.map (a o))*(ae f (aM s m)*(aa Xb #[.pointer (J (L f 0 E)),.slice G m gc] 293*(aa X0 #[a o x.page,a o x.size,a o x.frame,a o x.rights] 75*(QQ*R)))))):=h14;clear h14;have hnT:n+1=T:=HTT.out.symm;have HnT:=H hnT;clear hnT hT;go_upto_region 16 with fail;go_loopw [13,14] (fun t13 t14 wr=>∃(q:Nat) (P:Option an) (pc:Nat),n+1≤q∧q≤N1∧t14=a o (3 - (q:Int))∧t13= .slice P q pc∧V wr (bt 3 1 (.slice P q pc) q ((aB x.page q).map (a o))*(bt 3 1 (.slice D N1 dc) N1 (al.map (a o))*(ae f (aM s m)*(aa Xb #[.pointer (J (L f 0 E)),.slice G m gc] 293*(aa X0 #[a o x.page,a o x.size,a o x.frame,a o x.rights] 75*(QQ*R))))))∧ak w wr) (fun _ t14 _=>(intOf t14+5).toNat)
 case atStart=>exact⟨T,P0,pc,by have:=HTT.out;omega,by have:=HTT.out;have:=HN1.out;omega,by rw[HTT.out],rfl,h15,x13⟩
 case round=>
  clear h15 x13;obtain⟨q,P,pc',hq1,hq2,rfl,rfl,hr,hx⟩:=hrel;have hN1o:=HN1.out;have hZo:=HZ.out;obtain⟨c0,c1,c2,c3⟩:=hr.right.r3.cells4;have cl:=hr.right.r3.lt;by_cases hlt:q<N1
  ·have hge:x.size≤3 - (q:Int):=by omega
   have hw14:IntKind.i64.wrap (3 - (q:Int) - 1)=3 - ((q+1:Nat):Int):=by rw[M];omega
   have hq4:q≤4:=by omega
   have HIX:=H (fun W=>jE x.page (3 - (q:Int)) W);have HPS:=H (jM x.page q);have HQ1:=H (And.intro hq1 hq2);have HLT:=H hlt;clear hN1o hZo hq1 hq2 hlt;generalize ai x.page (3 - (q:Int))=ix at*
   have hrow:=hr.alloc (.cells #[a o ix] 3);go_wp2_with(first|(go_at_call 209;refine(HIX.out _).mono ?_;rintro e w15 ⟨rfl,rfl⟩)|(at_builtin;refine a8 rfl _ _ 55 rfl underlying55 gK _ _ _ rfl hrow (L _ 0 E) 1 1 [a o ix] rfl rfl (fj _ (a o ix) 3) ?c1 ?c2 ?c3 ?_))
   case c1=>intro u hu;simp at hu;subst hu;rfl
   case c2=>unfold maxLen;omega
   case c3=>omega
   intro v' w16 h16 x16;obtain⟨P',pc2,rfl⟩:=h16.rowForm;go_wp2_with fail
   go_roundw
   case rel=>exact⟨q+1,P',pc2,by have:=HQ1.out;omega,by have:=HLT.out;omega,by first|rfl|exact congrArg (a o) hw14|(rw[hw14]),rfl,by rw[HPS.out,List.map_append];exact h16,(hx.alloc _).trans x16⟩
   case measure=>simp[intOf];omega
  ·obtain rfl:q=N1:=by omega
   have hge:¬(x.size≤3 - (q:Int)):=by omega
   obtain⟨e,he⟩:∃e,e=n+m:=⟨_,rfl⟩;have haln:al.length=q:=by have:=HALN.out;omega
   have hpln:(aB x.page q).length =q:=ge x.page q;have hqe:q=e+1:=by omega
   obtain⟨bP,hP1,-,-,-⟩:=Has.rowGet (e:=3) (size:=1) hr (i:=e) (u:=a o ((aB x.page q)[e]'(by omega))) (by simp);obtain⟨bD,hD1,-,-,-⟩:=Has.rowGet (e:=3) (size:=1) hr.right (i:=e) (u:=a o (al[e]'(by omega))) (by simp);subst hP1;subst hD1;have HRW:=H (fun(j:Nat) (t:Int) (hj:al[j]? =J t) (w':ad) (Z:ab) (h:V w' (bt 3 1 (.slice (J (L bP 0 E)) q pc') q ((aB x.page q).map (a o))*(bt 3 1 (.slice (J (L bD 0 E)) q dc) q (al.map (a o))*Z)))=>(by
    obtain⟨hjl,hje⟩:=O.1 hj;obtain⟨b1,e1,l1,q1,_⟩:=Has.rowGet (e:=3) (size:=1) h (i:=j) (u:=a o (ai x.page (3 - (j:Int)))) (by rw[List.getElem?_map,iL x.page (by omega)];rfl);obtain⟨b2,e2,l2,q2,_⟩:=Has.rowGet (e:=3) (size:=1) h.right (i:=j) (u:=a o t) (by rw[List.getElem?_map,hj];rfl);injection e1 with e1;injection e1 with e1
    injection e2 with e2;injection e2 with e2
    subst e1;subst e2;exact⟨q2,q1,l2,l1⟩:w'.cell? (L bD j E)=J (a o t)∧w'.cell? (L bP j E)=J (a o (ai x.page (3 - (j:Int))))∧bD<w'.heap.size∧bP<w'.heap.size))
   have hAlj:=H (fun(j:Nat) (hj:j<q)=>(⟨_,af (by omega)⟩:∃t,al[j]? =J t));obtain⟨te,hte⟩:=hAlj.out e (by omega);have hHp:∀u,(aM s m).has u=(aM s m).has u:=fun _=>rfl;have hst1:=HSTO.out (aM s m) hHp e te hte (bF (dU x) x.size);have hla1:=HLAST.out te (by rw[←he];exact hte) (aM s m) (bF (dU x) x.size);rw[←he] at hla1;rw[←hla1] at hst1;have HP1:=H (fun R w h=>zY Xb f te (ai x.page (3 - (e:Int))) x.size (.slice G m gc) (dU x) (aM s m) R w h);rw[hst1] at HP1;generalize hU:nE (aM s m) x.page (bF (dU x) x.size) z (al.drop e)=σ1 at HP1;have HU:=H hU;clear hU;unfold dU at HP1;dsimp only at HP1;have HTE:=H (HRW.out e te hte);have hq1':(q:Int) - 1=(e:Int):=by omega
   have hq2':(q:Int) - 2=(e:Int) - 1:=by omega
   have hwe:IntKind.i64.wrap (e:Int)=(e:Int):=by rw[M];omega
   have hwe1:IntKind.i64.wrap ((e:Int) - 1)=(e:Int) - 1:=by rw[M];omega
   have hwq:IntKind.i64.wrap ((q:Int) - 1)=(e:Int):=by rw[hq1'];exact hwe
   have hwq2:IntKind.i64.wrap ((q:Int) - 2)=(e:Int) - 1:=by rw[hq2'];exact hwe1
   have heq:(e:Int)< (q:Int):=by omega
   have he0:¬((e:Int)<0):=by omega
   have he00:(0:Int)≤(e:Int):=by omega
   have HEE:=H (And.intro he hqe);have HNN:=H (show n≤e by omega);have HN3:=H (show e≤3 by omega);clear hst1 hla1 hHp haln hpln hqe he hN1o hZo hq1 hq2 hlt;have HIXE:=H (show ai x.page (3 - (e:Int))=ai x.page (3 - (e:Int)) from rfl);generalize hie:ai x.page (3 - (e:Int))=ie at HP1 HTE;clear HIXE hie;have h17:V _ (aa Xb #[.pointer (J (L f 0 E)),.slice G m gc] 293*(ae f (aM s m)*(bt 3 1 (.slice (J (L bP 0 E)) q pc') q ((aB x.page q).map (a o))*(bt 3 1 (.slice (J (L bD 0 E)) q dc) q (al.map (a o))*(aa X0 #[a o x.page,a o x.size,a o x.frame,a o x.rights] 75*(QQ*R)))))):=(hr.eq (by ac_rfl)).drew;have x17:=hx.drew;obtain⟨tA,tB,_,_⟩:=HTE.out _ _ hr;have HKK:=H (fun(w':ad) (P' Q':ab) (h:V w' (P'*(Q'*(bt 3 1 (.slice (J (L bP 0 E)) q pc') q ((aB x.page q).map (a o))*(bt 3 1 (.slice (J (L bD 0 E)) q dc) q (al.map (a o))*(aa X0 #[a o x.page,a o x.size,a o x.frame,a o x.rights] 75*(QQ*R)))))))=>(by
    obtain⟨a1,a2,_,_⟩:=HTE.out _ _ h.right.right;obtain⟨m0,m1,m2,m3⟩:=h.right.r3.cells4;exact⟨a1,a2,m1,m2,m3⟩:w'.cell? (L bD e E)=J (a o te)∧w'.cell? (L bP e E)=J (a o ie)∧w'.cell? (L X0 1 E)=J (a o x.size)∧w'.cell? (L X0 2 E)=J (a o x.frame)∧w'.cell? (L X0 3 E)=J (a o x.rights)))
   go_upto_region 19 with fail;go_region_held3 (fun w'=>w'.cell? (L bD e E)=J (a o te)∧w'.cell? (L bP e E)=J (a o ie)∧w'.cell? (L X0 1 E)=J (a o x.size)∧w'.cell? (L X0 2 E)=J (a o x.frame)∧w'.cell? (L X0 3 E)=J (a o x.rights)) (first|(with_reducible exact HKK.out _ _ _ h17)|(with_reducible exact HKK.out _ _ _ h18)|go_keep) (first|(go_at_call 210;(with_reducible refine(HP1.out _ _ h17).mono ?_);rintro e9 w18 ⟨rfl,h18,x18⟩))
   have x19:=x17.trans x18;rw[←HU.out] at h18;clear h17 x17 x18 HP1 HTE HKK tA tB hr hx c0 c1 c2 c3 cl;clear HU;go_upto_region 20 with fail;go_cut [15] from 107 to 110 (fun s15 wx=>s15=a o ((e:Int) - 1)∧wx=w18)
   case first=>
    go_wp2_with fail
    go_meet
    case rel=>exact⟨by first|rfl|(rw[←hwq2];done)|(rw[←hwq2];go_num),rfl⟩
   case rest=>
   obtain⟨rfl,hwr⟩:=hcut;replace hwr:=hwr.symm;subst hwr;clear hq1' hq2' hwe hwe1 hwq hwq2 heq he0 he00 hge;go_upto_region 21 with fail;go_loopw [15] (fun t15 wr=>∃g:Nat,n≤g∧g≤e∧t15=a o ((g:Int) - 1)∧V wr (aa Xb #[.pointer (J (L f 0 E)),.slice G m gc] 293*(ae f (nE (aM s m) x.page (bF (dU x) x.size) z (al.drop g))*(bt 3 1 (.slice (J (L bP 0 E)) q pc') q ((aB x.page q).map (a o))*(bt 3 1 (.slice (J (L bD 0 E)) q dc) q (al.map (a o))*(aa X0 #[a o x.page,a o x.size,a o x.frame,a o x.rights] 75*(QQ*R))))))∧ak w wr) (fun t15 _=>(intOf t15+1).toNat)
   case atStart=>exact⟨e,HNN.out,Nat.le_refl _,rfl,h18,x19⟩
   case round=>
    clear h18 x19;obtain⟨g,hg1,hg2,rfl,hr,hx⟩:=hrel;by_cases hgn:g=n
    ·have hnge:¬((n:Int)≤(g:Int) - 1):=by omega
     have hfin:nE (aM s m) x.page (bF (dU x) x.size) z (al.drop g)=sF:=by rw[hgn];exact HFIN.out
     have hok2:=HOKF.out (al.drop g);rw[hfin] at hr hok2;have HGN:=H hgn;have hend:V _ (ae f sF*(QQ*R)):=(hr.eq (show _=aa Xb #[.pointer (J (L f 0 E)),.slice G m gc] 293*(bt 3 1 (.slice (J (L bP 0 E)) q pc') q ((aB x.page q).map (a o))*(bt 3 1 (.slice (J (L bD 0 E)) q dc) q (al.map (a o))*(aa X0 #[a o x.page,a o x.size,a o x.frame,a o x.rights] 75*(ae f sF*(QQ*R))))) by ac_rfl)).r4;clear hgn hfin;go_wp2_with fail
     go_ret;exact⟨sF,hok2,Agree.refl sF,rfl,hend.p2.right,hx⟩
    ·obtain⟨j,hj⟩:∃j,g=j+1:=⟨g - 1,by omega⟩
     have hge:(n:Int)≤(g:Int) - 1:=by omega
     have hgj:(g:Int) - 1=(j:Int):=by omega
     have hjg:(j:Int)+1=(g:Int):=by omega
     have hqe:=HEE.out.2;have hn3e:=HN3.out;have hjq:(j:Int)< (q:Int):=by omega
     have hgq:(g:Int)< (q:Int):=by omega
     have hj0:¬((j:Int)<0):=by omega
     have hj00:(0:Int)≤(j:Int):=by omega
     have hg0:¬((g:Int)<0):=by omega
     have hg00:(0:Int)≤(g:Int):=by omega
     have hw1:IntKind.i64.wrap (j:Int)=(j:Int):=by rw[M];omega
     have hw2:IntKind.i64.wrap (g:Int)=(g:Int):=by rw[M];omega
     have hw3:IntKind.i64.wrap (3 - (j:Int))=3 - (j:Int):=by rw[M];omega
     have hw4:IntKind.i64.wrap ((j:Int) - 1)=(j:Int) - 1:=by rw[M];omega
     obtain⟨t,ht⟩:=hAlj.out j (by omega);obtain⟨k,hk⟩:=hAlj.out (j+1) (by omega);have hstep:=HSTEP.out j t k ht hk (aM s m) (bF (dU x) x.size);have hsto:=HSTO.out (nE (aM s m) x.page (bF (dU x) x.size) z (al.drop (j+1))) (HHAS.out _) j t ht (bF ⟨U,F,7,F,F,k⟩ (3 - (j:Int)));rw[←hstep] at hsto;have HPU:=H (fun R w h=>zY Xb f t (ai x.page (3 - (j:Int))) (3 - (j:Int)) (.slice G m gc) ⟨U,F,7,F,F,k⟩ (nE (aM s m) x.page (bF (dU x) x.size) z (al.drop (j+1))) R w h);rw[hsto] at HPU;dsimp only at HPU;rw[←hj] at HPU hk;have HTJ:=H (HRW.out j t ht);have HTG:=H (HRW.out g k hk);have HGG:=H (And.intro hg1 (And.intro hg2 hj));clear hstep hsto hj ht hk hqe hn3e hg1 hg2 hgn;generalize ai x.page (3 - (j:Int))=ij at HPU HTJ;generalize ai x.page (3 - (g:Int))=ig at HTG;have h17:V _ (aa Xb #[.pointer (J (L f 0 E)),.slice G m gc] 293*(ae f (nE (aM s m) x.page (bF (dU x) x.size) z (al.drop g))*(bt 3 1 (.slice (J (L bP 0 E)) q pc') q ((aB x.page q).map (a o))*(bt 3 1 (.slice (J (L bD 0 E)) q dc) q (al.map (a o))*(aa X0 #[a o x.page,a o x.size,a o x.frame,a o x.rights] 75*(QQ*R)))))):=hr.drew;have x17:=hx.drew;obtain⟨tA,tB,lD,lP⟩:=HTJ.out _ _ hr.right.right;obtain⟨gA,gB,_,_⟩:=HTG.out _ _ hr.right.right;have HKK:=H (fun(w':ad) (P' Q':ab) (h:V w' (P'*(Q'*(bt 3 1 (.slice (J (L bP 0 E)) q pc') q ((aB x.page q).map (a o))*(bt 3 1 (.slice (J (L bD 0 E)) q dc) q (al.map (a o))*(aa X0 #[a o x.page,a o x.size,a o x.frame,a o x.rights] 75*(QQ*R)))))))=>(by
      obtain⟨a1,a2,_,_⟩:=HTJ.out _ _ h.right.right;obtain⟨a3,_,_,_⟩:=HTG.out _ _ h.right.right;exact⟨a1,a2,a3⟩:w'.cell? (L bD j E)=J (a o t)∧w'.cell? (L bP j E)=J (a o ij)∧w'.cell? (L bD g E)=J (a o k)))
     generalize nE (aM s m) x.page (bF (dU x) x.size) z (al.drop g)=σg at*
     go_upto_region 23 with fail;go_region_held3 (fun w'=>w'.cell? (L bD j E)=J (a o t)∧w'.cell? (L bP j E)=J (a o ij)∧w'.cell? (L bD g E)=J (a o k)) (first|(with_reducible exact HKK.out _ _ _ h17)|(with_reducible exact HKK.out _ _ _ h18)|go_keep) (first|(go_at_call 210;(with_reducible refine(HPU.out _ _ h17).mono ?_);rintro e9 w18 ⟨rfl,h18,x18⟩))
     have x19:=x17.trans x18;go_wp2_with fail
     go_roundw
     case rel=>exact⟨j,by have:=HGG.out.2.2;omega,by have:=HGG.out.2.2;have:=HGG.out.2.1;omega,rfl,h18,x19⟩
     case measure=>simp[intOf];omega
def rR:Value:= .agg #[a o 0,I F,I F,a o 0,I F,I F,a o 0,.slice E 0 0,.slice E 0 0]
def rS(y:Wy)(A B:Option an)(c d:Nat):Value:= .agg #[a o y.lev,I y.e.there,I y.e.leaf,a o y.e.rights,I y.e.used,I y.e.dirty,a o y.e.frame,.slice A y.tabs.length c,.slice B y.tabs.length d]
def mP(s:Ms)(r p:Int)(w:ad)(e:Ending)(w':ad):Prop:=
 (bm s r p=0∧∃A B c d,e= .returned (.tuple #[rS (bo s r p) A B c d,(bJ s r p).val,a o 0])∧V w' (aq (.slice A (bo s r p).tabs.length c) (bo s r p).tabs *(aq (.slice B (bo s r p).tabs.length d) (aB p (bo s r p).tabs.length)*cr w w.heap.size))∧ak w w')∨
 (bm s r p≠0∧e= .returned (.tuple #[rR,.agg #[a o 0,a o 0,a o 0,a o 0],a o (bm s r p)])∧Below w.heap.size w w')
theorem Has.drop3'{w:ad}{A B C D:ab}(h:V w (A*(B*(C*D)))):V w (A*(B*D)):=h.drop3
set_option maxHeartbeats 4000000 in
theorem vt(f:Nat)(s:Ms)(root p:Int)(R:ab)(w:ad)(hs:s.Ok)(h:V w (ae f s*R)):
  ap prog 159 #[.pointer (J (L f 0 E)),a o root,a o p] w (mP s root p w):=by
 have h0:=((bc w).new #[a o 0,I F,I F,a o 0,I F,I F,a o 0,.slice E 0 0,.slice E 0 0] 248).new #[a o 0,a o 0,a o 0,a o 0] 75;have x0:=((Ext.refl w).alloc (.cells #[a o 0,I F,I F,a o 0,I F,I F,a o 0,.slice E 0 0,.slice E 0 0] 248)).alloc (.cells #[a o 0,a o 0,a o 0,a o 0] 75);simp only[ag] at h0;have hq:=(h.alloc (.cells #[a o 0,I F,I F,a o 0,I F,I F,a o 0,.slice E 0 0,.slice E 0 0] 248)).alloc (.cells #[a o 0,a o 0,a o 0,a o 0] 75);have W1:=H (pI f s root p R _ hs hq);have hfc:bm s root p=if(bo s root p).code ≠0 then(bo s root p).code else if(bo s root p).e.there =F then 5 else 0:=rfl
 have hfm:bJ s root p=if bm s root p=0 then aK (bo s root p).e (bo s root p).lev p else Mp.zero:=rfl
 unfold mP;generalize bm s root p=fc at*
 generalize bJ s root p=fm at*
 generalize bo s root p=y at*
 have HFC:=H (And.intro hfc hfm);clear h hq hfc hfm;go_enter func159,ntmps159;go_wp2_with fail
 refine W1.out.mono ?_;rintro e w1 hF;generalize (w.alloc (.cells #[a o 0,I F,I F,a o 0,I F,I F,a o 0,.slice E 0 0,.slice E 0 0] 248)).alloc (.cells #[a o 0,a o 0,a o 0,a o 0] 75)=w0 at*
 obtain⟨A,B,c,d,rfl,h1,x1⟩:∃(A B:Option an) (c d:Nat),e= .returned (.tuple #[.agg #[a o y.lev,I y.e.there,I y.e.leaf,a o y.e.rights,I y.e.used,I y.e.dirty,a o y.e.frame,.slice A y.tabs.length c,.slice B y.tabs.length d],a o y.code])∧V w1 (aq (.slice A y.tabs.length c) y.tabs*(aq (.slice B y.tabs.length d) (aB p y.tabs.length)*cr w0 w0.heap.size))∧ak w0 w1:=hF;have h2:=(h0.onto' (h1.a2)).a1;have x2:=x0.trans x1;clear h0 x0 h1 x1 W1;obtain⟨hfc,hfm⟩:=HFC.out;clear HFC;have h3:V _ (aa w1.heap.size #[a o y.lev,I y.e.there,I y.e.leaf,a o y.e.rights,I y.e.used,I y.e.dirty,a o y.e.frame,.slice A y.tabs.length c,.slice B y.tabs.length d] 248*(aq (.slice A y.tabs.length c) y.tabs*(aq (.slice B y.tabs.length d) (aB p y.tabs.length)*(aa (w.heap.size+1) #[a o 0,a o 0,a o 0,a o 0] 75*(aa w.heap.size #[a o 0,I F,I F,a o 0,I F,I F,a o 0,.slice E 0 0,.slice E 0 0] 248*cr w w.heap.size))))):=h2.new #[a o y.lev,I y.e.there,I y.e.leaf,a o y.e.rights,I y.e.used,I y.e.dirty,a o y.e.frame,.slice A y.tabs.length c,.slice B y.tabs.length d] 248;have x3:=x2.alloc (.cells #[a o y.lev,I y.e.there,I y.e.leaf,a o y.e.rights,I y.e.used,I y.e.dirty,a o y.e.frame,.slice A y.tabs.length c,.slice B y.tabs.length d] 248);clear h2 x2;by_cases hc:y.code=0
 case neg=>
  rw[if_pos hc] at hfc;have HF:=H (show fc=y.code∧fc≠0 from⟨hfc,by rw[hfc];exact hc⟩);have hn':(y.code !=0)=U:=by simpa using hc
  clear hc hfc hfm;go_upto_region 2 with fail;generalize w1.alloc _=w3 at*
  generalize w1.heap.size=X2 at*
  have h4:V w3 (aa w.heap.size #[a o 0,I F,I F,a o 0,I F,I F,a o 0,.slice E 0 0,.slice E 0 0] 248*(aa (w.heap.size+1) #[a o 0,a o 0,a o 0,a o 0] 75*(aa X2 #[a o y.lev,I y.e.there,I y.e.leaf,a o y.e.rights,I y.e.used,I y.e.dirty,a o y.e.frame,.slice A y.tabs.length c,.slice B y.tabs.length d] 248*cr w w.heap.size))):=by
   have:=h3.eq (show _=aq (.slice A y.tabs.length c) y.tabs*(aq (.slice B y.tabs.length d) (aB p y.tabs.length)*(aa w.heap.size #[a o 0,I F,I F,a o 0,I F,I F,a o 0,.slice E 0 0,.slice E 0 0] 248*(aa (w.heap.size+1) #[a o 0,a o 0,a o 0,a o 0] 75*(aa X2 #[a o y.lev,I y.e.there,I y.e.leaf,a o y.e.rights,I y.e.used,I y.e.dirty,a o y.e.frame,.slice A y.tabs.length c,.slice B y.tabs.length d] 248*cr w w.heap.size)))) by ac_rfl);exact this.right.right
  obtain⟨d0,d1,d2,d3,d4,d5,d6,d7,d8⟩:=h4.cells9;obtain⟨f0,f1,f2,f3,f4,f5,f6,f7,f8⟩:=h4.frees9;have dl:=h4.lt;obtain⟨c0,c1,c2,c3⟩:=h4.right.cells4;obtain⟨g0,g1,g2,g3⟩:=h4.right.frees4;have cl:=h4.right.lt;have n1:=h4.ne;have n2:=n1.symm;obtain⟨v0,v1,v2,v3,v4,v5,v6,v7,v8⟩:=h4.right.right.cells9;have vl:=h4.right.right.lt;go_wp2_with fail
  refine ay (fun wz=>V wz (aa (w.heap.size+1) #[a o 0,a o 0,a o 0,a o 0] 75*(aa w.heap.size #[a o 0,I F,I F,a o 0,I F,I F,a o 0,.slice E 0 0,.slice E 0 0] 248*cr w w.heap.size))∧ak w wz) ⟨(((h4.set9 _ _ _ _ _ _ _ _ _).p2).set4 _ _ _ _).drop3',aj⟩ ?_;rintro wz ⟨hz,xz⟩;exact Y (eT results159 rfl rfl rfl (eP hz.right) (br hz)) rfl (.inr ⟨HF.out.2,by rw[HF.out.1];rfl,aA hz.right.right xz⟩)
 case pos=>
  rw[if_neg (by rw[hc];simp)] at hfc;obtain⟨code,tabs,N,th,lf,rg,us,di,fr⟩:=y;dsimp only at*
  subst hc;cases th with
  |false=>
   rw[if_pos rfl] at hfc;have HF:=H (show fc=5∧fc≠0 from⟨hfc,by rw[hfc];decide⟩);clear hfc hfm;go_upto_region 2 with fail;generalize w1.alloc _=w3 at*
   generalize w1.heap.size=X2 at*
   have h4:V w3 (aa w.heap.size #[a o 0,I F,I F,a o 0,I F,I F,a o 0,.slice E 0 0,.slice E 0 0] 248*(aa (w.heap.size+1) #[a o 0,a o 0,a o 0,a o 0] 75*(aa X2 #[a o N,I F,I lf,a o rg,I us,I di,a o fr,.slice A tabs.length c,.slice B tabs.length d] 248*cr w w.heap.size))):=by
    have:=h3.eq (show _=aq (.slice A tabs.length c) tabs*(aq (.slice B tabs.length d) (aB p tabs.length)*(aa w.heap.size #[a o 0,I F,I F,a o 0,I F,I F,a o 0,.slice E 0 0,.slice E 0 0] 248*(aa (w.heap.size+1) #[a o 0,a o 0,a o 0,a o 0] 75*(aa X2 #[a o N,I F,I lf,a o rg,I us,I di,a o fr,.slice A tabs.length c,.slice B tabs.length d] 248*cr w w.heap.size)))) by ac_rfl);exact this.right.right
   obtain⟨d0,d1,d2,d3,d4,d5,d6,d7,d8⟩:=h4.cells9;obtain⟨f0,f1,f2,f3,f4,f5,f6,f7,f8⟩:=h4.frees9;have dl:=h4.lt;obtain⟨c0,c1,c2,c3⟩:=h4.right.cells4;obtain⟨g0,g1,g2,g3⟩:=h4.right.frees4;have cl:=h4.right.lt;have n1:=h4.ne;have n2:=n1.symm;obtain⟨v0,v1,v2,v3,v4,v5,v6,v7,v8⟩:=h4.right.right.cells9;have vl:=h4.right.right.lt;go_wp2_with fail
   refine ay (fun wz=>V wz (aa (w.heap.size+1) #[a o 0,a o 0,a o 0,a o 0] 75*(aa w.heap.size #[a o 0,I F,I F,a o 0,I F,I F,a o 0,.slice E 0 0,.slice E 0 0] 248*cr w w.heap.size))∧ak w wz) ⟨(((h4.set9 _ _ _ _ _ _ _ _ _).p2).set4 _ _ _ _).drop3',aj⟩ ?_;rintro wz ⟨hz,xz⟩;exact Y (eT results159 rfl rfl rfl (eP hz.right) (br hz)) rfl (.inr ⟨HF.out.2,by rw[HF.out.1];rfl,aA hz.right.right xz⟩)
  |true=>
   rw[if_neg (by simp)] at hfc;rw[if_pos hfc] at hfm;have HF:=H (show fc=0∧fm=aK ⟨U,lf,rg,us,di,fr⟩ N p from⟨hfc,hfm⟩);have HL:Hid (∀X,ap prog 163 #[.agg #[I U,I lf,a o rg,I us,I di,a o fr],.int .i64 N,.int .i64 p] X (Pure (aK ⟨U,lf,rg,us,di,fr⟩ N p).val X)):=H (fun X=>kg ⟨U,lf,rg,us,di,fr⟩ N p X);clear hfc hfm;generalize aK ⟨U,lf,rg,us,di,fr⟩ N p=lm at*
   go_upto_region 6 with fail;generalize w1.alloc _=w3 at*
   generalize w1.heap.size=X2 at*
   have h5:V w3 (aa w.heap.size #[a o 0,I F,I F,a o 0,I F,I F,a o 0,.slice E 0 0,.slice E 0 0] 248*(aa X2 #[a o N,I U,I lf,a o rg,I us,I di,a o fr,.slice A tabs.length c,.slice B tabs.length d] 248*(aa (w.heap.size+1) #[a o 0,a o 0,a o 0,a o 0] 75*(aq (.slice A tabs.length c) tabs*(aq (.slice B tabs.length d) (aB p tabs.length)*cr w w.heap.size))))):=h3.eq (by ac_rfl);clear h3;have h4:=h5.set9 (a o N) (I U) (I lf) (a o rg) (I us) (I di) (a o fr) (.slice A tabs.length c) (.slice B tabs.length d);have HK:=H (fun(w':ad) (P:ab) (h:V w' (aa X2 #[a o N,I U,I lf,a o rg,I us,I di,a o fr,.slice A tabs.length c,.slice B tabs.length d] 248*P))=>h.cells9);obtain⟨k0,k1,k2,k3,k4,k5,k6,k7,k8⟩:=h5.right.cells9;have kl:=h5.right.lt;obtain⟨d0,d1,d2,d3,d4,d5,d6,d7,d8⟩:=h5.cells9;obtain⟨f0,f1,f2,f3,f4,f5,f6,f7,f8⟩:=h5.frees9;have dl:=h5.lt;have n1:=h5.ne;have n2:=n1.symm;go_cut [8] from 31 to 38 (fun s8 wx=>s8=a o 0∧V wx (aa w.heap.size #[a o N,I U,I lf,a o rg,I us,I di,a o fr,.slice A tabs.length c,.slice B tabs.length d] 248*(aa (w.heap.size+1) #[a o lm.page,a o lm.size,a o lm.frame,a o lm.rights] 75*(aq (.slice A tabs.length c) tabs*(aq (.slice B tabs.length d) (aB p tabs.length)*cr w w.heap.size))))∧ak w wx)
   case first=>
    go_region_held3 (fun w'=>w'.cell? (L X2 0 E)=J (a o N)∧w'.cell? (L X2 1 E)=J (I U)∧w'.cell? (L X2 2 E)=J (I lf)∧w'.cell? (L X2 3 E)=J (a o rg)∧w'.cell? (L X2 4 E)=J (I us)∧w'.cell? (L X2 5 E)=J (I di)∧w'.cell? (L X2 6 E)=J (a o fr)∧w'.cell? (L X2 7 E)=J (.slice A tabs.length c)∧w'.cell? (L X2 8 E)=J (.slice B tabs.length d)) (first|(with_reducible exact HK.out _ _ h6.right)|(with_reducible exact HK.out _ _ g6.right)|(with_reducible exact HK.out _ _ h4.drew.right)|(with_reducible exact HK.out _ _ h5.drew.right)|go_keep) (first|(go_at_call 163;((with_reducible refine(HL.out _).mono ?_);rintro e2 w5 ⟨rfl,b5⟩;first|(have h6:=h5.drew.below b5;have x6:=x3.drew.below b5;obtain⟨y0,y1,y2,y3,y4,y5,y6,y7,y8⟩:=h6.cells9;obtain⟨z0,z1,z2,z3,z4,z5,z6,z7,z8⟩:=h6.frees9;have yl:=h6.lt;obtain⟨c0,c1,c2,c3⟩:=h6.right.right.cells4;obtain⟨g0,g1,g2,g3⟩:=h6.right.right.frees4;have cl:=h6.right.right.lt;have nn:=h6.p2.right.ne;have nn':=nn.symm;have mm:=h6.right.ne;have mm':=mm.symm)|(have g6:=h4.drew.below b5;have y6:=((x3.set9 w.heap.size (a o N) (I U) (I lf) (a o rg) (I us) (I di) (a o fr) (.slice A tabs.length c) (.slice B tabs.length d)).drew).below b5;obtain⟨c0,c1,c2,c3⟩:=g6.right.right.cells4;obtain⟨g0,g1,g2,g3⟩:=g6.right.right.frees4;have cl:=g6.right.right.lt;have mm:=g6.right.ne;have mm':=mm.symm))))
    all_goals
     go_wp2_with fail
     go_meet
     case rel=>
      first
      |(have h7:=(h6.set9 (a o N) (I U) (I lf) (a o rg) (I us) (I di) (a o fr) (.slice A tabs.length c) (.slice B tabs.length d)).eq (show _=aa (w.heap.size+1) #[a o 0,a o 0,a o 0,a o 0] 75*(aa w.heap.size #[a o N,I U,I lf,a o rg,I us,I di,a o fr,.slice A tabs.length c,.slice B tabs.length d] 248*(aa X2 #[a o N,I U,I lf,a o rg,I us,I di,a o fr,.slice A tabs.length c,.slice B tabs.length d] 248*(aq (.slice A tabs.length c) tabs*(aq (.slice B tabs.length d) (aB p tabs.length)*cr w w.heap.size)))) by ac_rfl)
        exact⟨rfl,(h7.set4 (a o lm.page) (a o lm.size) (a o lm.frame) (a o lm.rights)).p2.eq (show _=aa X2 #[a o N,I U,I lf,a o rg,I us,I di,a o fr,.slice A tabs.length c,.slice B tabs.length d] 248*(aa w.heap.size #[a o N,I U,I lf,a o rg,I us,I di,a o fr,.slice A tabs.length c,.slice B tabs.length d] 248*(aa (w.heap.size+1) #[a o lm.page,a o lm.size,a o lm.frame,a o lm.rights] 75*(aq (.slice A tabs.length c) tabs*(aq (.slice B tabs.length d) (aB p tabs.length)*cr w w.heap.size)))) by ac_rfl) |>.right,aj⟩)
      |(have h7:=(h6.eq (show _=aa (w.heap.size+1) #[a o 0,a o 0,a o 0,a o 0] 75*(aa w.heap.size #[a o 0,I F,I F,a o 0,I F,I F,a o 0,.slice E 0 0,.slice E 0 0] 248*(aa X2 #[a o N,I U,I lf,a o rg,I us,I di,a o fr,.slice A tabs.length c,.slice B tabs.length d] 248*(aq (.slice A tabs.length c) tabs*(aq (.slice B tabs.length d) (aB p tabs.length)*cr w w.heap.size)))) by ac_rfl)).set4 (a o lm.page) (a o lm.size) (a o lm.frame) (a o lm.rights)
        exact⟨rfl,(h7.p2.set9 (a o N) (I U) (I lf) (a o rg) (I us) (I di) (a o fr) (.slice A tabs.length c) (.slice B tabs.length d)).eq (show _=aa X2 #[a o N,I U,I lf,a o rg,I us,I di,a o fr,.slice A tabs.length c,.slice B tabs.length d] 248*(aa w.heap.size #[a o N,I U,I lf,a o rg,I us,I di,a o fr,.slice A tabs.length c,.slice B tabs.length d] 248*(aa (w.heap.size+1) #[a o lm.page,a o lm.size,a o lm.frame,a o lm.rights] 75*(aq (.slice A tabs.length c) tabs*(aq (.slice B tabs.length d) (aB p tabs.length)*cr w w.heap.size)))) by ac_rfl) |>.right,aj⟩)
      |(have h7:=(g6.eq (show _=aa (w.heap.size+1) #[a o 0,a o 0,a o 0,a o 0] 75*(aa w.heap.size #[a o N,I U,I lf,a o rg,I us,I di,a o fr,.slice A tabs.length c,.slice B tabs.length d] 248*(aa X2 #[a o N,I U,I lf,a o rg,I us,I di,a o fr,.slice A tabs.length c,.slice B tabs.length d] 248*(aq (.slice A tabs.length c) tabs*(aq (.slice B tabs.length d) (aB p tabs.length)*cr w w.heap.size)))) by ac_rfl)).set4 (a o lm.page) (a o lm.size) (a o lm.frame) (a o lm.rights)
        exact⟨rfl,h7.p2.eq (show _=aa X2 #[a o N,I U,I lf,a o rg,I us,I di,a o fr,.slice A tabs.length c,.slice B tabs.length d] 248*(aa w.heap.size #[a o N,I U,I lf,a o rg,I us,I di,a o fr,.slice A tabs.length c,.slice B tabs.length d] 248*(aa (w.heap.size+1) #[a o lm.page,a o lm.size,a o lm.frame,a o lm.rights] 75*(aq (.slice A tabs.length c) tabs*(aq (.slice B tabs.length d) (aB p tabs.length)*cr w w.heap.size)))) by ac_rfl) |>.right,aj⟩)
   case rest=>
    clear h5 h4 x3 HK k0 k1 k2 k3 k4 k5 k6 k7 k8 kl d0 d1 d2 d3 d4 d5 d6 d7 d8 f0 f1 f2 f3 f4 f5 f6 f7 f8 dl n1 n2;obtain⟨rfl,h9,x9⟩:=hcut;go_wp2_with fail
    refine ay (fun wz=>V wz (aa w.heap.size #[a o N,I U,I lf,a o rg,I us,I di,a o fr,.slice A tabs.length c,.slice B tabs.length d] 248*(aa (w.heap.size+1) #[a o lm.page,a o lm.size,a o lm.frame,a o lm.rights] 75*(aq (.slice A tabs.length c) tabs*(aq (.slice B tabs.length d) (aB p tabs.length)*cr w w.heap.size))))∧ak w wz) ⟨h9,x9⟩ ?_;rintro wz ⟨hz,xz⟩;exact Y (eT results159 rfl rfl rfl (eP hz) (br hz.right)) rfl (.inl ⟨HF.out.1,A,B,c,d,by rw[HF.out.2];rfl,hz.right.right,xz⟩)
set_option maxHeartbeats 4000000 in
theorem Bo(f:Nat)(s:Ms)(root p ri:Int)(R:ab)(w:ad)(hs:s.Ok)(h:V w (ae f s*R)):
  ap prog 178 #[.pointer (J (L f 0 E)),a o root,a o p,a o ri] w (cF (.tuple #[(nu s root p ri).val,a o (iV s root p ri)]) (ae f (iH s root p ri)*R) w):=by
 have h0:=h.new #[a o 0,a o 0,a o 0,a o 0] 75;have x0:=(Ext.refl w).alloc (.cells #[a o 0,a o 0,a o 0,a o 0] 75);by_cases hri:ri<0∨7<ri
 ·have hc:iV s root p ri=1:=by unfold iV;rw[if_pos hri]
  have hm:nu s root p ri=Mp.zero:=by unfold nu;rw[if_neg (by rw[hc];decide)]
  have hss:iH s root p ri=s:=by unfold iH;rw[if_neg (by rw[hc];decide)]
  rw[hc,hm,hss];clear hc hm hss h;obtain⟨c0,c1,c2,c3⟩:=h0.cells4;obtain⟨g0,g1,g2,g3⟩:=h0.frees4;have cl:=h0.lt;rcases hri with hri|hri
  ·go_enter func178,ntmps178
   go_wp2_with fail
   refine ay (fun wz=>V wz (aa w.heap.size #[a o 0,a o 0,a o 0,a o 0] 75*(ae f s*R))∧ak w wz) ⟨h0,aj⟩ ?_;rintro wz ⟨hz,xz⟩;exact Y (aF results178 rfl rfl (br hz)) rfl ⟨rfl,hz.right,xz⟩
  ·by_cases hr0:ri<0
   ·omega
   go_enter func178,ntmps178;go_wp2_with fail
   refine ay (fun wz=>V wz (aa w.heap.size #[a o 0,a o 0,a o 0,a o 0] 75*(ae f s*R))∧ak w wz) ⟨h0,aj⟩ ?_;rintro wz ⟨hz,xz⟩;exact Y (aF results178 rfl rfl (br hz)) rfl ⟨rfl,hz.right,xz⟩
 have hpc:iV s root p ri=bm s root p:=by unfold iV;rw[if_neg hri]
 have hr0:¬ri<0:=by omega
 have hr7:¬7<ri:=by omega
 have W1:=H (vt f s root p _ _ hs h0.p2);unfold mP at W1;by_cases hfc:bm s root p=0
 ·have hcode:(bo s root p).code =0:=by
   unfold bm at hfc;split at hfc
   ·rename_i hn;exact absurd hfc hn
   ·rename_i hn;simpa using hn
  obtain⟨hp,n,hn,hn3,hl,hu⟩:=gE hcode;obtain⟨t,ht⟩:∃t,(bo s root p).tabs[n]? =J t:=⟨_,af (by omega)⟩;have hst:=qV hcode ht (bF {(bo s root p).e with rights:=ri} (bo s root p).lev);have hss:iH s root p ri=eL s t (ai p (3 - (n:Int))) (bF {(bo s root p).e with rights:=ri} (bo s root p).lev):=by
   unfold iH;rw[if_pos (by rw[hpc];exact hfc),hst,nD hn ht,hl]
  have hm:nu s root p ri={bJ s root p with rights:=ri}:=by unfold nu;rw[if_pos (by rw[hpc];exact hfc)]
  have HST:=H (fun R w h=>q7 f s t (ai p (3 - (n:Int))) (bF {(bo s root p).e with rights:=ri} (bo s root p).lev) R w h);have HE:=H (j9 {(bo s root p).e with rights:=ri} (bo s root p).lev);dsimp only at HE;rw[←hss] at HST;rw[hpc,hm,hfc];rw[hfc] at W1;generalize iH s root p ri=s' at*
  generalize s.hasW t (ai p (3 - (n:Int)))=hw at*
  generalize bF {(bo s root p).e with rights:=ri} (bo s root p).lev =wd at*
  generalize ao {(bo s root p).e with rights:=ri} (bo s root p).lev =ef at*
  generalize bJ s root p=fm at*
  clear hst hss hm hpc hri h hcode hu hl hfc;have hpl:=iL p (n:=n+1) (k:=n) (by omega);rw[←hn] at hpl;generalize ai p (3 - (n:Int))=ix at*
  generalize bo s root p=y at*
  generalize aB p y.tabs.length=pls at*
  have HN:=H hn;have HT:=H ht;have HPL:=H hpl;clear ht hpl hn;go_enter func178,ntmps178;go_wp2_with fail
  refine W1.out.mono ?_;rintro e w1 hF;rcases hF with ⟨_,A,B,c,d,rfl,h1,x1⟩|⟨hfc,_⟩
  ·have h2:=(h0.onto' (h1.a2)).a1
   have x2:=x0.trans x1;clear h0 x0 h1 x1 W1;have h4:=(h2.new #[a o y.lev,I y.e.there,I y.e.leaf,a o y.e.rights,I y.e.used,I y.e.dirty,a o y.e.frame,.slice A y.tabs.length c,.slice B y.tabs.length d] 248).new #[a o fm.page,a o fm.size,a o fm.frame,a o fm.rights] 75;simp only[ag] at h4;have x4:=(x2.alloc (.cells #[a o y.lev,I y.e.there,I y.e.leaf,a o y.e.rights,I y.e.used,I y.e.dirty,a o y.e.frame,.slice A y.tabs.length c,.slice B y.tabs.length d] 248)).alloc (.cells #[a o fm.page,a o fm.size,a o fm.frame,a o fm.rights] 75);clear h2 x2;unfold rS;go_upto_region 4 with fail;generalize (w1.alloc (.cells #[a o y.lev,I y.e.there,I y.e.leaf,a o y.e.rights,I y.e.used,I y.e.dirty,a o y.e.frame,.slice A y.tabs.length c,.slice B y.tabs.length d] 248)).alloc (.cells #[a o fm.page,a o fm.size,a o fm.frame,a o fm.rights] 75)=w3 at*
   generalize w1.heap.size=X2 at*
   generalize w.heap.size=X0 at*
   have f3:=h4.free 3;have g3:=h4.right.free 3;obtain⟨m0,m1,m2,m3⟩:=h4.cells4;have ml:=h4.lt;obtain⟨k0,k1,k2,k3,k4,k5,k6,k7,k8⟩:=h4.right.cells9;have kl:=h4.right.lt;have nn:=h4.ne;have nn':=nn.symm;have h5:=((h4.p2.set 3 (a o ri)).p2.set 3 (a o ri));have x5:=(x4.set (L X2 3 E) (a o ri)).set ⟨X2+1,3,E⟩ (a o ri);have h5:V ((w3.setCell (L X2 3 E) (a o ri)).setCell ⟨X2+1,3,E⟩ (a o ri)) (aa (X2+1) #[a o fm.page,a o fm.size,a o fm.frame,a o ri] 75*(aa X2 #[a o y.lev,I y.e.there,I y.e.leaf,a o ri,I y.e.used,I y.e.dirty,a o y.e.frame,.slice A y.tabs.length c,.slice B y.tabs.length d] 248*(aq (.slice A y.tabs.length c) y.tabs*(aq (.slice B y.tabs.length d) pls*(aa X0 #[a o 0,a o 0,a o 0,a o 0] 75*(ae f s*R)))))):=h5;go_upto_region 7 with fail;generalize (w3.setCell (L X2 3 E) (a o ri)).setCell ⟨X2+1,3,E⟩ (a o ri)=w4 at*
   clear h4 x4 f3 g3 m0 m1 m2 m3 ml k0 k1 k2 k3 k4 k5 k6 k7 k8 kl nn nn';obtain⟨k0,k1,k2,k3,k4,k5,k6,k7,k8⟩:=h5.right.cells9;have kl:=h5.right.lt;go_wp2_with fail
   refine(HE.out _).mono ?_;rintro e w5 ⟨rfl,b5⟩;have h6:=h5.below b5;have x6:=x5.below b5;clear h5 x5 b5 HE k0 k1 k2 k3 k4 k5 k6 k7 k8 kl;have hNo:=HN.out;obtain⟨bA,hA1,hA2,hA3⟩:=fg (h6.right.right) (k:=n) (by omega);have hpll:pls.length=y.tabs.length:=by
    have:=fh h6.r3;exact this.symm
   obtain⟨bB,hB1,hB2,hB3⟩:=fg (h6.r3) (k:=n) (by omega);have hAt:y.tabs[n]'(by omega)=t:=(O.1 HT.out).2;have hBt:pls[n]'(by omega)=ix:=(O.1 HPL.out).2;rw[hAt] at hA3;rw[hBt] at hB3;subst hA1;subst hB1;have hni:(n:Int)<y.tabs.length:=by omega
   have hlen1:((y.tabs.length:Nat):Int) - 1=(n:Int):=by omega
   obtain⟨k0,k1,k2,k3,k4,k5,k6,k7,k8⟩:=h6.right.cells9;have kl:=h6.right.lt;have HLN:=H hlen1;clear hpll hAt hBt hlen1 hNo;go_upto_region 8 with fail;go_cut [15] from 48 to 52 (fun s15 wx=>s15=a o n∧wx=w5)
   case first=>
    have hlen1:=HLN.out;go_wp2_with fail
    go_meet
    case rel=>exact⟨by first|rfl|(rw[←hlen1];done)|(rw[←hlen1];go_num),rfl⟩
   case rest=>
   obtain⟨rfl,hwr⟩:=hcut;replace hwr:=hwr.symm;subst hwr;have hn0:¬((n:Int)<0):=by omega
   have h7:V w5.drew (ae f s*(aa (X2+1) #[a o fm.page,a o fm.size,a o fm.frame,a o ri] 75*(aa X2 #[a o y.lev,I y.e.there,I y.e.leaf,a o ri,I y.e.used,I y.e.dirty,a o y.e.frame,.slice (J (L bA 0 E)) y.tabs.length c,.slice (J (L bB 0 E)) y.tabs.length d] 248*(aq (.slice (J (L bA 0 E)) y.tabs.length c) y.tabs*(aq (.slice (J (L bB 0 E)) y.tabs.length d) pls*(aa X0 #[a o 0,a o 0,a o 0,a o 0] 75*R)))))):=(h6.eq (show _=ae f s*(aa (X2+1) #[a o fm.page,a o fm.size,a o fm.frame,a o ri] 75*(aa X2 #[a o y.lev,I y.e.there,I y.e.leaf,a o ri,I y.e.used,I y.e.dirty,a o y.e.frame,.slice (J (L bA 0 E)) y.tabs.length c,.slice (J (L bB 0 E)) y.tabs.length d] 248*(aq (.slice (J (L bA 0 E)) y.tabs.length c) y.tabs*(aq (.slice (J (L bB 0 E)) y.tabs.length d) pls*(aa X0 #[a o 0,a o 0,a o 0,a o 0] 75*R))))) by ac_rfl)).drew;have x7:=x6.drew;have HK:=H (fun(w':ad) (P Q:ab) (h:V w' (P*(Q*(aa X2 #[a o y.lev,I y.e.there,I y.e.leaf,a o ri,I y.e.used,I y.e.dirty,a o y.e.frame,.slice (J (L bA 0 E)) y.tabs.length c,.slice (J (L bB 0 E)) y.tabs.length d] 248*(aq (.slice (J (L bA 0 E)) y.tabs.length c) y.tabs*(aq (.slice (J (L bB 0 E)) y.tabs.length d) pls*(aa X0 #[a o 0,a o 0,a o 0,a o 0] 75*R)))))))=>(by
    obtain⟨b1,e1,_,q1⟩:=fg (h.r3) (k:=n) (by have:=HN.out;omega);have hpll:pls.length=y.tabs.length:=(fh h.right.r3).symm;obtain⟨b2,e2,_,q2⟩:=fg (h.right.r3) (k:=n) (by have:=HN.out;omega);injection e1 with e1;injection e1 with e1
    injection e2 with e2;injection e2 with e2
    subst e1;subst e2;rw[(O.1 HT.out).2] at q1;rw[(O.1 HPL.out).2] at q2;exact⟨h.right.right.cell 7,h.right.right.cell 8,q1,q2⟩:w'.cell? (L X2 7 E)=J (.slice (J (L bA 0 E)) y.tabs.length c)∧w'.cell? (L X2 8 E)=J (.slice (J (L bB 0 E)) y.tabs.length d)∧w'.cell? (L bA n E)=J (a o t)∧w'.cell? (L bB n E)=J (a o ix)))
   clear k0 k1 k2 k3 k4 k5 k6;go_upto_region 9 with fail;go_region_held3 (fun w'=>w'.cell? (L X2 7 E)=J (.slice (J (L bA 0 E)) y.tabs.length c)∧w'.cell? (L X2 8 E)=J (.slice (J (L bB 0 E)) y.tabs.length d)∧w'.cell? (L bA n E)=J (a o t)∧w'.cell? (L bB n E)=J (a o ix)) (first|(with_reducible exact HK.out _ _ _ h7)|(with_reducible exact HK.out _ _ _ h8)|go_keep) (first|(go_at_call 211;(with_reducible refine(HST.out _ _ h7).mono ?_);rintro e w8 ⟨rfl,h8,x8⟩))
   have x9:=x7.trans x8;have h9:V w8 (aa X0 #[a o 0,a o 0,a o 0,a o 0] 75*(aa (X2+1) #[a o fm.page,a o fm.size,a o fm.frame,a o ri] 75*(aa X2 #[a o y.lev,I y.e.there,I y.e.leaf,a o ri,I y.e.used,I y.e.dirty,a o y.e.frame,.slice (J (L bA 0 E)) y.tabs.length c,.slice (J (L bB 0 E)) y.tabs.length d] 248*(aq (.slice (J (L bA 0 E)) y.tabs.length c) y.tabs*(aq (.slice (J (L bB 0 E)) y.tabs.length d) pls*(ae f s'*R)))))):=h8.eq (by ac_rfl);clear h6 x6 h7 x7 h8 x8 HK HST k7 k8 kl;obtain⟨m0,m1,m2,m3⟩:=h9.right.cells4;have ml:=h9.right.lt;obtain⟨r0,r1,r2,r3⟩:=h9.cells4;obtain⟨q0,q1,q2,q3⟩:=h9.frees4;have rl:=h9.lt;go_wp2_with fail
   refine ay (fun wz=>V wz (aa X0 #[a o fm.page,a o fm.size,a o fm.frame,a o ri] 75*(aa (X2+1) #[a o fm.page,a o fm.size,a o fm.frame,a o ri] 75*(aa X2 #[a o y.lev,I y.e.there,I y.e.leaf,a o ri,I y.e.used,I y.e.dirty,a o y.e.frame,.slice (J (L bA 0 E)) y.tabs.length c,.slice (J (L bB 0 E)) y.tabs.length d] 248*(aq (.slice (J (L bA 0 E)) y.tabs.length c) y.tabs*(aq (.slice (J (L bB 0 E)) y.tabs.length d) pls*(ae f s'*R))))))∧ak w wz) ⟨h9.set4 _ _ _ _,aj⟩ ?_;rintro wz ⟨hz,xz⟩;exact Y (aF results178 rfl rfl (br hz)) rfl ⟨rfl,hz.right.right.r3,xz⟩
  ·exact absurd rfl hfc
 ·have hss:iH s root p ri=s:=by unfold iH;rw[if_neg (by rw[hpc];exact hfc)]
  have hm:nu s root p ri=Mp.zero:=by unfold nu;rw[if_neg (by rw[hpc];exact hfc)]
  rw[hss,hm,hpc];have hn:(bm s root p !=0)=U:=by simpa using hfc
  generalize bm s root p=fc at*
  clear hss hm hpc h hri;go_enter func178,ntmps178;go_wp2_with fail
  refine W1.out.mono ?_;rintro e w1 hF;rcases hF with ⟨h0',_⟩|⟨_,rfl,b1⟩
  ·exact absurd h0' hfc
  ·have h1:=h0.below b1
   have x1:=x0.below b1;clear h0 x0 b1 W1 hfc;have h4:V _ (aa w.heap.size #[a o 0,a o 0,a o 0,a o 0] 75*(ae f s*(aa (w1.heap.size+1) #[a o 0,a o 0,a o 0,a o 0] 75*(aa w1.heap.size #[a o 0,I F,I F,a o 0,I F,I F,a o 0,.slice E 0 0,.slice E 0 0] 248*R)))):=((h1.new #[a o 0,I F,I F,a o 0,I F,I F,a o 0,.slice E 0 0,.slice E 0 0] 248).new #[a o 0,a o 0,a o 0,a o 0] 75).eq (by simp only[ag];ac_rfl);have x4:=(x1.alloc (.cells #[a o 0,I F,I F,a o 0,I F,I F,a o 0,.slice E 0 0,.slice E 0 0] 248)).alloc (.cells #[a o 0,a o 0,a o 0,a o 0] 75);clear h1 x1;unfold rR;go_upto_region 4 with fail;generalize (w1.alloc (.cells #[a o 0,I F,I F,a o 0,I F,I F,a o 0,.slice E 0 0,.slice E 0 0] 248)).alloc (.cells #[a o 0,a o 0,a o 0,a o 0] 75)=w3 at*
   generalize w1.heap.size=X2 at*
   generalize w.heap.size=X0 at*
   obtain⟨r0,r1,r2,r3⟩:=h4.cells4;obtain⟨q0,q1,q2,q3⟩:=h4.frees4;have rl:=h4.lt;go_wp2_with fail
   refine ay (fun wz=>V wz (aa X0 #[a o 0,a o 0,a o 0,a o 0] 75*(ae f s*(aa (X2+1) #[a o 0,a o 0,a o 0,a o 0] 75*(aa X2 #[a o 0,I F,I F,a o 0,I F,I F,a o 0,.slice E 0 0,.slice E 0 0] 248*R))))∧ak w wz) ⟨h4.set4 _ _ _ _,aj⟩ ?_;rintro wz ⟨hz,xz⟩;exact Y (aF results178 rfl rfl (br hz)) rfl ⟨rfl,hz.right.eq (show _=aa (X2+1) #[a o 0,a o 0,a o 0,a o 0] 75*(aa X2 #[a o 0,I F,I F,a o 0,I F,I F,a o 0,.slice E 0 0,.slice E 0 0] 248*(ae f s*R)) by ac_rfl) |>.right.right,xz⟩
end Go.Proofs.YtmfheghbgihdmaaGreatDoor
