/- Contracts of the document's core on what it keeps: Kept, Drop, Put. -/
import Derived.Test.YtmfheghbgihdmaaGreatRowsO
import Derived.Test.YtmfheghbgihdmaaGreatTlPut
import Derived.Test.YtmfheghbgihdmaaGreatRefPage
import Derived.Test.YtmfheghbgihdmaaGreatTblM3
import Derived.Test.YtmfheghbgihdmaaGreatFrames3
import Derived.Test.YtmfheghbgihdmaaGreatInsM2
import Derived.Test.YtmfheghbgihdmaaGreatRefEnt5
import Derived.BigQuiet
import Derived.Deep.RegionHeld3
import Derived.Deep.DeepCutAuto
namespace Go.Proofs.YtmfheghbgihdmaaGreat
open Go.IntKind renaming u64→vU
open Option renaming none→o,some→D
open Go.Value renaming int→B,bool→J
open Go.IntKind renaming i64→C,wrap_i64→an
open Go.Lib renaming hid→E
open Bool renaming false→F,true→M
open Go.Addr renaming mk→H
open Go.Proofs.YtmfheghbgihdmaaGreat renaming Has→I,lev→T,Ext→a4
open Go.Proofs.YtmfheghbgihdmaaGreat.Ms renaming new→N,has_iff→bb
open Go renaming World→O,Addr→V,Calls→ax,Value→a3
open Go.Proofs.YtmfheghbgihdmaaGreat.Has renaming cell→P,rowOSmall→S,lt→al,free→a0,rowONil→a5,set→a6,rowNil→a7,p2→bd,new→bf
open Go.Ending renaming returned→U
open List renaming length_append→ad,getElem?_eq_some_iff→af,getElem?_eq_getElem→ag
open Tryz
open Go.RowKit
set_option maxRecDepth 100000
theorem om:jp prog 129 lnZero 5 40:=⟨by kernel_rfl,rfl,by omega⟩
def gy(v:a3)(l:List Ln):ae:=mO 129 5 v l.length (bT l)
section
variable {w:O} {R:ae} {A:Option V} {n c:Nat} {l:List Ln}
theorem sY(h:I w (gy (.slice A n c) l*R)):n=l.length:=by
 obtain⟨A',c',e⟩:=Has.rowOForm (e:=129) (size:=5) h;injection e
theorem iA(h:I w (gy (.slice A n c) l*R)){k:Nat}(hk:k<l.length):
  ∃b off,A=D (H b off o)∧b<w.heap.size∧
   (w.cell? ⟨b,off+k*5,o⟩=D (B C l[k].m.page)∧w.cell? ⟨b,off+k*5+1,o⟩=D (B C l[k].m.size)∧w.cell? ⟨b,off+k*5+2,o⟩=D (B C l[k].m.frame)∧w.cell? ⟨b,off+k*5+3,o⟩=D (B C l[k].m.rights)∧w.cell? ⟨b,off+k*5+4,o⟩=D (J l[k].dirty)):=by
 obtain rfl:=sY h;have g:=fun t (ht:t<5)=>Has.rowOGet (e:=129) (size:=5) h (i:=k*5+t) (u:=(l[k].cells[t]'(by rw[gK];exact ht))) (by
  have:=kU (cells:=Ln.cells) gK hk ht;rw[ag (l:=l[k].cells) (by rw[gK];exact ht)] at this;exact this)
 obtain⟨b,off,rfl,hb,c0⟩:=g 0 (by omega);obtain⟨b1,o1,e1,_,c1⟩:=g 1 (by omega);obtain⟨b2,o2,e2,_,c2⟩:=g 2 (by omega);obtain⟨b3,o3,e3,_,c3⟩:=g 3 (by omega);obtain⟨b4,o4,e4,_,c4⟩:=g 4 (by omega);injection e1 with e1;injection e1 with e1 f1;subst e1;subst f1
 injection e2 with e2;injection e2 with e2 f2;subst e2;subst f2
 injection e3 with e3;injection e3 with e3 f3;subst e3;subst f3
 injection e4 with e4;injection e4 with e4 f4;subst e4;subst f4
 simp only[←Nat.add_assoc,Nat.add_zero] at c0 c1 c2 c3 c4;exact⟨b,off,rfl,hb,c0,c1,c2,c3,c4⟩
end
def cK(q:Nat)(v:a3)(k:Ck):ae:=aa q #[v,J k.on,B C k.a.page,B C k.a.kind,J k.a.user,B C k.t,B C k.level,J k.mark,B vU k.w] 66
def aP(q:Nat)(A:Option V)(c:Nat)(l:List Ln)(k:Ck)(R:ae):ae:=cK q (.slice A l.length c) k*(gy (.slice A l.length c) l*R)
theorem yp(q:Nat)(A:Option V)(c:Nat)(l:List Ln)(k:Ck)(p:Int)(R:ae)(w:O)(hok:∀x∈l,cy x.m.page)(hp:cy p)(h:I w (aP q A c l k R)):
  ax prog 117 #[.pointer (D (H q 0 o)),.int .i64 p] w (Pure (B C (Tl.idx l p)) w):=by
 have hbig:=(S (e:=129) (size:=5) h.right).1;have he:Tl.idx l p=oz (fun x=>over x.m p) l:=rfl;rw[he];have c0:w.cell? (H q 0 o)=D (.slice A l.length c):=P h 0;go_enter func117,ntmps117;go_wp2_with fail
 go_loopw [5] (fun s5 wr=>∃i:Nat,i≤l.length∧s5=B C i∧Below w.heap.size w wr∧Hid (∀j (hj:j<l.length),j<i→over l[j].m p=F)) (fun s5 _=>l.length - (intOf s5).toNat)
 case atStart=>exact⟨0,Nat.zero_le _,rfl,Below.refl _ _,E fun j _ h=>absurd h (Nat.not_lt_zero _)⟩
 case round=>
  obtain⟨i,hi,rfl,BW,HA⟩:=hrel;have h':=h.below BW;clear c0;have c0:wr.cell? (H q 0 o)=D (.slice A l.length c):=P h' 0;have cl:=al h';have BW':=E BW;clear BW;by_cases hlt:i<l.length
  ·obtain⟨b,off,rfl,hb,d0,d1,d2,d3,_⟩:=iA h'.right hlt
   have HC:=E (jo l[i].m p wr (hok _ (List.getElem_mem hlt)) hp);have hz:=E (show(l[i]=l[i]) from rfl);generalize hx:l[i]=x at d0 d1 d2 d3 HC;have HX:=E hx;clear hx hz h' h;cases hq:over x.m p with
   |true=>
    rw[hq] at HC;go_wp2_with(refine HC.out.mono ?_;rintro e w' ⟨rfl,hb'⟩)
    go_ret;exact⟨by rw[mG hlt (by rw[HX.out];exact hq) HA.out];rfl,BW'.out.trans (hb'.mono BW'.out.size)⟩
   |false=>
    rw[hq] at HC;go_wp2_with(refine HC.out.mono ?_;rintro e w' ⟨rfl,hb'⟩)
    go_roundw
    case rel=>
     refine⟨i+1,by omega,by go_num,BW'.out.trans (hb'.mono BW'.out.size),E fun j hj hjk=> ?_⟩;by_cases e:j=i
     ·subst e;rw[HX.out];exact hq
     ·exact HA.out j hj (by omega)
    case measure=>simp[intOf];omega
  ·have:i=l.length:=by omega
   subst this;go_wp2_with fail
   go_ret;exact⟨by rw[lq fun j hj=>HA.out j hj hj];rfl,BW'.out⟩
theorem dropR(q:Nat)(A:Option V)(c:Nat)(l:List Ln)(k:Ck)(m:Mp)(R:ae)(w:O)(hok:∀x∈l,cy x.m.page)(hm:cy m.page)(hl:l.length≤1000)(h:I w (aP q A c l k R)):
  ax prog 126 #[.pointer (D (H q 0 o)),.agg #[B C m.page,B C m.size,B C m.frame,B C m.rights]] w
   fun e w'=>∃A' c',cN (B C ((l.length:Int) - (Tl.drop l m).length)) (aP q A' c' (Tl.drop l m) k R) w e w':=by
 have hbig:=(S (e:=129) (size:=5) h.right).1;have h1:=bf h #[B C m.page,B C m.size,B C m.frame,B C m.rights] 39;have x1:=(Ext.refl w).alloc (.cells #[B C m.page,B C m.size,B C m.frame,B C m.rights] 39);have h2:I (w.alloc (.cells #[B C m.page,B C m.size,B C m.frame,B C m.rights] 39)) (mO 129 5 (.slice o 0 0) 0 []*(aa w.heap.size #[B C m.page,B C m.size,B C m.frame,B C m.rights] 39*aP q A c l k R)):=a5 h1;clear h h1;go_enter func126,ntmps126;go_wp2_with fail
 go_loopw [5,6] (fun s5 s6 wr=>∃(i:Nat) (A':Option V) (c':Nat) (kept:List Ln),i≤l.length∧s6=B C i∧s5= .slice A' kept.length c'∧kept.length≤i∧Hid (kept=(l.take i).filter fun x=> !dH x.m m)∧
   I wr (gy (.slice A' kept.length c') kept*(aa w.heap.size #[B C m.page,B C m.size,B C m.frame,B C m.rights] 39*aP q A c l k R))∧a4 w wr) (fun _ s6 _=>l.length - (intOf s6).toNat)
 case atStart=>exact⟨0,o,0,[],Nat.zero_le _,rfl,rfl,Nat.zero_le _,E rfl,h2,x1⟩
 case round=>
  clear h2 x1;obtain⟨i,A',c',kept,hi,rfl,rfl,hkl,HK,hr,hx⟩:=hrel;have hsm:=(S (e:=129) (size:=5) hr).1;have hcore:=hr.right.right;have c0:wr.cell? (H q 0 o)=D (.slice A l.length c):=P hcore 0;have cl:=al hcore;by_cases hlt:i<l.length
  ·obtain⟨b,off,rfl,hb,d0,d1,d2,d3,d4⟩:=iA hcore.right hlt
   have hxo:=hok _ (List.getElem_mem hlt);have HN:=E (jH (p:=fun x=> !dH x.m m) hlt);have HX:=E (show l[i]=l[i] from rfl);generalize hgx:l[i]=x at d0 d1 d2 d3 d4 hxo HN;have HGX:=E hgx;clear hgx HX;have v0:=ab c0;have vd0:=ab d0;have vd1:=ab d1;have vd2:=ab d2;have vd3:=ab d3;obtain⟨e0,e1,e2,e3⟩:=hr.right.cells4;have ve0:=ab e0;have ve1:=ab e1;have ve2:=ab e2;have ve3:=ab e3;have HC:=E (fun W=>pH x.m m W hxo hm);cases hq:dH x.m m with
   |true=>
    rw[hq] at HC;go_wp2_with fail
    refine aq (by kernel_rfl) (by kernel_rfl) ?_;repeat(first|go_big_quiet_step ((go_at_call 146;exact Pure.via (HC.out _)))|quiet_step ((go_at_call 146;exact Pure.via (HC.out _))))
    refine wpQuiet_nil ?_;intro _ hw';obtain⟨uq,hw''⟩:=hw';subst hw'';go_wp2_with fail
    go_roundw
    case rel=>exact⟨i+1,A',c',kept,by omega,by go_num,rfl,by omega,E (by rw[HN.out,hq,←HK.out];simp),hr.via uq,hx.below (aA _ _)⟩
    case measure=>simp[intOf];omega
   |false=>
    rw[hq] at HC;go_wp2_with fail
    refine aq (by kernel_rfl) (by kernel_rfl) ?_;repeat(first|go_big_quiet_step ((go_at_call 146;exact Pure.via (HC.out _)))|quiet_step ((go_at_call 146;exact Pure.via (HC.out _))))
    refine wpQuiet_nil ?_;intro _ hw';obtain⟨uq,hw''⟩:=hw';subst hw'';have hv:=hr.via uq;have xv:=hx.below (aA wr uq);clear v0 vd0 vd1 vd2 vd3 ve0 ve1 ve2 ve3 c0 d0 d1 d2 d3 d4 e0 e1 e2 e3 cl hb;generalize ga wr uq=wv at*
    have c0:wv.cell? (H q 0 o)=D (.slice (D (H b off o)) l.length c):=P hv.right.right 0;have cl:=al hv.right.right;obtain⟨b',off',he,hb,d0,d1,d2,d3,d4⟩:=iA hv.r3 hlt;injection he with he;injection he with he1 he2;subst he1;subst he2
    rw[HGX.out] at d0 d1 d2 d3 d4;have hrow:=hv.alloc (.cells #[B C x.m.page,B C x.m.size,B C x.m.frame,B C x.m.rights,J x.dirty] 129);clear hcore hr hx HC;go_wp2_with(at_builtin;refine kL rfl _ _ 63 rfl underlying63 om _ _ _ rfl hrow (H wv.heap.size 0 o) 1 1 x.cells rfl rfl (dq wv x.cells 129) (jU x) ?c2 ?c3 ?_)
    case c2=>unfold maxLen;omega
    case c3=>omega
    intro A2 c2 w2 h2 x2;go_wp2_with fail
    go_roundw
    case rel=>
     refine⟨i+1,A2,c2,kept++[x],by omega,by go_num,by rw[ad];rfl,by simp;omega,E (by rw[HN.out,hq,←HK.out];simp),?_,(xv.alloc _).trans x2⟩;have e1:bT (kept++[x])=bT kept++x.cells:=by rw[gu];simp[bT]
     unfold gy;rw[e1,ad];exact h2
    case measure=>simp[intOf];omega
  ·have:i=l.length:=by omega
   subst this;have hf:kept=Tl.drop l m:=by rw[HK.out,List.take_length];rfl
   have HF:=E hf;clear hf;have cf:=a0 hcore 0;have hfin:I wr (cK q (.slice A l.length c) k*(gy (.slice A' kept.length c') kept*R)):=by
    have:=hr.p2.right;unfold aP at this;exact this.p2.drop3
   go_wp2_with fail
   go_ret;rw[←HF.out];exact⟨A',c',by go_num,a6 hfin 0 _,hx.set _ _⟩
def aT(q:Nat)(l:List Ln)(k:Ck):ae:=ex fun A=>ex fun c=>aP q A c l k (ei True)
theorem dg{q:Nat}{l:List Ln}{k:Ck}{R:ae}{w:O}(h:I w (aT q l k*R)):∃A c,I w (aP q A c l k R):=by
 unfold aT at h;obtain⟨g,h⟩:=aG.1 h;obtain⟨vf,h⟩:=aG.1 h;refine⟨g,vf,?_⟩;unfold aP at h⊢;simpa only[aI,kb] using h
theorem bK{q c:Nat}{A:Option V}{l:List Ln}{k:Ck}{R:ae}{w:O}(h:I w (aP q A c l k R)):I w (aT q l k*R):=by
 unfold aT;refine aG.2 ⟨A,aG.2 ⟨c,?_⟩⟩;unfold aP at h⊢;simpa only[aI,kb] using h
theorem nE{q c X:Nat}{A:Option V}{l:List Ln}{k:Ck}{x:Ln}{cs:Array a3}{t:TypeId}{R:ae}{w:O}(h:I w (cK q (.slice A (l.length+1) c) k*(mO 129 5 (.slice A (l.length+1) c) (l.length+1) (bT l++x.cells)*(aa X cs t*R)))):
  I w (aT q (l++[x]) k*R):=by
 have h1:=h.drop3;refine bK (A:=A) (c:=c) ?_;unfold aP gy;rw[show(l++[x]).length =l.length+1 by simp,gu,show bT [x]=x.cells by simp[bT]];exact h1
theorem uZ(q:Nat)(l:List Ln)(k:Ck)(x:Ln)(R:ae)(w:O)(hc:bg x.m≠0)(h:I w (aT q l k*R)):
  ax prog 68 #[.pointer (D (H q 0 o)),.agg #[B C x.m.page,B C x.m.size,B C x.m.frame,B C x.m.rights,J x.dirty]] w (cN (J F) (aT q l k*R) w):=by
 have h1:=h.new #[B C x.m.page,B C x.m.size,B C x.m.frame,B C x.m.rights,J x.dirty] 129;have x1:=(Ext.refl w).alloc (.cells #[B C x.m.page,B C x.m.size,B C x.m.frame,B C x.m.rights,J x.dirty] 129);obtain⟨d0,d1,d2,d3,d4⟩:=h1.cells5;have hn:(bg x.m !=0)=M:=by simpa using hc
 have HC:=E (gP x.m);generalize bg x.m=kk at*
 go_enter func68,ntmps68;go_wp2_with(refine(HC.out _).mono ?_;rintro e w2 ⟨rfl,b2⟩)
 go_ret;exact⟨rfl,h1.right.below b2,x1.below b2⟩
theorem sZ(q:Nat)(l:List Ln)(k:Ck)(x:Ln)(R:ae)(w:O)(hok:yI l)(hx:cy x.m.page)(hl:l.length≤1000)(hc:bg x.m=0)(h:I w (aT q l k*R)):
  ax prog 68 #[.pointer (D (H q 0 o)),.agg #[B C x.m.page,B C x.m.size,B C x.m.frame,B C x.m.rights,J x.dirty]] w (cN (J M) (aT q (Tl.room (Tl.drop l x.m)++[x]) k*R) w):=by
 have h1:=h.new #[B C x.m.page,B C x.m.size,B C x.m.frame,B C x.m.rights,J x.dirty] 129;have x1:=(Ext.refl w).alloc (.cells #[B C x.m.page,B C x.m.size,B C x.m.frame,B C x.m.rights,J x.dirty] 129);obtain⟨d0,d1,d2,d3,d4⟩:=h1.cells5;have HC:=E (gP x.m);rw[hc] at HC;have HD:=E (fun A c R w h=>dropR q A c l k x.m R w hok hx hl h);have hle:(Tl.drop l x.m).length ≤l.length:=List.length_filter_le _ _;clear hc;generalize Tl.drop l x.m=l1 at*
 by_cases h6:l1.length=6
 ·have hr:Tl.room l1=l1.tail:=by unfold Tl.room;rw[if_pos h6]
  rw[hr];go_enter func68,ntmps68;go_wp2_with fail
  refine(HC.out _).mono ?_;rintro e w2 ⟨rfl,b2⟩;have h2:=h1.below b2;have x2:=x1.below b2;clear d0 d1 d2 d3 d4;obtain⟨d0,d1,d2,d3,d4⟩:=h2.cells5;obtain⟨A,c,h2⟩:=dg h2.p2;go_wp2_with fail
  refine(HD.out _ _ _ _ h2).mono ?_;rintro e w3 ⟨A3,c3,rfl,h3,x3⟩;have x3:=x2.trans x3;have hsm3:=(S (e:=129) (size:=5) h3.right).2;rw[h6] at hsm3;obtain⟨g,off,rfl⟩:∃g off,A3=D (H g off o):=by
   obtain⟨g,off,e,_⟩:=iA h3.right (k:=0) (by omega);exact⟨g,off,e⟩
  have c0:w3.cell? (H q 0 o)=D (.slice (D (H g off o)) l1.length c3):=P h3 0;rw[h6] at c0;have cp:=al h3;have cf:=a0 h3 0;have ht:I w3 (gy (.slice (D ⟨g,off+5,o⟩) l1.tail.length (c3 - 1)) l1.tail*(cK q (.slice (D (H g off o)) l1.length c3) k*(aa w.heap.size #[B C x.m.page,B C x.m.size,B C x.m.frame,B C x.m.rights,J x.dirty] 129*R))):=by
   have h4:=h3.p2;unfold gy at h4;cases l1 with
   |nil=>simp at h6
   |cons y l1=>
    have h5:=Has.rowOTail h4;rw[if_neg (by omega)] at h5;exact h5
  have hl':l1.tail.length≤1000:=by simp[h6]
  have h5t:l1.tail.length=5:=by simp[h6]
  have ht2:=(bd ht).set 0 (.slice (D ⟨g,off+5,o⟩) l1.tail.length (c3 - 1));have h4:I (w3.setCell (H q 0 o) (.slice (D ⟨g,off+5,o⟩) 5 (c3 - 1))) (aP q (D ⟨g,off+5,o⟩) (c3 - 1) l1.tail k (aa w.heap.size #[B C x.m.page,B C x.m.size,B C x.m.frame,B C x.m.rights,J x.dirty] 129*R)):=by
   rw[h5t] at ht2;unfold aP;rw[h5t];rw[←h5t] at ht2⊢;exact ht2
  have x4:=x3.set (H q 0 o) (.slice (D ⟨g,off+5,o⟩) 5 (c3 - 1));generalize l1.tail=l2 at*
  have hc1:¬c3=1:=by omega
  clear d0 d1 d2 d3 d4 h1 h2 x1 x2 h HC HD ht ht2 h5t hle hr x3 h3 h6;go_wp2_with fail
  generalize w3.setCell (H q 0 o) (.slice (D ⟨g,off+5,o⟩) 5 (c3 - 1))=wz at*
  clear c0 cp cf;have hsm:=(S (e:=129) (size:=5) h4.right).1;have c0:=P h4 0;have cp:=al h4;have cf:=a0 h4 0;obtain⟨d0,d1,d2,d3,d4⟩:=h4.right.right.cells5;have dl:=h4.right.right.lt;have hrow:=(bd h4.drew).alloc (.cells #[B C x.m.page,B C x.m.size,B C x.m.frame,B C x.m.rights,J x.dirty] 129);go_region_law (refine iY rfl (.tmp 31) (.tmp 33) 63 rfl underlying63 om _ _ _ (by simp[Act.eval]) hrow (H wz.heap.size 0 o) 1 1 x.cells (by simp[Act.eval]) rfl (dq wz.drew x.cells 129) (jU x) (by unfold maxLen;omega) (by omega) ?_;intro A' c' w5 h5 x5;have g0:=al h5.right;have g1:=a0 h5.right 0;have g2:=P h5.right 0)
  all_goals
   go_wp2_with fail
   go_ret;exact⟨rfl,nE (a6 h5.p2 0 _),((x4.drew.alloc _).trans x5).set _ _⟩
 ·have hr:Tl.room l1=l1:=by unfold Tl.room;rw[if_neg h6]
  rw[hr];have h6':((l1.length:Int)==6)=F:=beq_eq_false_iff_ne.2 (by omega);clear hr h6;go_enter func68,ntmps68;go_wp2_with fail
  refine(HC.out _).mono ?_;rintro e w2 ⟨rfl,b2⟩;have h2:=h1.below b2;have x2:=x1.below b2;clear d0 d1 d2 d3 d4;obtain⟨d0,d1,d2,d3,d4⟩:=h2.cells5;obtain⟨A,c,h2⟩:=dg h2.p2;go_wp2_with fail
  refine(HD.out _ _ _ _ h2).mono ?_;rintro e wz ⟨A,c,rfl,h4,x3⟩;have x4:=x2.trans x3;clear d0 d1 d2 d3 d4 h1 h2 x1 x2 h HC HD;have hl':l1.length≤1000:=by omega
  clear hle;have c0:wz.cell? (H q 0 o)=D (.slice A l1.length c):=P h4 0;have cp:=al h4;go_wp2_with fail
  have hsm:=(S (e:=129) (size:=5) h4.right).1;have c0:=P h4 0;have cp:=al h4;have cf:=a0 h4 0;obtain⟨d0,d1,d2,d3,d4⟩:=h4.right.right.cells5;have dl:=h4.right.right.lt;have hrow:=(bd h4.drew).alloc (.cells #[B C x.m.page,B C x.m.size,B C x.m.frame,B C x.m.rights,J x.dirty] 129);go_region_law (refine iY rfl (.tmp 31) (.tmp 33) 63 rfl underlying63 om _ _ _ (by simp[Act.eval]) hrow (H wz.heap.size 0 o) 1 1 x.cells (by simp[Act.eval]) rfl (dq wz.drew x.cells 129) (jU x) (by unfold maxLen;omega) (by omega) ?_;intro A' c' w5 h5 x5;have g0:=al h5.right;have g1:=a0 h5.right 0;have g2:=P h5.right 0)
  all_goals
   go_wp2_with fail
   go_ret;exact⟨rfl,nE (a6 h5.p2 0 _),((x4.drew.alloc _).trans x5).set _ _⟩
theorem yq(q:Nat)(l:List Ln)(k:Ck)(x:Ln)(R:ae)(w:O)(hl:Tl.Ok l)(hx:cy x.m.page)(h:I w (aT q l k*R)):
  ax prog 68 #[.pointer (D (H q 0 o)),.agg #[B C x.m.page,B C x.m.size,B C x.m.frame,B C x.m.rights,J x.dirty]] w (cN (J (decide (bg x.m=0))) (aT q (Tl.put l x) k*R) w):=by
 unfold Tl.put;by_cases hc:bg x.m=0
 ·rw[if_pos hc,decide_eq_true hc]
  exact sZ q l k x R w hl.lok hx (Nat.le_trans hl.len (by omega)) hc h
 ·rw[if_neg hc,decide_eq_false hc]
  exact uZ q l k x R w hc h
theorem wJ(q:Nat)(l:List Ln)(k:Ck)(m:Mp)(R:ae)(w:O)(hl:Tl.Ok l)(hm:cy m.page)(h:I w (aT q l k*R)):
  ax prog 126 #[.pointer (D (H q 0 o)),.agg #[B C m.page,B C m.size,B C m.frame,B C m.rights]] w (cN (B C ((l.length:Int) - (Tl.drop l m).length)) (aT q (Tl.drop l m) k*R) w):=by
 obtain⟨A,c,h⟩:=dg h;exact(dropR q A c l k m R w hl.lok hm (Nat.le_trans hl.len (by omega)) h).mono fun _ _ ⟨_,_,a,b,c⟩=>⟨a,bK b,c⟩
theorem tb(q:Nat)(l:List Ln)(k:Ck)(p:Int)(R:ae)(w:O)(hl:Tl.Ok l)(hp:cy p)(h:I w (aT q l k*R)):
  ax prog 117 #[.pointer (D (H q 0 o)),.int .i64 p] w (Pure (B C (Tl.idx l p)) w):=by
 obtain⟨A,c,h⟩:=dg h;exact yp q A c l k p R w hl.lok hp h
def bM(v:a3)(l:List Nat):ae:=cj 67 1 v l.length (l.map rd)
theorem rN{w:O}{R:ae}{A:Option V}{n c:Nat}{l:List Nat}(h:I w (bM (.slice A n c) l*R)):n=l.length:=by
 rcases(Has.rowCases (e:=67) (size:=1) h) with ⟨hv,h0,_⟩|⟨g,cap,cur,hv,_⟩
 ·injection hv with a b
  omega
 ·injection hv
theorem kR{w:O}{R:ae}{A:Option V}{n c:Nat}{l:List Nat}(h:I w (bM (.slice A n c) l*R)){k p:Nat}(hk:l[k]? =D p):
  ∃b,A=D (H b 0 o)∧b<w.heap.size∧w.cell? (H b k o)=D (.pointer (D (H p 0 o))):=by
 obtain rfl:=rN h;obtain⟨b,e,hb,hc,_⟩:=Has.rowGet (e:=67) (size:=1) h (i:=k) (u:=rd p) (by simp[hk]);exact⟨b,e,hb,hc⟩
theorem wK:jp prog 67 (.pointer o) 1 8:=⟨by kernel_rfl,rfl,by omega⟩
def aO:List Nat→List Cr→ae
 |p::ps,c::cs=>aT p c.l c.k*aO ps cs
 |_,_=>ei True
theorem lj:∀{ps:List Nat} {cs:List Cr} {k p:Nat} {c:Cr},ps[k]? =D p→cs[k]? =D c→∃Q,aO ps cs=aT p c.l c.k*Q∧∀c',aO ps (cs.set k c')=aT p c'.l c'.k*Q
 | [],_,_,_,_,h,_=>by simp at h
 |_::_,[],_,_,_,_,h=>by simp at h
 |q::ps,d::cs,0,p,c,h1,h2=>by
  simp at h1 h2;subst h1;subst h2;exact⟨aO ps cs,rfl,fun c'=>rfl⟩
 |q::ps,d::cs,k+1,p,c,h1,h2=>by
  simp at h1 h2;obtain⟨Q,e1,e2⟩:=lj h1 h2;refine⟨aT q d.l d.k*Q,?_,fun c'=> ?_⟩
  ·show aT q d.l d.k*aO ps cs=_
   rw[e1];ac_rfl
  ·show aT q d.l d.k*aO ps (cs.set k c')=_
   rw[e2];ac_rfl
theorem lM:∀(ps:List Nat) (cs:List Cr) (p:Nat) (c:Cr),ps.length=cs.length→aO (ps++[p]) (cs++[c])=aT p c.l c.k*aO ps cs
 | [],[],p,c,_=>rfl
 | [],_::_,_,_,h=>by simp at h
 |_::_,[],_,_,h=>by simp at h
 |q::ps,d::cs,p,c,h=>by
  show aT q d.l d.k*aO (ps++[p]) (cs++[c])=_;rw[lM ps cs p c (by simpa using h)];show _=aT p c.l c.k*(aT q d.l d.k*aO ps cs);ac_rfl
structure Rl where
 m:Nat
 A:Option V
 c:Nat
 ps:List Nat
 G:Option V
 d:Nat
 gw:Nat
def bQ(ws:Nat→Bool):Nat→a3:=fun j=>J (ws j)
def fB(b:Nat)(σ:Sc)(y:Rl)(R:ae):ae:=
 aa b #[.pointer (D (H y.m 0 o)),B C 0,.slice y.A y.ps.length y.c,J σ.busy,.slice y.G σ.gone.length y.d,B C σ.told.page,B C σ.told.size,B C σ.told.frame,B C σ.told.rights,.slice (D (H y.gw 0 o)) y.ps.length y.ps.length] 52*
  (bM (.slice y.A y.ps.length y.c) y.ps*(am (.slice y.G σ.gone.length y.d) σ.gone*(aa y.gw (bn y.ps.length (bQ σ.wait)) 4*(aO y.ps σ.cs*(aB y.m σ.s*R)))))
def bV(b:Nat)(σ:Sc):ae:=ex fun y=>ei (y.ps.length=σ.cs.length)*fB b σ y (ei True)
section
variable {w:O} {b:Nat} {σ:Sc} {R:ae}
theorem gg(h:I w (bV b σ*R)):∃y,y.ps.length=σ.cs.length∧I w (fB b σ y R):=by
 unfold bV at h;obtain⟨y,h⟩:=aG.1 h;rw[aI] at h;obtain⟨hy,h⟩:=cU.1 h;refine⟨y,hy,?_⟩;have h2:I w (ei True*fB b σ y R):=h.eq (by unfold fB;ac_rfl);exact h2.right
theorem gh{y:Rl}(hy:y.ps.length=σ.cs.length)(h:I w (fB b σ y R)):I w (bV b σ*R):=by
 unfold bV;refine aG.2 ⟨y,?_⟩;rw[aI];refine cU.2 ⟨hy,?_⟩;have h2:I w (ei True*fB b σ y R):=cU.2 ⟨trivial,h⟩;exact h2.eq (by unfold fB;ac_rfl)
theorem Has.cells10{v0 v1 v2 v3 v4 v5 v6 v7 v8 v9:a3}{t:TypeId}(h:I w (aa b #[v0,v1,v2,v3,v4,v5,v6,v7,v8,v9] t*R)):
  w.cell? (H b 0 o)=D v0∧w.cell? (H b 1 o)=D v1∧w.cell? (H b 2 o)=D v2∧w.cell? (H b 3 o)=D v3∧w.cell? (H b 4 o)=D v4∧w.cell? (H b 5 o)=D v5∧
   w.cell? (H b 6 o)=D v6∧w.cell? (H b 7 o)=D v7∧w.cell? (H b 8 o)=D v8∧w.cell? (H b 9 o)=D v9:=
 ⟨h.cell 0,h.cell 1,h.cell 2,h.cell 3,h.cell 4,h.cell 5,h.cell 6,h.cell 7,h.cell 8,h.cell 9⟩
end
theorem qj{w:O}{q:Nat}{R:ae}(h:I w (aa q #[.slice o 0 0,J F,B C 0,B C 0,J F,B C 0,B C 0,J F,B vU 0] 66*R)):I w (aT q [] Ck.zero*R):=by
 have h2:=a5 (e:=129) (size:=5) h;exact bK (A:=o) (c:=0) (h2.eq (by unfold aP cK gy;show _=_;rw[av];rfl))
theorem tf(q:Nat):∀u∈([.pointer (D (H q 0 o))]:List a3),u.oneCell'=M:=by
 intro u hu;simp at hu;subst hu;rfl
set_option maxHeartbeats 4000000 in
theorem yr(K n:Nat)(h1:1≤K)(h4:K≤4)(hn:1≤n)(hn2:n≤128)(R:ae)(w:O)(h:I w R):
  ax prog 15 #[B C K,B C n] w fun e w'=>∃b,cN (.pointer (D (H b 0 o))) (bV b (Sc.new K n)*R) w e w':=by
 have HM:=E (fun R w h=>zE R w (n:Int) h (by omega) (by omega));have hB:=fun w=>mz K (by omega) w;have ht0:(N n).topV =0:=by
  have ht:(N n).top =D 0:=by
   show(if 0<n then D 0 else o)=D 0;rw[if_pos (by omega)]
  unfold Ms.topV;rw[ht];rfl
 have HTK:=E (fun m R w h=>wq m (N n) R w h (Ms.Ok.new hn2));rw[ht0] at HTK;rw[show((n:Int)).toNat =n from rfl] at HM;have hd:=h.drew;have xd:=(Ext.refl w).drew;have hn:=(h.new (bn K (tc (N K))) 4).drew;have xn:=((Ext.refl w).alloc (.cells (bn K (tc (N K))) 4)).drew;clear h ht0;go_enter func15,ntmps15;go_upto_region 1 with fail;go_cut [5] from 7 to 12 (fun s5 wx=>∃(b m gw:Nat),s5= .pointer (D (H b 0 o))∧I wx (aB m (N n)*(aa b #[.pointer (D (H m 0 o)),B C 0,.slice o 0 0,J F,.slice o 0 0,B C 0,B C 0,B C 0,B C 0,.slice (D (H gw 0 o)) K K] 52*(aa gw (bn K (tc (N K))) 4*R)))∧a4 w wx)
 case first=>
  go_region_law (go_simp;go_at_call 56;first
   |((with_reducible refine(HM.out _ _ hd).mono ?_);rintro e w8 ⟨m,rfl,h8,x8⟩;have hz:=h8.new (bn K (tc (N K))) 4;have xz:=(xd.trans x8).alloc (.cells (bn K (tc (N K))) 4))
   |((with_reducible refine(HM.out _ _ hn).mono ?_);rintro e w8 ⟨m,rfl,h8,x8⟩;have hz:=h8.p2;have xz:=xn.trans x8))
  all_goals
   go_wp2_with fail
   go_meet
   case rel=>first
    |exact⟨_,m,w8.heap.size,rfl,(hz.new #[.pointer (D (H m 0 o)),B C 0,.slice o 0 0,J F,.slice o 0 0,B C 0,B C 0,B C 0,B C 0,.slice (D (H w8.heap.size 0 o)) K K] 52).eq (by simp only[World.size_alloc];ac_rfl),xz.alloc _⟩
    |exact⟨_,m,w.heap.size,rfl,(hz.new #[.pointer (D (H m 0 o)),B C 0,.slice o 0 0,J F,.slice o 0 0,B C 0,B C 0,B C 0,B C 0,.slice (D (H w.heap.size 0 o)) K K] 52).eq (by ac_rfl),xz.alloc _⟩
 case rest=>
  obtain⟨b,m,gw,rfl,h2,x2⟩:=hcut;clear hd xd hn xn hB HM;obtain⟨c0,c1,-⟩:=h2.right.cells10;have cl:=h2.right.lt;go_wp2_with fail
  refine(HTK.out m _ _ h2).mono ?_;rintro e w3 ⟨rfl,h3,x3⟩;have f1:=h3.right.free 1;have g1:=h3.right.cell 1;have gl:=h3.right.lt;clear c0 c1 cl HTK;have h4:I _ (aa b #[.pointer (D (H m 0 o)),B C 0,.slice o 0 0,J F,.slice o 0 0,B C 0,B C 0,B C 0,B C 0,.slice (D (H gw 0 o)) K K] 52*(aB m (N n).takeS *(aa gw (bn K (tc (N K))) 4*R))):=h3.p2.set 1 (B C 0);have h5:I _ (bM (.slice o 0 0) []*(aa b #[.pointer (D (H m 0 o)),B C 0,.slice o 0 0,J F,.slice o 0 0,B C 0,B C 0,B C 0,B C 0,.slice (D (H gw 0 o)) K K] 52*(aO [] (List.replicate 0 Cr.zero)*(aB m (N n).takeS *(aa gw (bn K (tc (N K))) 4*R))))):=
   a7 ((cU.2 ⟨trivial,h4⟩).eq (show _=aa b #[.pointer (D (H m 0 o)),B C 0,.slice o 0 0,J F,.slice o 0 0,B C 0,B C 0,B C 0,B C 0,.slice (D (H gw 0 o)) K K] 52*(ei True*(aB m (N n).takeS *(aa gw (bn K (tc (N K))) 4*R))) by ac_rfl))
  have x5:=(x2.trans x3).set (H b 1 o) (B C 0);clear h2 x2 h3 x3 h4;go_upto_region 3 with fail;generalize w3.setCell (H b 1 o) (B C 0)=w5 at*
  clear f1 g1 gl;go_wp2_with fail
  go_loopw [6] (fun t wz=>∃(j:Nat) (A:Option V) (c:Nat) (ps:List Nat),j≤K∧t=B C j∧ps.length=j∧
    I wz (bM (.slice A j c) ps*(aa b #[.pointer (D (H m 0 o)),B C 0,.slice A j c,J F,.slice o 0 0,B C 0,B C 0,B C 0,B C 0,.slice (D (H gw 0 o)) K K] 52*(aO ps (List.replicate j Cr.zero)*(aB m (N n).takeS *(aa gw (bn K (tc (N K))) 4*R)))))∧a4 w wz)
   (fun t _=>K - (intOf t).toNat)
  case atStart=>exact⟨0,o,0,[],by omega,rfl,rfl,h5,x5⟩
  case round=>
   clear h5 x5;obtain⟨j,A,c,ps,hj,rfl,hps,hz,hx⟩:=hrel;subst hps;generalize hZ:(aB m (N n).takeS *(aa gw (bn K (tc (N K))) 4*R))=Z at*
   by_cases hjn:ps.length<K
   ·have g2:=hz.right.cell 2
    have gl:=hz.right.lt;have h6:=hz.new #[.slice o 0 0,J F,B C 0,B C 0,J F,B C 0,B C 0,J F,B vU 0] 66;have h7:=h6.right.eq (rfl:_=bM (.slice A ps.length c) ps*(aa b #[.pointer (D (H m 0 o)),B C 0,.slice A ps.length c,J F,.slice o 0 0,B C 0,B C 0,B C 0,B C 0,.slice (D (H gw 0 o)) K K] 52*(aO ps (List.replicate ps.length Cr.zero)*Z)));have h8:I _ (bM (.slice A ps.length c) ps*(aa b #[.pointer (D (H m 0 o)),B C 0,.slice A ps.length c,J F,.slice o 0 0,B C 0,B C 0,B C 0,B C 0,.slice (D (H gw 0 o)) K K] 52*(aT wr.heap.size [] Ck.zero*(aO ps (List.replicate ps.length Cr.zero)*Z)))):=(qj h6).eq (by ac_rfl);have x6:=hx.alloc (.cells #[.slice o 0 0,J F,B C 0,B C 0,J F,B C 0,B C 0,J F,B vU 0] 66);clear h6 h7;have hnw:=eM (wr.alloc (.cells #[.slice o 0 0,J F,B C 0,B C 0,J F,B C 0,B C 0,J F,B vU 0] 66)) (.pointer (D (H wr.heap.size 0 o))) 67;rw[World.size_alloc] at hnw;go_wp2_with(at_builtin;(refine aN rfl _ _ 49 rfl underlying49 wK _ _ _ rfl (h8.alloc _) ⟨wr.heap.size+1,0,o⟩ 1 1 [.pointer (D (H wr.heap.size 0 o))] rfl rfl hnw ?c1 ?c2 ?c3 ?_))
    case c1=>exact tf _
    case c2=>unfold maxLen;omega
    case c3=>omega
    intro v9 w9 h9 x9;obtain⟨A',c',rfl⟩:=Has.rowForm (e:=67) (size:=1) h9;have y2:=h9.right.cell 2;have yf:=h9.right.free 2;have yl:=h9.right.lt;have h10:I (w9.setCell (H b 2 o) (.slice A' (ps.length+1) c')) (bM (.slice A' (ps.length+1) c') (ps++[wr.heap.size])*(aa b #[.pointer (D (H m 0 o)),B C 0,.slice A' (ps.length+1) c',J F,.slice o 0 0,B C 0,B C 0,B C 0,B C 0,.slice (D (H gw 0 o)) K K] 52*(aO (ps++[wr.heap.size]) (List.replicate (ps.length+1) Cr.zero)*Z))):=by
     have h12:=(h9.p2.set 2 (.slice A' (ps.length+1) c'));have h14:=h12.p2;rw[List.replicate_succ',lM ps _ wr.heap.size Cr.zero (by simp)];unfold bM;rw[ad,List.map_append];exact h14.eq (by show _=cj 67 1 (.slice A' (ps.length+1) c') (ps.length+1) (ps.map rd++[.pointer (D (H wr.heap.size 0 o))])*(aa b #[.pointer (D (H m 0 o)),B C 0,.slice A' (ps.length+1) c',J F,.slice o 0 0,B C 0,B C 0,B C 0,B C 0,.slice (D (H gw 0 o)) K K] 52*((aT wr.heap.size [] Ck.zero*_)*Z));ac_rfl)
    have x10:=((x6.alloc (.cells #[.pointer (D (H wr.heap.size 0 o))] 67)).trans x9).set (H b 2 o) (.slice A' (ps.length+1) c');clear h9 h8 hz g2 gl hx x9 x6;go_wp2_with fail
    go_roundw
    case rel=>exact⟨ps.length+1,A',c',ps++[wr.heap.size],by omega,by go_num,by simp,h10,x10⟩
    case measure=>simp[intOf];omega
   ·have hjc:ps.length=K:=by omega
    have hE:I wr (bV b (Sc.new K n)*R):=by
     refine gh (y:=⟨m,A,c,ps,o,0,gw⟩) (by simpa [Sc.new] using hjc) ?_;unfold fB Sc.new;dsimp only;have k1:=(a7 (e:=3) (size:=1) hz).eq (show _=aa b #[.pointer (D (H m 0 o)),B C 0,.slice A ps.length c,J F,.slice o 0 0,B C 0,B C 0,B C 0,B C 0,.slice (D (H gw 0 o)) K K] 52*(bM (.slice A ps.length c) ps*(am (.slice o 0 0) []*(aa gw (bn K (tc (N K))) 4*(aO ps (List.replicate ps.length Cr.zero)*(aB m (N n).takeS *R))))) by rw[←hZ];show cj 3 1 (.slice o 0 0) 0 []*_=_;unfold am;simp only[List.map_nil,List.length_nil];ac_rfl);rw[←hjc] at k1⊢;exact k1
    clear hjc hZ hz;go_wp2_with fail
    go_ret;exact⟨b,rfl,hE,hx⟩
theorem rO{w:O}{R:ae}{b:Nat}{v0 v1 v2 v3 v4 v5 v6 v7 v8 v9:a3}{t:TypeId}(h:I w (aa b #[v0,v1,v2,v3,v4,v5,v6,v7,v8,v9] t*R))(u3 u4 u5 u6 u7 u8:a3):
  I ((((((w.setCell (H b 3 o) u3).setCell (H b 5 o) u5).setCell (H b 6 o) u6).setCell (H b 7 o) u7).setCell (H b 8 o) u8).setCell (H b 4 o) u4) (aa b #[v0,v1,v2,u3,u4,u5,u6,u7,u8,v9] t*R)∧
  I ((((((w.setCell (H b 3 o) u3).setCell (H b 4 o) u4).setCell (H b 5 o) u5).setCell (H b 6 o) u6).setCell (H b 7 o) u7).setCell (H b 8 o) u8) (aa b #[v0,v1,v2,u3,u4,u5,u6,u7,u8,v9] t*R)∧
  I ((((((w.setCell (H b 5 o) u5).setCell (H b 6 o) u6).setCell (H b 7 o) u7).setCell (H b 8 o) u8).setCell (H b 3 o) u3).setCell (H b 4 o) u4) (aa b #[v0,v1,v2,u3,u4,u5,u6,u7,u8,v9] t*R)∧
  I ((((((w.setCell (H b 5 o) u5).setCell (H b 6 o) u6).setCell (H b 7 o) u7).setCell (H b 8 o) u8).setCell (H b 4 o) u4).setCell (H b 3 o) u3) (aa b #[v0,v1,v2,u3,u4,u5,u6,u7,u8,v9] t*R)∧
  I ((((((w.setCell (H b 4 o) u4).setCell (H b 3 o) u3).setCell (H b 5 o) u5).setCell (H b 6 o) u6).setCell (H b 7 o) u7).setCell (H b 8 o) u8) (aa b #[v0,v1,v2,u3,u4,u5,u6,u7,u8,v9] t*R)∧
  I ((((((w.setCell (H b 4 o) u4).setCell (H b 5 o) u5).setCell (H b 6 o) u6).setCell (H b 7 o) u7).setCell (H b 8 o) u8).setCell (H b 3 o) u3) (aa b #[v0,v1,v2,u3,u4,u5,u6,u7,u8,v9] t*R):=by
 have a10:I _ (aa b #[v0,v1,v2,u3,v4,v5,v6,v7,v8,v9] t*R):=h.set 3 u3;have a11:I _ (aa b #[v0,v1,v2,u3,v4,u5,v6,v7,v8,v9] t*R):=a10.set 5 u5;have a12:I _ (aa b #[v0,v1,v2,u3,v4,u5,u6,v7,v8,v9] t*R):=a11.set 6 u6;have a13:I _ (aa b #[v0,v1,v2,u3,v4,u5,u6,u7,v8,v9] t*R):=a12.set 7 u7;have a14:I _ (aa b #[v0,v1,v2,u3,v4,u5,u6,u7,u8,v9] t*R):=a13.set 8 u8;have a15:I _ (aa b #[v0,v1,v2,u3,u4,u5,u6,u7,u8,v9] t*R):=a14.set 4 u4;have a20:I _ (aa b #[v0,v1,v2,u3,v4,v5,v6,v7,v8,v9] t*R):=h.set 3 u3;have a21:I _ (aa b #[v0,v1,v2,u3,u4,v5,v6,v7,v8,v9] t*R):=a20.set 4 u4;have a22:I _ (aa b #[v0,v1,v2,u3,u4,u5,v6,v7,v8,v9] t*R):=a21.set 5 u5;have a23:I _ (aa b #[v0,v1,v2,u3,u4,u5,u6,v7,v8,v9] t*R):=a22.set 6 u6;have a24:I _ (aa b #[v0,v1,v2,u3,u4,u5,u6,u7,v8,v9] t*R):=a23.set 7 u7;have a25:I _ (aa b #[v0,v1,v2,u3,u4,u5,u6,u7,u8,v9] t*R):=a24.set 8 u8;have a30:I _ (aa b #[v0,v1,v2,v3,v4,u5,v6,v7,v8,v9] t*R):=h.set 5 u5;have a31:I _ (aa b #[v0,v1,v2,v3,v4,u5,u6,v7,v8,v9] t*R):=a30.set 6 u6;have a32:I _ (aa b #[v0,v1,v2,v3,v4,u5,u6,u7,v8,v9] t*R):=a31.set 7 u7;have a33:I _ (aa b #[v0,v1,v2,v3,v4,u5,u6,u7,u8,v9] t*R):=a32.set 8 u8;have a34:I _ (aa b #[v0,v1,v2,u3,v4,u5,u6,u7,u8,v9] t*R):=a33.set 3 u3;have a35:I _ (aa b #[v0,v1,v2,u3,u4,u5,u6,u7,u8,v9] t*R):=a34.set 4 u4;have a40:I _ (aa b #[v0,v1,v2,v3,v4,u5,v6,v7,v8,v9] t*R):=h.set 5 u5;have a41:I _ (aa b #[v0,v1,v2,v3,v4,u5,u6,v7,v8,v9] t*R):=a40.set 6 u6;have a42:I _ (aa b #[v0,v1,v2,v3,v4,u5,u6,u7,v8,v9] t*R):=a41.set 7 u7;have a43:I _ (aa b #[v0,v1,v2,v3,v4,u5,u6,u7,u8,v9] t*R):=a42.set 8 u8;have a44:I _ (aa b #[v0,v1,v2,v3,u4,u5,u6,u7,u8,v9] t*R):=a43.set 4 u4;have a45:I _ (aa b #[v0,v1,v2,u3,u4,u5,u6,u7,u8,v9] t*R):=a44.set 3 u3;have a50:I _ (aa b #[v0,v1,v2,v3,u4,v5,v6,v7,v8,v9] t*R):=h.set 4 u4;have a51:I _ (aa b #[v0,v1,v2,u3,u4,v5,v6,v7,v8,v9] t*R):=a50.set 3 u3;have a52:I _ (aa b #[v0,v1,v2,u3,u4,u5,v6,v7,v8,v9] t*R):=a51.set 5 u5;have a53:I _ (aa b #[v0,v1,v2,u3,u4,u5,u6,v7,v8,v9] t*R):=a52.set 6 u6;have a54:I _ (aa b #[v0,v1,v2,u3,u4,u5,u6,u7,v8,v9] t*R):=a53.set 7 u7;have a55:I _ (aa b #[v0,v1,v2,u3,u4,u5,u6,u7,u8,v9] t*R):=a54.set 8 u8;have a60:I _ (aa b #[v0,v1,v2,v3,u4,v5,v6,v7,v8,v9] t*R):=h.set 4 u4;have a61:I _ (aa b #[v0,v1,v2,v3,u4,u5,v6,v7,v8,v9] t*R):=a60.set 5 u5;have a62:I _ (aa b #[v0,v1,v2,v3,u4,u5,u6,v7,v8,v9] t*R):=a61.set 6 u6;have a63:I _ (aa b #[v0,v1,v2,v3,u4,u5,u6,u7,v8,v9] t*R):=a62.set 7 u7;have a64:I _ (aa b #[v0,v1,v2,v3,u4,u5,u6,u7,u8,v9] t*R):=a63.set 8 u8;have a65:I _ (aa b #[v0,v1,v2,u3,u4,u5,u6,u7,u8,v9] t*R):=a64.set 3 u3;exact⟨a15,a25,a35,a45,a55,a65⟩
def upW(ws:Nat→Bool)(k:Nat):Nat→Bool:=fun i=>decide (i<k)||ws i
set_option maxHeartbeats 4000000 in
theorem yt(b:Nat)(σ:Sc)(m:Mp)(g:List Int)(G:Option V)(gn gd:Nat)(hfew:σ.cs.length≤4)(R:ae)(w:O)(h:I w (bV b σ*(am (.slice G gn gd) g*R))):
  ax prog 116 #[.pointer (D (H b 0 o)),.agg #[B C m.page,B C m.size,B C m.frame,B C m.rights],.slice G gn gd] w (cN (.tuple #[]) (bV b (σ.post σ.s m g)*R) w):=by
 obtain⟨y,hy,h⟩:=gg h;obtain⟨ym,yA,yc,yps,yG,yd,ygw⟩:=y;obtain⟨s,cs,td,wt,bz,gn0⟩:=σ;unfold fB at h;dsimp only at*
 obtain rfl:=dY (h.eq (show _=am (.slice G gn gd) g*(aa b #[.pointer (D (H ym 0 o)),B C 0,.slice yA yps.length yc,J bz,.slice yG gn0.length yd,B C td.page,B C td.size,B C td.frame,B C td.rights,.slice (D (H ygw 0 o)) yps.length yps.length] 52*(bM (.slice yA yps.length yc) yps*(am (.slice yG gn0.length yd) gn0*(aa ygw (bn yps.length (bQ wt)) 4*(aO yps cs*(aB ym s*R)))))) by ac_rfl));have h0:I _ (aa b #[.pointer (D (H ym 0 o)),B C 0,.slice yA yps.length yc,J bz,.slice yG gn0.length yd,B C td.page,B C td.size,B C td.frame,B C td.rights,.slice (D (H ygw 0 o)) yps.length yps.length] 52*(aa ygw (bn yps.length (bQ wt)) 4*(aa w.heap.size #[B C m.page,B C m.size,B C m.frame,B C m.rights] 39*(bM (.slice yA yps.length yc) yps*(aO yps cs*(aB ym s*(am (.slice G g.length gd) g*R))))))):=
  ((h.new #[B C m.page,B C m.size,B C m.frame,B C m.rights] 39).eq (show _=am (.slice yG gn0.length yd) gn0*(aa b #[.pointer (D (H ym 0 o)),B C 0,.slice yA yps.length yc,J bz,.slice yG gn0.length yd,B C td.page,B C td.size,B C td.frame,B C td.rights,.slice (D (H ygw 0 o)) yps.length yps.length] 52*(aa ygw (bn yps.length (bQ wt)) 4*(aa w.heap.size #[B C m.page,B C m.size,B C m.frame,B C m.rights] 39*(bM (.slice yA yps.length yc) yps*(aO yps cs*(aB ym s*(am (.slice G g.length gd) g*R))))))) by ac_rfl)).right
 have x0:=(Ext.refl w).alloc (.cells #[B C m.page,B C m.size,B C m.frame,B C m.rights] 39);have HS:=E (fun(w':O) (h:I w' (aa ygw (bn yps.length (bQ (upW wt yps.length))) 4*(aa b #[.pointer (D (H ym 0 o)),B C 0,.slice yA yps.length yc,J M,.slice G g.length gd,B C m.page,B C m.size,B C m.frame,B C m.rights,.slice (D (H ygw 0 o)) yps.length yps.length] 52*(aa w.heap.size #[B C m.page,B C m.size,B C m.frame,B C m.rights] 39*(bM (.slice yA yps.length yc) yps*(aO yps cs*(aB ym s*(am (.slice G g.length gd) g*R))))))))=>show I w' (bV b (Sc.post ⟨s,cs,td,wt,bz,gn0⟩ s m g)*R) from by
  have h1:=h.tabExt (f':=bQ (fj cs.length)) (fun j hj=>by unfold bQ upW fj;rw[←hy,decide_eq_true hj];rfl);have h2:I w' (aa w.heap.size #[B C m.page,B C m.size,B C m.frame,B C m.rights] 39*(aa b #[.pointer (D (H ym 0 o)),B C 0,.slice yA yps.length yc,J M,.slice G g.length gd,B C m.page,B C m.size,B C m.frame,B C m.rights,.slice (D (H ygw 0 o)) yps.length yps.length] 52*(bM (.slice yA yps.length yc) yps*(am (.slice G g.length gd) g*(aa ygw (bn yps.length (bQ (fj cs.length))) 4*(aO yps cs*(aB ym s*R))))))):=h1.eq (by ac_rfl);exact gh (y:=⟨ym,yA,yc,yps,G,gd,ygw⟩) hy h2.right)
 have hK:yps.length≤4:=by omega
 clear h hy hfew;obtain⟨c0,c1,c2,c3,c4,c5,c6,c7,c8,c9⟩:=h0.cells10;have f3:=h0.free 3;have f4:=h0.free 4;have f5:=h0.free 5;have f6:=h0.free 6;have f7:=h0.free 7;have f8:=h0.free 8;have cl:=h0.lt;obtain⟨m0,m1,m2,m3⟩:=h0.right.right.cells4;have ml:=h0.right.right.lt;go_enter func116,ntmps116;go_upto_region 1 with fail;have hne:b≠w.heap.size:=Has.ne (h0.eq (show _=aa b #[.pointer (D (H ym 0 o)),B C 0,.slice yA yps.length yc,J bz,.slice yG gn0.length yd,B C td.page,B C td.size,B C td.frame,B C td.rights,.slice (D (H ygw 0 o)) yps.length yps.length] 52*(aa w.heap.size #[B C m.page,B C m.size,B C m.frame,B C m.rights] 39*(aa ygw (bn yps.length (bQ wt)) 4*(bM (.slice yA yps.length yc) yps*(aO yps cs*(aB ym s*(am (.slice G g.length gd) g*R)))))) by ac_rfl));have hne2:=hne.symm;generalize w.alloc _=w1 at*
 generalize w.heap.size=X at*
 go_cut [] from 7 to 17 (fun wx=>I wx (aa b #[.pointer (D (H ym 0 o)),B C 0,.slice yA yps.length yc,J M,.slice G g.length gd,B C m.page,B C m.size,B C m.frame,B C m.rights,.slice (D (H ygw 0 o)) yps.length yps.length] 52*(aa ygw (bn yps.length (bQ wt)) 4*(aa X #[B C m.page,B C m.size,B C m.frame,B C m.rights] 39*(bM (.slice yA yps.length yc) yps*(aO yps cs*(aB ym s*(am (.slice G g.length gd) g*R)))))))∧a4 w wx)
 case first=>
  clear HS;obtain⟨k1,k2,k3,k4,k5,k6⟩:=rO h0 (J M) (.slice G g.length gd) (B C m.page) (B C m.size) (B C m.frame) (B C m.rights);go_region
  all_goals
   go_wp2_with fail
   go_meet
   case rel=>exact⟨by first|(with_reducible exact k1.drew)|(with_reducible exact k2.drew)|(with_reducible exact k3.drew)|(with_reducible exact k4.drew)|(with_reducible exact k5.drew)|(with_reducible exact k6.drew),ai⟩
 case rest=>
  obtain⟨h1,x1⟩:=hcut;clear h0 x0 c0 c1 c2 c3 c4 c5 c6 c7 c8 c9 f3 f4 f5 f6 f7 f8 cl m0 m1 m2 m3 ml hne hne2;have h2:I _ (aa ygw (bn yps.length (bQ (upW wt 0))) 4*(aa b #[.pointer (D (H ym 0 o)),B C 0,.slice yA yps.length yc,J M,.slice G g.length gd,B C m.page,B C m.size,B C m.frame,B C m.rights,.slice (D (H ygw 0 o)) yps.length yps.length] 52*(aa X #[B C m.page,B C m.size,B C m.frame,B C m.rights] 39*(bM (.slice yA yps.length yc) yps*(aO yps cs*(aB ym s*(am (.slice G g.length gd) g*R))))))):=(h1.p2).tabExt (f':=bQ (upW wt 0)) (fun j _=>by unfold bQ upW;simp);go_wp2_with fail
  go_loopw [6] (fun t wz=>∃k:Nat,k≤yps.length∧t=B C k∧I wz (aa ygw (bn yps.length (bQ (upW wt k))) 4*(aa b #[.pointer (D (H ym 0 o)),B C 0,.slice yA yps.length yc,J M,.slice G g.length gd,B C m.page,B C m.size,B C m.frame,B C m.rights,.slice (D (H ygw 0 o)) yps.length yps.length] 52*(aa X #[B C m.page,B C m.size,B C m.frame,B C m.rights] 39*(bM (.slice yA yps.length yc) yps*(aO yps cs*(aB ym s*(am (.slice G g.length gd) g*R)))))))∧a4 w wz) (fun t _=>yps.length - (intOf t).toNat)
  case atStart=>exact⟨0,by omega,rfl,h2,x1⟩
  case round=>
   clear h1 h2 x1;obtain⟨k,hk,rfl,hz,hxz⟩:=hrel;have c9:=hz.right.cell 9;have cl:=hz.right.lt;by_cases hkl:k<yps.length
   ·have q0:=hz.tabGet hkl
    have q1:=hz.free k;have ql:=hz.lt;have h3:I _ (aa ygw (bn yps.length (bQ (upW wt (k+1)))) 4*(aa b #[.pointer (D (H ym 0 o)),B C 0,.slice yA yps.length yc,J M,.slice G g.length gd,B C m.page,B C m.size,B C m.frame,B C m.rights,.slice (D (H ygw 0 o)) yps.length yps.length] 52*(aa X #[B C m.page,B C m.size,B C m.frame,B C m.rights] 39*(bM (.slice yA yps.length yc) yps*(aO yps cs*(aB ym s*(am (.slice G g.length gd) g*R))))))):=(hz.tabSet k (J M)).tabExt (f':=bQ (upW wt (k+1))) (fun j _=>by
     unfold bQ upW bZ;by_cases e:j=k
     ·rw[if_pos e,e,decide_eq_true (by omega)];rfl
     ·rw[if_neg e]
      show J (decide (j<k)||wt j)=J (decide (j<k+1)||wt j);by_cases e2:j<k
      ·rw[decide_eq_true e2,decide_eq_true (by omega)]
      ·rw[decide_eq_false e2,decide_eq_false (by omega)])
    have x3:=hxz.set (H ygw k o) (J M);clear hz hxz;go_wp2_with fail
    go_roundw
    case rel=>exact⟨k+1,by omega,by go_num,h3,x3⟩
    case measure=>simp[intOf];omega
   ·obtain rfl:k=yps.length:=by omega
    go_wp2_with fail
    exact bodyPost_ret (v:= .tuple #[]) (by simp[results,results116]) rfl ⟨rfl,HS.out _ hz,hxz⟩
set_option maxHeartbeats 2000000 in
theorem jj(e:En)(l:Int)(w:O):ax prog 124 #[.agg #[J e.there,J e.leaf,B C e.rights,J e.used,J e.dirty,B C e.frame],.int .i64 l] w (Pure (.tuple #[B vU (bx e l),B C (ak e l)]) w):=by
 obtain⟨th,leaf,r,u,d,f⟩:=e;have h1:=bf (aM w) #[J th,J leaf,B C r,J u,J d,B C f] 70;have x1:=(Ext.refl w).alloc (.cells #[J th,J leaf,B C r,J u,J d,B C f] 70);have HC:=E (fun W=>fQ ⟨th,leaf,r,u,d,f⟩ l W);by_cases hc:ak ⟨th,leaf,r,u,d,f⟩ l=0
 ·rw[hc] at HC⊢
  cases th with
  |false=>
   have hy:=E (show bx ⟨F,leaf,r,u,d,f⟩ l=0 by unfold bx;rw[if_neg (by simp)]);clear hc;go_enter func124,ntmps124;go_wp2_with fail
   refine(HC.out _).mono ?_;rintro e w2 ⟨rfl,bl⟩;have h2:=h1.below bl;obtain⟨c0,c1,c2,c3,c4,c5⟩:=h2.cells6;go_wp2;go_ret2
   exact⟨by rw[hy.out];rfl,ap h2.right (x1.below bl)⟩
  |true=>
   have hk:=dM hc rfl;have hy:=E (show bx ⟨M,leaf,r,u,d,f⟩ l=fH ⟨M,leaf,r,u,d,f⟩ l by unfold bx;rw[if_pos ⟨hc,rfl⟩]);have r0:0≤r:=hk.r0;have r7:r≤7:=hk.r7;have f0:0≤f:=hk.f0;have f1:f<1048576:=hk.f1;have l0:=hk.l0;have l4:=hk.l4;clear hc hk;by_cases lz:l=0
   ·subst lz
    cases leaf<;>cases u<;>cases d
    all_goals
     go_enter func124,ntmps124;go_wp2_with fail
     refine(HC.out _).mono ?_;rintro e w2 ⟨rfl,bl⟩;have h2:=h1.below bl;obtain⟨c0,c1,c2,c3,c4,c5⟩:=h2.cells6;have b2:=ap h2.right (x1.below bl);clear h1 x1 h2 bl HC;go_wp2;go_ret2
     refine⟨?_,b2⟩;rw[hy.out];show U (.tuple #[B vU _,B C 0])=_;refine congrArg (fun n:Int=>U (.tuple #[B vU n,B C 0])) ?_;unfold fH;simp[iT];try omega
   ·have hz:(l !=0)=M:=by simpa using lz
    have hz':=E hz;clear lz;cases leaf<;>cases u<;>cases d
    all_goals
     go_enter func124,ntmps124;go_wp2_with fail
     refine(HC.out _).mono ?_;rintro e w2 ⟨rfl,bl⟩;have h2:=h1.below bl;obtain⟨c0,c1,c2,c3,c4,c5⟩:=h2.cells6;have b2:=ap h2.right (x1.below bl);clear h1 x1 h2 bl HC;go_wp2;go_ret2
     refine⟨?_,b2⟩;rw[hy.out];show U (.tuple #[B vU _,B C 0])=_;refine congrArg (fun n:Int=>U (.tuple #[B vU n,B C 0])) ?_;unfold fH;simp[iT,hz'.out];try omega
 ·have hy:=E (show bx ⟨th,leaf,r,u,d,f⟩ l=0 from mY hc)
  have hn:(ak ⟨th,leaf,r,u,d,f⟩ l !=0)=M:=by simpa using hc
  clear hc;generalize ak ⟨th,leaf,r,u,d,f⟩ l=c at*
  go_enter func124,ntmps124;go_wp2_with fail
  refine(HC.out _).mono ?_;rintro e w2 ⟨rfl,bl⟩;have h2:=h1.below bl;go_wp2;go_ret2
  exact⟨by rw[hy.out];rfl,ap h2.right (x1.below bl)⟩
theorem kS{s:Ms}{r:Int}{x:Mp}(h:dd s r x≠0):dQ s r x=s:=by unfold dQ;rw[if_neg h]
set_option maxHeartbeats 8000000 in
theorem zA(q:Nat)(s:Ms)(root:Int)(x:Mp)(R:ae)(w:O)(hs:s.Ok)(h:I w (aB q s*R)):
  ax prog 113 #[.pointer (D (H q 0 o)),B C root,.agg #[B C x.page,B C x.size,B C x.frame,B C x.rights]] w (cN (B C (dd s root x)) (aB q (dQ s root x)*R) w):=by
 have h0:=h.new #[B C x.page,B C x.size,B C x.frame,B C x.rights] 39;have x0:=(Ext.refl w).alloc (.cells #[B C x.page,B C x.size,B C x.frame,B C x.rights] 39);have HC:=E (gP x);by_cases hck:bg x=0
 case neg=>
  have hic:dd s root x=bg x:=by unfold dd;rw[if_pos hck]
  have HI:=E (And.intro hic (kS (s:=s) (r:=root) (x:=x) (by rw[hic];exact hck)));have hn:(bg x !=0)=M:=by simpa using hck
  rw[HI.out.1,HI.out.2];generalize bg x=cx at*
  clear hck h hic;obtain⟨c0,c1,c2,c3⟩:=h0.cells4;go_enter func113,ntmps113;go_wp2_with fail
  refine(HC.out _).mono ?_;rintro e w2 ⟨rfl,b2⟩;go_wp2_with fail
  go_ret;exact⟨rfl,h0.right.below b2,x0.below b2⟩
 obtain⟨hp,z,hz0,hz2⟩:=mC hck;have HZ:=E hz0;clear hz0;have W1:=E (fun w' (h:I w' (aB q s*(aa w.heap.size #[B C x.page,B C x.size,B C x.frame,B C x.rights] 39*R)))=>j6 q s root x.page _ w' hs h);rw[hck] at HC;by_cases hcode:(bv s root x.page).code =0
 case neg=>
  have hic:dd s root x=(bv s root x.page).code :=by unfold dd;rw[if_neg (by rw[hck];simp),if_pos hcode]
  have HI:=E (And.intro hic (kS (s:=s) (r:=root) (x:=x) (by rw[hic];exact hcode)));rw[HI.out.1,HI.out.2];clear hic hck h;generalize bv s root x.page=y at*
  obtain⟨code,tabs,T,th,lf,rg,us,di,fr⟩:=y;dsimp only at*
  have hn:(code !=0)=M:=by simpa using hcode
  clear hcode;obtain⟨c0,c1,c2,c3⟩:=h0.cells4;have cl:=h0.lt;go_enter func113,ntmps113;go_wp2_with fail
  refine(HC.out _).mono ?_;rintro e w2 ⟨rfl,b2⟩;have h2:=h0.below b2;have x2:=x0.below b2;clear h0 x0 b2 c0 c1 c2 c3 cl;obtain⟨c0,c1,c2,c3⟩:=h2.cells4;have cl:=h2.lt;go_wp2_with fail
  refine(W1.out _ h2.p2).mono ?_;rintro e w3 hF;obtain⟨A,c,rfl,h3,x3⟩:∃(A:Option V) (c:Nat),e= .returned (.tuple #[.agg #[.slice A tabs.length c,J th,J lf,B C rg,J us,J di,B C fr,B C T],B C code])∧I w3 (am (.slice A tabs.length c) tabs*a9 w2 w2.heap.size)∧a4 w2 w3:=hF;have h5:I _ (aa w3.heap.size #[.slice A tabs.length c,J th,J lf,B C rg,J us,J di,B C fr,B C T] 146*(am (.slice A tabs.length c) tabs*(aa w.heap.size #[B C x.page,B C x.size,B C x.frame,B C x.rights] 39*(aB q s*R)))):=(h2.onto' h3).new #[.slice A tabs.length c,J th,J lf,B C rg,J us,J di,B C fr,B C T] 146;have x5:=(x2.trans x3).alloc (.cells #[.slice A tabs.length c,J th,J lf,B C rg,J us,J di,B C fr,B C T] 146);clear h2 x2 h3 x3 c0 c1 c2 c3 cl W1 HC;go_upto_region 5 with fail;generalize w3.alloc _=w5 at*
  generalize w3.heap.size=X1 at*
  generalize w.heap.size=X0 at*
  obtain⟨c0,c1,c2,c3⟩:=h5.right.right.cells4;have cl:=h5.right.right.lt;obtain⟨k0,k1,k2,k3,k4,k5,k6,k7⟩:=h5.cells8;have kl:=h5.lt;go_wp2_with fail
  go_ret;exact⟨rfl,h5.r3,x5⟩
 by_cases hbad:(bv s root x.page).e.there =M∨(bv s root x.page).lev <x.size
 case pos=>
  have hic:dd s root x=4:=by unfold dd;rw[if_neg (by rw[hck];simp),if_neg (by rw[hcode];simp),if_pos hbad]
  have HI:=E (And.intro hic (kS (s:=s) (r:=root) (x:=x) (by rw[hic];decide)));rw[HI.out.1,HI.out.2];clear hic hck h;generalize bv s root x.page=y at*
  obtain⟨code,tabs,T,th,lf,rg,us,di,fr⟩:=y;dsimp only at*
  subst hcode;cases th with
  |true=>
   clear hbad;obtain⟨c0,c1,c2,c3⟩:=h0.cells4;have cl:=h0.lt;go_enter func113,ntmps113;go_wp2_with fail
   refine(HC.out _).mono ?_;rintro e w2 ⟨rfl,b2⟩;have h2:=h0.below b2;have x2:=x0.below b2;clear h0 x0 b2 c0 c1 c2 c3 cl;obtain⟨c0,c1,c2,c3⟩:=h2.cells4;have cl:=h2.lt;go_wp2_with fail
   refine(W1.out _ h2.p2).mono ?_;rintro e w3 hF;obtain⟨A,c,rfl,h3,x3⟩:∃(A:Option V) (c:Nat),e= .returned (.tuple #[.agg #[.slice A tabs.length c,J M,J lf,B C rg,J us,J di,B C fr,B C T],B C 0])∧I w3 (am (.slice A tabs.length c) tabs*a9 w2 w2.heap.size)∧a4 w2 w3:=hF;have h5:I _ (aa w3.heap.size #[.slice A tabs.length c,J M,J lf,B C rg,J us,J di,B C fr,B C T] 146*(am (.slice A tabs.length c) tabs*(aa w.heap.size #[B C x.page,B C x.size,B C x.frame,B C x.rights] 39*(aB q s*R)))):=(h2.onto' h3).new #[.slice A tabs.length c,J M,J lf,B C rg,J us,J di,B C fr,B C T] 146;have x5:=(x2.trans x3).alloc (.cells #[.slice A tabs.length c,J M,J lf,B C rg,J us,J di,B C fr,B C T] 146);clear h2 x2 h3 x3 c0 c1 c2 c3 cl W1 HC;go_upto_region 5 with fail;generalize w3.alloc _=w5 at*
   generalize w3.heap.size=X1 at*
   generalize w.heap.size=X0 at*
   obtain⟨c0,c1,c2,c3⟩:=h5.right.right.cells4;have cl:=h5.right.right.lt;obtain⟨k0,k1,k2,k3,k4,k5,k6,k7⟩:=h5.cells8;have kl:=h5.lt;go_wp2_with fail
   go_ret;exact⟨rfl,h5.r3,x5⟩
  |false=>
   have hlt:T<x.size:=by rcases hbad with h|h;· cases h
                         ·exact h
   clear hbad;obtain⟨c0,c1,c2,c3⟩:=h0.cells4;have cl:=h0.lt;go_enter func113,ntmps113;go_wp2_with fail
   refine(HC.out _).mono ?_;rintro e w2 ⟨rfl,b2⟩;have h2:=h0.below b2;have x2:=x0.below b2;clear h0 x0 b2 c0 c1 c2 c3 cl;obtain⟨c0,c1,c2,c3⟩:=h2.cells4;have cl:=h2.lt;go_wp2_with fail
   refine(W1.out _ h2.p2).mono ?_;rintro e w3 hF;obtain⟨A,c,rfl,h3,x3⟩:∃(A:Option V) (c:Nat),e= .returned (.tuple #[.agg #[.slice A tabs.length c,J F,J lf,B C rg,J us,J di,B C fr,B C T],B C 0])∧I w3 (am (.slice A tabs.length c) tabs*a9 w2 w2.heap.size)∧a4 w2 w3:=hF;have h5:I _ (aa w3.heap.size #[.slice A tabs.length c,J F,J lf,B C rg,J us,J di,B C fr,B C T] 146*(am (.slice A tabs.length c) tabs*(aa w.heap.size #[B C x.page,B C x.size,B C x.frame,B C x.rights] 39*(aB q s*R)))):=(h2.onto' h3).new #[.slice A tabs.length c,J F,J lf,B C rg,J us,J di,B C fr,B C T] 146;have x5:=(x2.trans x3).alloc (.cells #[.slice A tabs.length c,J F,J lf,B C rg,J us,J di,B C fr,B C T] 146);clear h2 x2 h3 x3 c0 c1 c2 c3 cl W1 HC;go_upto_region 5 with fail;generalize w3.alloc _=w5 at*
   generalize w3.heap.size=X1 at*
   generalize w.heap.size=X0 at*
   obtain⟨c0,c1,c2,c3⟩:=h5.right.right.cells4;have cl:=h5.right.right.lt;obtain⟨k0,k1,k2,k3,k4,k5,k6,k7⟩:=h5.cells8;have kl:=h5.lt;go_wp2_with fail
   go_ret;exact⟨rfl,h5.r3,x5⟩
 obtain⟨_,n,hn,hn3,hl,hu⟩:=fh hcode
 have hth:(bv s root x.page).e.there =F:=by cases h:(bv s root x.page).e.there;· rfl
                                            ·exact absurd (.inl h) hbad
 obtain⟨m,hm⟩:∃m:Nat,n+m+z=3:=⟨3 - n - z,by have:=HZ.out;have hls:¬((bv s root x.page).lev <x.size):=fun h=>hbad (.inr h);omega⟩;have hmm:(bv s root x.page).lev - x.size=(m:Int):=by have:=HZ.out;omega
 have HFR:=E (fun R w h=>wo (q:=q) (s:=s) (R:=R) (w:=w) h hs);have hmw:IntKind.i64.wrap (m:Int)=(m:Int):=by rw[an];omega
 by_cases hfull:s.frees.length<m
 case pos=>
  have hic:dd s root x=6:=by
   unfold dd;rw[if_neg (by rw[hck];simp),if_neg (by rw[hcode];simp),if_neg hbad,if_pos (by have:=HZ.out;omega)]
  have HI:=E (And.intro hic (kS (s:=s) (r:=root) (x:=x) (by rw[hic];decide)));rw[HI.out.1,HI.out.2];clear hic hck h hu hn hl;generalize bv s root x.page=y at*
  obtain⟨code,tabs,T,th,lf,rg,us,di,fr⟩:=y;dsimp only at*
  subst hcode hth;clear hbad;obtain⟨c0,c1,c2,c3⟩:=h0.cells4;have cl:=h0.lt;go_enter func113,ntmps113;go_wp2_with fail
  refine(HC.out _).mono ?_;rintro e w2 ⟨rfl,b2⟩;have h2:=h0.below b2;have x2:=x0.below b2;clear h0 x0 b2 c0 c1 c2 c3 cl;obtain⟨c0,c1,c2,c3⟩:=h2.cells4;have cl:=h2.lt;go_wp2_with fail
  refine(W1.out _ h2.p2).mono ?_;rintro e w3 hF;obtain⟨A,c,rfl,h3,x3⟩:∃(A:Option V) (c:Nat),e= .returned (.tuple #[.agg #[.slice A tabs.length c,J F,J lf,B C rg,J us,J di,B C fr,B C T],B C 0])∧I w3 (am (.slice A tabs.length c) tabs*a9 w2 w2.heap.size)∧a4 w2 w3:=hF;have h5:I _ (aa w3.heap.size #[.slice A tabs.length c,J F,J lf,B C rg,J us,J di,B C fr,B C T] 146*(am (.slice A tabs.length c) tabs*(aa w.heap.size #[B C x.page,B C x.size,B C x.frame,B C x.rights] 39*(aB q s*R)))):=(h2.onto' h3).new #[.slice A tabs.length c,J F,J lf,B C rg,J us,J di,B C fr,B C T] 146;have x5:=(x2.trans x3).alloc (.cells #[.slice A tabs.length c,J F,J lf,B C rg,J us,J di,B C fr,B C T] 146);clear h2 x2 h3 x3 c0 c1 c2 c3 cl W1 HC;go_upto_region 5 with fail;generalize w3.alloc _=w5 at*
  generalize w3.heap.size=X1 at*
  generalize w.heap.size=X0 at*
  obtain⟨c0,c1,c2,c3⟩:=h5.right.right.cells4;have cl:=h5.right.right.lt;obtain⟨k0,k1,k2,k3,k4,k5,k6,k7⟩:=h5.cells8;have kl:=h5.lt;have hmw2:IntKind.i64.wrap (T - x.size)=(m:Int):=by rw[hmm];exact hmw
  have hfi:(s.frees.length:Int)< (m:Int):=by omega
  go_upto_region 9 with fail;have v1:=ab c1;have v7:=ab k7;have HFW:=E (fun u=>HFR.out _ _ ((h5.via u).eq (show _=aB q s*(aa X1 #[.slice A tabs.length c,J F,J lf,B C rg,J us,J di,B C fr,B C T] 146*(am (.slice A tabs.length c) tabs*(aa X0 #[B C x.page,B C x.size,B C x.frame,B C x.rights] 39*R))) by ac_rfl)));refine aq (by kernel_rfl) (by kernel_rfl) ?_;repeat(first|go_big_quiet_step ((go_at_call 26;exact Pure.via (HFW.out _)))|quiet_step ((go_at_call 26;exact Pure.via (HFW.out _))))
  refine wpQuiet_nil ?_;intro _ hw';obtain⟨uq,hw''⟩:=hw';subst hw'';have h6:=h5.via uq;have x6:=x5.below (aA _ uq);generalize ga w5 uq=w6 at*
  go_wp2_with fail
  go_ret;exact⟨rfl,h6.r3,x6⟩
 have hic:dd s root x=0:=by
  unfold dd;rw[if_neg (by rw[hck];simp),if_neg (by rw[hcode];simp),if_neg hbad,if_neg (by have:=HZ.out;omega)]
 obtain⟨t,ht⟩:∃t,(bv s root x.page).tabs[n]? =D t:=⟨_,ag (by omega)⟩;have hht:s.has t=M:=hu t (by obtain⟨hl,e⟩:=af.1 ht;exact e▸List.getElem_mem hl);have hins:dQ s root x=dP s x.page (bx (dx x) x.size) z m t:=by
  unfold dQ;rw[if_pos hic,j0 hn ht];have e1:((bv s root x.page).lev - x.size).toNat =m:=by omega
  have e2:x.size.toNat=z:=by have:=HZ.out;omega
  rw[e1,e2]
 have HIC:=E hic;have HINS:=E hins;rw[HIC.out];obtain⟨ht0,htn,_⟩:=bb.1 hht;obtain⟨tn,rfl⟩:=Int.eq_ofNat_of_zero_le ht0;generalize dQ s root x=sF at*
 have HN:=E hn;have HT:=E ht;have HHT:=E hht;clear hic hck h hu hn ht hins ht0 HIC hht htn;generalize bv s root x.page=y at*
 obtain⟨code,tabs,T,th,lf,rg,us,di,fr⟩:=y;dsimp only at*
 subst hcode hth;have HLV:=E hl;clear hbad hl;obtain⟨c0,c1,c2,c3⟩:=h0.cells4;have cl:=h0.lt;go_enter func113,ntmps113;go_wp2_with fail
 refine(HC.out _).mono ?_;rintro e w2 ⟨rfl,b2⟩;have h2:=h0.below b2;have x2:=x0.below b2;clear h0 x0 b2 c0 c1 c2 c3 cl;obtain⟨c0,c1,c2,c3⟩:=h2.cells4;have cl:=h2.lt;go_wp2_with fail
 refine(W1.out _ h2.p2).mono ?_;rintro e w3 hF;obtain⟨A,c,rfl,h3,x3⟩:∃(A:Option V) (c:Nat),e= .returned (.tuple #[.agg #[.slice A tabs.length c,J F,J lf,B C rg,J us,J di,B C fr,B C T],B C 0])∧I w3 (am (.slice A tabs.length c) tabs*a9 w2 w2.heap.size)∧a4 w2 w3:=hF;have h5:I _ (aa w3.heap.size #[.slice A tabs.length c,J F,J lf,B C rg,J us,J di,B C fr,B C T] 146*(am (.slice A tabs.length c) tabs*(aa w.heap.size #[B C x.page,B C x.size,B C x.frame,B C x.rights] 39*(aB q s*R)))):=(h2.onto' h3).new #[.slice A tabs.length c,J F,J lf,B C rg,J us,J di,B C fr,B C T] 146;have x5:=(x2.trans x3).alloc (.cells #[.slice A tabs.length c,J F,J lf,B C rg,J us,J di,B C fr,B C T] 146);clear h2 x2 h3 x3 c0 c1 c2 c3 cl W1 HC;go_upto_region 5 with fail;generalize w3.alloc _=w5 at*
 generalize w3.heap.size=X1 at*
 generalize w.heap.size=X0 at*
 obtain⟨c0,c1,c2,c3⟩:=h5.right.right.cells4;have cl:=h5.right.right.lt;obtain⟨k0,k1,k2,k3,k4,k5,k6,k7⟩:=h5.cells8;have kl:=h5.lt;have hmw2:IntKind.i64.wrap (T - x.size)=(m:Int):=by rw[hmm];exact hmw
 have hfi:¬((s.frees.length:Int)< (m:Int)):=by omega
 go_upto_region 9 with fail;have v1:=ab c1;have v7:=ab k7;have HFW:=E (fun u=>HFR.out _ _ ((h5.via u).eq (show _=aB q s*(aa X1 #[.slice A tabs.length c,J F,J lf,B C rg,J us,J di,B C fr,B C T] 146*(am (.slice A tabs.length c) tabs*(aa X0 #[B C x.page,B C x.size,B C x.frame,B C x.rights] 39*R))) by ac_rfl)));refine aq (by kernel_rfl) (by kernel_rfl) ?_;repeat(first|go_big_quiet_step ((go_at_call 26;exact Pure.via (HFW.out _)))|quiet_step ((go_at_call 26;exact Pure.via (HFW.out _))))
 refine wpQuiet_nil ?_;intro _ hw';obtain⟨uq,hw''⟩:=hw';subst hw'';have h6:=h5.via uq;have x6:=x5.below (aA _ uq);generalize ga w5 uq=w6 at*
 clear h5 x5 v1 v7 HFW HFR c0 c1 c2 c3 cl k0 k1 k2 k3 k4 k5 k6 k7 kl;obtain⟨bA,hA1,hA2,hA3⟩:=cM h6.right (k:=n) (by have:=HN.out;omega);rw[(af.1 HT.out).2] at hA3;subst hA1;have hlen1:((tabs.length:Nat):Int) - 1=(n:Int):=by have:=HN.out;omega
 have hni:(n:Int)<tabs.length:=by have:=HN.out;omega
 have hn0:¬((n:Int)<0):=by omega
 have hn00:(0:Int)≤(n:Int):=by omega
 have hwn:IntKind.i64.wrap (n:Int)=(n:Int):=by rw[an];omega
 have hwn2:IntKind.i64.wrap (((tabs.length:Nat):Int) - 1)=(n:Int):=by rw[hlen1];exact hwn
 obtain⟨k0,k1,k2,k3,k4,k5,k6,k7⟩:=h6.cells8;have kl:=h6.lt;go_upto_region 13 with fail;obtain⟨QQ,hQQ⟩:∃Q:ae,Q=(aa X1 #[.slice (D (H bA 0 o)) tabs.length c,J F,J lf,B C rg,J us,J di,B C fr,B C T] 146*am (.slice (D (H bA 0 o)) tabs.length c) tabs):=⟨_,rfl⟩;have h7:I w6 (aB q s*(aa X0 #[B C x.page,B C x.size,B C x.frame,B C x.rights] 39*(QQ*R))):=by rw[hQQ];exact h6.eq (by ac_rfl)
 obtain⟨g0,hg0⟩:∃g0:Nat,T=(g0:Int):=⟨z+m,by have:=HLV.out;omega⟩;have hlw:=it (dx x) x.size;have HOUT:=E (show g0=z+m∧m≤m∧m≤s.frees.length∧s.Ok∧s.has (tn:Int)=M∧sF=dP s x.page (bx (dx x) x.size) z m tn from⟨by have:=HLV.out;omega,Nat.le_refl _,by omega,hs,HHT.out,HINS.out⟩);have HG0:=E hg0;clear h6 k0 k1 k2 k3 k4 k5 k6 k7 kl hA2 hA3 hQQ hlen1 hni hn0 hn00 hwn hwn2 hmw2 hfi hfull hg0;go_loopw [10,11] (fun t10 t11 wr=>∃(m' g tt:Nat) (σ:Ms),t10=B C (tt:Int)∧t11=B C (g:Int)∧Hid (g=z+m'∧m'≤m∧m'≤σ.frees.length∧σ.Ok∧σ.has (tt:Int)=M∧sF=dP σ x.page (bx (dx x) x.size) z m' tt)∧I wr (aB q σ*(aa X0 #[B C x.page,B C x.size,B C x.frame,B C x.rights] 39*(QQ*R)))∧a4 w wr) (fun _ t11 _=>(intOf t11).toNat)
 case atStart=>exact⟨m,g0,tn,s,rfl,by rw[HG0.out],HOUT,h7,x6⟩
 case round=>
  clear h7 x6 HOUT;obtain⟨m',g,tt,σ,rfl,rfl,HO,hr,hx⟩:=hrel;obtain⟨hgz,hmm',hmf,hσ,hht,hch⟩:=HO.out;obtain⟨_,htn',_⟩:=bb.1 hht;have hixr:=ic (p:=x.page) (L:=(g:Int)) hp (by omega) (by omega);obtain⟨j,hj⟩:=Int.eq_ofNat_of_zero_le hixr.1;have hj8n:j<8:=by have:=hixr.2;omega
  have hj8:(j:Int)<8:=by omega
  obtain⟨c0,c1,c2,c3⟩:=hr.right.cells4;have cl:=hr.right.lt;by_cases hm0:m'=0
  ·have hcond:¬(x.size< (g:Int)):=by have:=HZ.out;omega
   have hfin:sF=σ.setW tt j (bx (dx x) x.size):=by
    rw[hch,hm0];show σ.setW (tt:Int).toNat (au x.page z).toNat _=_;have e:((z:Nat):Int)=(g:Int):=by omega
    rw[e,hj];rfl
   have hjs:au x.page x.size=(j:Int):=by
    have e:x.size=(g:Int):=by have:=HZ.out;omega
    rw[e,hj];done
   have HWD:=E (fun Y=>jj (dx x) x.size Y);unfold dx at HWD;dsimp only at HWD;have HI2:=E (fun Y=>eo x.page x.size Y);rw[hjs] at HI2;have htn:tt<σ.n:=by omega
   have htnz:(tt:Int)< (σ.n:Int):=by omega
   have HFIN:=E hfin;unfold dx at HFIN;clear hgz hmm' hmf hσ hht hch htn' hixr hj hm0 HO hjs hfin;generalize bx ⟨M,M,x.rights,F,F,x.frame⟩ x.size=nw at*
   generalize ak ⟨M,M,x.rights,F,F,x.frame⟩ x.size=ff at*
   obtain⟨gw,gi,vk,hq⟩:=cC hr;have HK:=E (fun(w':O) (sx:Ms) (h:I w' (dn q gw gi vk sx (aa X0 #[B C x.page,B C x.size,B C x.frame,B C x.rights] 39*(QQ*R))))=>(by
    obtain⟨m0,m1,m2,m3⟩:=h.right.r3.cells4;exact⟨P h 0,m0,m1,m2,m3⟩:w'.cell? (H q 0 o)=D (.slice (D (H gw 0 o)) sx.n sx.n)∧w'.cell? (H X0 0 o)=D (B C x.page)∧w'.cell? (H X0 1 o)=D (B C x.size)∧w'.cell? (H X0 2 o)=D (B C x.frame)∧w'.cell? (H X0 3 o)=D (B C x.rights)))
   have hq0:=hq.drew;have xq0:=hx.drew;go_upto_region 18 with fail;go_cut [] from 84 to 107 (fun wx=>I wx (aB q (σ.setW tt j nw)*(aa X0 #[B C x.page,B C x.size,B C x.frame,B C x.rights] 39*(QQ*R)))∧a4 w wx)
   case first=>
    go_region_held3 (fun w'=>w'.cell? (H q 0 o)=D (.slice (D (H gw 0 o)) σ.n σ.n)∧w'.cell? (H X0 0 o)=D (B C x.page)∧w'.cell? (H X0 1 o)=D (B C x.size)∧w'.cell? (H X0 2 o)=D (B C x.frame)∧w'.cell? (H X0 3 o)=D (B C x.rights)) (first|(with_reducible exact HK.out _ σ hq0)|(with_reducible exact HK.out _ σ hi5)|(with_reducible exact HK.out _ σ hw6)|(exact HK.out _ (σ.setW tt j nw) (dt (k:=tt) (i:=j) hw6 hj8n nw))|(exact HK.out _ (σ.setW tt j nw) (dt (k:=tt) (i:=j) hi5 hj8n nw))|go_keep) (first|(go_at_call 120;(with_reducible refine(HI2.out _).mono ?_);rintro e2 w5 ⟨rfl,b5⟩;first|(have hi5:=hw6.below b5;have xi5:=xw6.below b5;have y0:=co hi5 htn hj8n;have y1:=hi5.right.free (tt*8+j);have y2:=hi5.right.lt)|(have hi5:=hq0.below b5;have xi5:=xq0.below b5))|(go_at_call 124;(with_reducible refine(HWD.out _).mono ?_);rintro e2 w6 ⟨rfl,b6⟩;first|(have hw6:=hi5.below b6;have xw6:=xi5.below b6;have y0:=co hw6 htn hj8n;have y1:=hw6.right.free (tt*8+j);have y2:=hw6.right.lt)|(have hw6:=hq0.below b6;have xw6:=xq0.below b6)))
    all_goals
     go_wp2_with fail
     go_meet
     case rel=>first|exact⟨de (dt (k:=tt) (i:=j) hw6 hj8n nw),xw6.set _ _⟩|exact⟨de (dt (k:=tt) (i:=j) hi5 hj8n nw),xi5.set _ _⟩
   case rest=>
    clear hq hq0 xq0 hr hx HK c0 c1 c2 c3 cl;obtain⟨h9,x10⟩:=hcut;go_wp2_with fail
    go_ret;exact⟨rfl,by rw[HFIN.out];exact(h9.eq (show _=aa X0 #[B C x.page,B C x.size,B C x.frame,B C x.rights] 39*(QQ*(aB q (σ.setW tt j nw)*R)) by ac_rfl)).right.right,x10⟩
  ·obtain⟨m2,hm2⟩:∃m2,m'=m2+1:=⟨m' - 1,by omega⟩
   have hcond:x.size< (g:Int):=by have:=HZ.out;omega
   obtain⟨k,hk⟩:=ju (s:=σ) (by omega);have hkl:=Ms.top_lt hσ.inv hk;have e1:σ.takeS=σ.take k:=by unfold Ms.takeS;rw[hk]
   have eV:σ.topV=(k:Int):=by unfold Ms.topV;rw[hk]
   have hok2:=hσ.takeS;have hfl2:=jY hk;have HT:=E (fun R w h=>wq q σ R w h hσ);rw[e1] at HT hok2;rw[eV] at HT;have hnw:bx ⟨M,F,7,F,F,(k:Int)⟩ (g:Int)=iR k (z+m2+1):=by
    unfold iR sS;congr 1
    omega
   have hu64:=it ⟨M,F,7,F,F,(k:Int)⟩ (g:Int);have hch2:sF=dP ((σ.take k).setW tt j (bx ⟨M,F,7,F,F,(k:Int)⟩ (g:Int))) x.page (bx (dx x) x.size) z m2 (k:Int):=by
    rw[hch,hm2];conv=>lhs;unfold dP
    rw[hk];dsimp only;rw[hnw];have e:((z+m2+1:Nat):Int)=(g:Int):=by omega
    rw[e,hj];rfl
   have HO2:=E (show g - 1=z+m2∧m2≤m∧m2≤((σ.take k).setW tt j (bx ⟨M,F,7,F,F,(k:Int)⟩ (g:Int))).frees.length ∧((σ.take k).setW tt j (bx ⟨M,F,7,F,F,(k:Int)⟩ (g:Int))).Ok ∧((σ.take k).setW tt j (bx ⟨M,F,7,F,F,(k:Int)⟩ (g:Int))).has (k:Int)=M∧sF=dP ((σ.take k).setW tt j (bx ⟨M,F,7,F,F,(k:Int)⟩ (g:Int))) x.page (bx (dx x) x.size) z m2 (k:Int) from
    ⟨by omega,by omega,by show m2≤(σ.take k).frees.length;omega,⟨hok2.inv.setW _ _ hu64,hok2.small⟩,by show(σ.take k).has (k:Int)=M;exact dX hkl.1,hch2⟩)
   have HWD:=E (fun Y=>jj ⟨M,F,7,F,F,(k:Int)⟩ (g:Int) Y);dsimp only at HWD;have HI2:=E (fun Y=>eo x.page (g:Int) Y);rw[hj] at HI2;have hn2:(σ.take k).n =σ.n:=rfl;have htnn:tt< (σ.take k).n :=by rw[hn2];omega
   have hg1:(g:Int) - 1=((g - 1:Nat):Int):=by omega
   have hgw:IntKind.i64.wrap (((g - 1:Nat)):Int)=((g - 1:Nat):Int):=by rw[an];omega
   have hgpos:0<g:=by omega
   have HGP:=E (And.intro hg1 (And.intro hgw hgpos));clear hgz hmm' hmf hσ hht hch htn' hixr hj hm0 hm2 hk hkl e1 eV hok2 hfl2 hnw hu64 hch2 hn2 hg1 hgw hgpos HO;generalize bx ⟨M,F,7,F,F,(k:Int)⟩ (g:Int)=nw at*
   generalize ak ⟨M,F,7,F,F,(k:Int)⟩ (g:Int)=ff at*
   generalize σ.take k=σ2 at*
   go_wp2_with fail
   refine(HT.out _ _ hr).mono ?_;rintro e w8 ⟨rfl,h8,x8⟩;have x9:=hx.trans x8;clear c0 c1 c2 c3 cl hr hx x8 HT;obtain⟨gw,gi,vk,hq⟩:=cC h8;have HK:=E (fun(w':O) (sx:Ms) (h:I w' (dn q gw gi vk sx (aa X0 #[B C x.page,B C x.size,B C x.frame,B C x.rights] 39*(QQ*R))))=>(by
    obtain⟨m0,m1,m2,m3⟩:=h.right.r3.cells4;exact⟨P h 0,m0⟩:w'.cell? (H q 0 o)=D (.slice (D (H gw 0 o)) sx.n sx.n)∧w'.cell? (H X0 0 o)=D (B C x.page)))
   have htn:tt<σ2.n:=htnn;have htnz:(tt:Int)< (σ2.n:Int):=by omega
   have hn128:True:=trivial;have hq0:=hq.drew;have xq0:=x9.drew;go_upto_region 16 with fail;go_cut [] from 65 to 83 (fun wx=>I wx (aB q (σ2.setW tt j nw)*(aa X0 #[B C x.page,B C x.size,B C x.frame,B C x.rights] 39*(QQ*R)))∧a4 w wx)
   case first=>
    go_region_held3 (fun w'=>w'.cell? (H q 0 o)=D (.slice (D (H gw 0 o)) σ2.n σ2.n)∧w'.cell? (H X0 0 o)=D (B C x.page)) (first|(with_reducible exact HK.out _ σ2 hq0)|(with_reducible exact HK.out _ σ2 hi5)|(with_reducible exact HK.out _ σ2 hw6)|(exact HK.out _ (σ2.setW tt j nw) (dt (k:=tt) (i:=j) hw6 hj8n nw))|(exact HK.out _ (σ2.setW tt j nw) (dt (k:=tt) (i:=j) hi5 hj8n nw))|go_keep) (first|(go_at_call 120;(with_reducible refine(HI2.out _).mono ?_);rintro e2 w5 ⟨rfl,b5⟩;first|(have hi5:=hw6.below b5;have xi5:=xw6.below b5;have y0:=co hi5 htn hj8n;have y1:=hi5.right.free (tt*8+j);have y2:=hi5.right.lt)|(have hi5:=hq0.below b5;have xi5:=xq0.below b5))|(go_at_call 124;(with_reducible refine(HWD.out _).mono ?_);rintro e2 w6 ⟨rfl,b6⟩;first|(have hw6:=hi5.below b6;have xw6:=xi5.below b6;have y0:=co hw6 htn hj8n;have y1:=hw6.right.free (tt*8+j);have y2:=hw6.right.lt)|(have hw6:=hq0.below b6;have xw6:=xq0.below b6)))
    all_goals
     go_wp2_with fail
     go_meet
     case rel=>first|exact⟨de (dt (k:=tt) (i:=j) hw6 hj8n nw),xw6.set _ _⟩|exact⟨de (dt (k:=tt) (i:=j) hi5 hj8n nw),xi5.set _ _⟩
   case rest=>
    clear hq hq0 xq0 h8 x9 HK;obtain⟨h9,x10⟩:=hcut;obtain⟨c0,c1,c2,c3⟩:=h9.right.cells4;have cl:=h9.right.lt;obtain⟨hg1,hgw,hgpos⟩:=HGP.out;have HGZ:=E hgpos;clear hgpos;go_wp2_with fail
    go_roundw
    case rel=>exact⟨m2,g - 1,k,_,rfl,by first|rfl|go_num,HO2,h9,x10⟩
    case measure=>have:=HGZ.out;simp[intOf];omega
end Go.Proofs.YtmfheghbgihdmaaGreat
