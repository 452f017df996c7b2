/- Contracts of package slices at mappings: Delete, Clone. -/
import Derived.Test.YtmfheghbgihdmaaGreatTabD
import Derived.Test.YtmfheghbgihdmaaGreatSep
import Derived.Test.YtmfheghbgihdmaaGreatTblM4
import Derived.Deep.Cut
import Derived.Test.YtmfheghbgihdmaaGreatEntry2
import Derived.Shelf.Spec.SlicesInsert
import Derived.Laws.NewBlocks
import Derived.Lib.AppendZerosOnto
import Derived.Deep.RegionLaw
import Derived.Deep.AppendLies
import Derived.Test.YtmfheghbgihdmaaGreatFindIn
import Derived.StillTailTactics
namespace Go.Proofs.YtmfheghbgihdmaaGreat
open Go.Value renaming bool→vB
open Option renaming some→C,none→I
open Bool renaming true→D,false→K
open Go.Value renaming int→E
open Go.IntKind renaming i64→F,wrap_i64→b7
open Go.Lib renaming hid→J
open Go renaming bodyPost_ret→N,World→S,Calls→ag,Addr→b0,Value→cS
open Go.Addr renaming mk→O
open Go.Proofs.YtmfheghbgihdmaaGreat renaming Has→T,over→a4,Stp→bk,way→bl,Ext→b8,Pure→ck,Ends→c5,mpZero→c6,MapOk→c7
open List renaming getElem?_eq_getElem→U,length_append→Y,getElem?_eq_some_iff→b6
open Go.Proofs.YtmfheghbgihdmaaGreat.Sc renaming change→Z,put_len→bi,core_ok→b4,evict→bL,act→bP,new→cc,ack→cn,walk→cq,access→cX
open Go.Proofs.YtmfheghbgihdmaaGreat.Bk renaming pos→ad,find→af,Ok→a6,ans→bb,dropL→bf,protL→bz,add→bB,dropC→bD,bad→bG,addC→cd,find_mem→cg,place→ci,before→cp,protB_iff→cw,dropR→cz,del→c8,over_at→c9,prot→cG,protR→di,protC→dk,protB→ds
open Go.Proofs.YtmfheghbgihdmaaGreat.Ext renaming refl→a5
open Go.Proofs.YtmfheghbgihdmaaGreat.Ms renaming has_iff→a7,frees_mem→b9,new→ca,giveS→dw
open Tryz
open Go.RowKit
set_option maxRecDepth 100000
theorem Ext.cells{w0:S}(b:Nat):∀(vs:List cS) (o:Nat) {w:S},b8 w0 w→b8 w0 (w.setCells b o vs)
 | [],_,_,h=>h
 |_::r,o,_,h=>Ext.cells b r (o+1) (h.set _ _)
theorem vX:∀w,(zeroValue 39).run prog w= .ok c6 w:=Tryz.zeroValue39
theorem gC{w:S}{R:ab}{A:Option b0}{n c:Nat}{l:List Mp}(h:T w (cK (.slice A n c) l*R)):n≤9223372036854775807∧n≤c:=by
 obtain rfl:=dI h;refine⟨iv h,?_⟩;rcases Has.rowCases (e:=39) (size:=4) h with ⟨hv,h0,_⟩|⟨g,cap,cur,hv,h1,_⟩
 ·injection hv with a b
  omega
 ·injection hv with a b d
  omega
theorem ow:(prog.info? 39).map (fun i=>(i.zero,i.size,i.bytes))=C (C c6,4,32):=by kernel_rfl
theorem iT{w:S}{R:ab}{g n c:Nat}{l:List Mp}(h:T w (cK (.slice (C (O g 0 I)) n c) l*R))(k:Nat):
  ∀j u,((a9 l).drop (k*4))[j]? =C u→w.cell? ⟨g,k*4+j,I⟩=C u:=by
 intro j u hu;rw[List.getElem?_drop] at hu;obtain rfl:=dI h;obtain⟨b,hb,_,hc,_⟩:=Has.rowGet (e:=39) (size:=4) h hu;injection hb with hb
 injection hb with hb
 subst hb;exact hc
theorem sg(l:List Mp)(i j g n c:Nat)(R:ab)(w:S)(hij:i<j)(hj:j≤n)(h:T w (cK (.slice (C (O g 0 I)) n c) l*R)):
  ag prog 178 #[.slice (C (O g 0 I)) n c,.int .i64 i,.int .i64 j] w
   (cR (.slice (C (O g 0 I)) (i+(n - j)) c) (cK (.slice (C (O g 0 I)) (i+(n - j)) c) (l.take i++l.drop j)*R) w):=by
 obtain rfl:=dI h;obtain⟨hbig,hnc⟩:=gC h;obtain⟨i0,hi0,hz0,hz1,hz2⟩:=info_parts ow;obtain⟨A,hA,hnews⟩:∃A:b0,(if c=j then C ((O g 0 I):b0) else C ⟨g,j*4,I⟩)=C A∧Hid (∀t u,((a9 l).drop (j*4))[t]? =C u→w.drew.cell? (A.add t)=C u):=by
  by_cases hc:c=j
  ·refine⟨(O g 0 I),by simp[hc],fun t u hu=> ?_⟩
   rw[List.drop_eq_nil_of_le (by rw[dL];omega)] at hu;simp at hu
  ·refine⟨⟨g,j*4,I⟩,by simp[hc],fun t u hu=> ?_⟩
   rw[Addr.add_lit];exact iT h j t u hu
 have s1:Hid (((a9 l).drop (j*4)).length =(l.length - j)*4):=by rw[List.length_drop,dL];show _=_;omega
 have s2:Hid (∀u∈(a9 l).drop (j*4),u.oneCell'=D):=fun u hu=>jp l u (List.mem_of_mem_drop hu);have s3:Hid (∀t,t< ((a9 l).drop (j*4)).length →(w.drew.cell? ⟨g,0+i*4+t,I⟩).isSome =D∧w.drew.frozen? ⟨g,0+i*4+t,I⟩=K):=by
  intro t ht;rw[s1.out] at ht;obtain⟨b,hb,_,hc,hf⟩:=Has.rowGet (e:=39) (size:=4) h (i:=i*4+t) (u:=(a9 l)[i*4+t]'(by rw[dL];omega)) (U _);injection hb with hb
  injection hb with hb
  subst hb;rw[Nat.zero_add];exact⟨by show(w.cell? _).isSome =D;rw[hc];rfl,hf⟩
 have hic:i≤c:=by omega
 have hne:((i:Int)==(j:Int))=K:=beq_eq_false_iff_ne.2 (by omega);go_enter func178,ntmps178;go_wp2_with fail
 go_region_law (refine step_append_room rfl (.tmp 22) (.tmp 25) 44 rfl 39 i0 4 underlying44 hi0 hz1 g 0 i c (by simp[Act.eval,Act.put]) A (l.length - j) (c - j) ((a9 l).drop (j*4)) (by simp[Act.eval,Act.put]) s1.out hnews.out s2.out (by omega) s3.out ?_)
 have hn':i+(l.length - j)<l.length:=by omega
 have h1:=Has.rowSetCells (e:=39) (size:=4) ((a9 l).drop (j*4)) (i*4) h.drew (by rw[s1.out];omega);have hz:(l.take i++l.drop j).length =i+(l.length - j):=by simp;omega
 obtain⟨zs,hcl⟩:∃zs,∀ty,(Builtin.clear_ #[44] ty #[.slice (C ⟨g,(i+(l.length - j))*4,I⟩) (l.length - (i+(l.length - j))) (c - (i+(l.length - j)))]).run prog (w.drew.setCells g (i*4) ((a9 l).drop (j*4)))= .ok (.tuple #[]) ((w.drew.setCells g (i*4) ((a9 l).drop (j*4))).setCells g ((i+(l.length - j))*4) zs):=by
  refine⟨_,fun ty=>gP _ _ _ ty c6 4 underlying44 vX rfl (by intro v hv;simp[c6,Value.cells] at hv;subst hv;rfl) g _ _ _ (by omega) (by omega) (fun t ht=> ?_) (fun t ht=> ?_)⟩
  all_goals
   obtain⟨b,hb,_,hc,hf⟩:=Has.rowGet (e:=39) (size:=4) h1 (i:=(i+(l.length - j))*4+t) (U (by rw[h1.rowLens.1];omega));injection hb with hb
   injection hb with hb
   subst hb
  ·rw[hc];rfl
  ·exact hf
 have hfin:T ((w.drew.setCells g (i*4) ((a9 l).drop (j*4))).setCells g ((i+(l.length - j))*4) zs) (cK (.slice (C (O g 0 I)) (i+(l.length - j)) c) (l.take i++l.drop j)*R):=by
  have:=Has.rowDelete (e:=39) (size:=4) (i:=i) (j:=j) h.drew (by omega) hj zs;unfold cK;rw[hz,fk];have e1:(a9 l).take (i*4)=a9 (l.take i):=gu iR l i;have e2:(a9 l).drop (j*4)=a9 (l.drop j):=gr iR l j;rw[←e1,←e2];exact this
 have hx:b8 w ((w.drew.setCells g (i*4) ((a9 l).drop (j*4))).setCells g ((i+(l.length - j))*4) zs):=Ext.cells _ _ _ (Ext.cells _ _ _ (a5 w).drew);clear h1 s1 s2 s3 hnews hA h hz;generalize (w.drew.setCells g (i*4) ((a9 l).drop (j*4)))=w1 at*
 generalize i+(l.length - j)=n' at*
 have hcn:¬c≤n':=by omega
 have hnn:(n':Int)≤(l.length:Int):=by omega
 go_wp2_with fail
 go_ret;exact⟨rfl,hfin,hx⟩
def rH(l:List Mp)(w:S)(e:Ending)(w':S):Prop:=∃A n c,e= .returned (.slice A n c)∧T w' (cK (.slice A n c) l*bE w w.heap.size)∧b8 w w'
theorem tP(l:List Mp)(A:Option b0)(n c:Nat)(R:ab)(w:S)(hs:l.length≤1000000)(h:T w (cK (.slice A n c) l*R)):
  ag prog 142 #[.slice A n c] w (rH l w):=by
 have q22:∀(w:S) (a:Option b0) (n c n' c':Nat),(binOp .eql 44 (.slice a n c) (.slice I n' c')).run prog w= .ok (.bool a.isNone) w:=fun w a n c n' c'=>Lib.run_eql_slice_nil w _ _ a n c n' c' underlying44;have hl0:=dI h;subst hl0;cases A with
 |none=>
  have h0:l=[]∧c=0:=by
   rcases Has.rowCases (e:=39) (size:=4) h with ⟨hv,h0,_⟩|⟨g,cap,cur,hv,_⟩
   ·injection hv with a b d
    exact⟨List.eq_nil_of_length_eq_zero h0,d⟩
   ·injection hv with a
    cases a
  obtain⟨rfl,rfl⟩:=h0;go_enter func142,ntmps142;go_wp2_with fail
  go_ret;exact⟨I,0,0,rfl,Has.rowNil (aT w),a5 _⟩
 |some a=>
  have h0:∃g,a=(O g 0 I):=by
   rcases Has.rowCases (e:=39) (size:=4) h with ⟨hv,h0,_⟩|⟨g,cap,cur,hv,_⟩
   ·injection hv with a b d
    cases a
   ·injection hv with a
    injection a with a
    exact⟨g,a⟩
  obtain⟨g,rfl⟩:=h0;have h1:=(aT w).new #[] 39;have hrow:T (w.alloc (.cells #[] 39)) (ct 39 4 (.slice (C (O w.heap.size 0 I)) 0 0) 0 []*bE w w.heap.size):=h1.rowOf rfl (Nat.le_refl _) (by unfold maxLen;omega) rfl rfl;have hn:=iT (h.alloc (.cells #[] 39)) 0;have hne:Hid (∀j u,(a9 l)[j]? =C u→(w.alloc (.cells #[] 39)).cell? (((O g 0 I):b0).add j)=C u):=fun j u hu=>by
   rw[Addr.add_lit];exact hn j u (by simpa using hu)
  have x1:=(a5 w).alloc (.cells #[] 39);clear hn h1 h;go_enter func142,ntmps142;go_wp2_with(at_builtin;refine aV rfl _ _ 44 rfl underlying44 re _ _ _ rfl hrow (O g 0 I) l.length c (a9 l) rfl (dL l) hne.out (jp l) ?c2 ?c3 ?_)
  case c2=>unfold maxLen;omega
  case c3=>omega
  intro v' w2 h' x';obtain⟨A',c',rfl⟩:=h'.rowForm;go_wp2_with fail
  go_ret;exact⟨A',_,c',rfl,h',x1.trans x'⟩
def km(m:Mp)(p:Int):Int:=if a4 m p=D then 0 else wrap64 (m.page - p)
theorem lH(m:Mp)(p:Int)(w:S)(hm:cW m.page)(hp:cW p):
  ag prog 191 #[.agg #[E F m.page,E F m.size,E F m.frame,E F m.rights],.int .i64 p] w (ck (E F (km m p)) w):=by
 have h1:=Has.new (aT w) #[E F m.page,E F m.size,E F m.frame,E F m.rights] 39;have x1:=(a5 w).alloc (.cells #[E F m.page,E F m.size,E F m.frame,E F m.rights] 39);have HO:=J (fun W=>j0 m p W hm hp);obtain⟨c0,c1,c2,c3⟩:=h1.cells4;have hlt:=h1.lt;cases ho:a4 m p with
 |true=>
  rw[ho] at HO;have hy:Hid (km m p=0):=J (by unfold km;rw[if_pos ho]);clear ho;go_enter func191,ntmps191;go_wp2_with(refine(HO.out _).mono ?_;rintro e w2 ⟨rfl,b2⟩)
  go_ret;exact⟨by rw[hy.out];rfl,ar (h1.below b2).right (x1.below b2)⟩
 |false=>
  rw[ho] at HO;have hy:Hid (km m p=wrap64 (m.page - p)):=J (by unfold km;rw[if_neg (by rw[ho];simp)]);clear ho;go_enter func191,ntmps191;go_wp2_with(refine(HO.out _).mono ?_;rintro e w2 ⟨rfl,b2⟩;have d0:=((b2.cell (World.block_lt_of_cell? _ _ c0)).trans c0))
  go_ret;exact⟨by rw[hy.out];rfl,ar (h1.below b2).right (x1.below b2)⟩
theorem qD{m:Mp}{p:Int}(hm:c7 m)(hp:cW p)(h0:0≤p):decide (km m p<0)=cp p m:=by
 have:=hm.p0;have:=hm.p1;have:=hm.sp;obtain⟨_,h2⟩:=hp;unfold km cp;cases a4 m p with
 |true=>rfl
 |false=>
  rw[if_neg (by simp),Bool.not_false,Bool.true_and];exact decide_eq_decide.2 (by unfold wrap64;omega)
theorem tQ{m:Mp}{p:Int}(hm:c7 m)(hp:cW p):(km m p==0)=a4 m p:=by
 have:=hm.p0;have:=hm.p1;have:=hm.sp;obtain⟨h1,h2⟩:=hp;unfold km;cases ho:a4 m p with
 |true=>rfl
 |false=>
  rw[if_neg (by simp)];have:=dy.1 ho;exact beq_eq_false_iff_ne.2 (by unfold wrap64;omega)
theorem vY{m:Mp}{p:Int}:cW (km m p):=by
 unfold km cW wrap64;split<;>omega
theorem vZ{l:List Mp}(hl:a6 l){p:Int}{i:Nat}(hi:0≤p→i=ad l p):(af l p).isSome =if h:i<l.length then a4 l[i] p else K:=by
 by_cases h0:0≤p
 ·obtain rfl:=hi h0
  rw[Bk.find_head hl];cases hd:l.dropWhile (cp p) with
  |nil=>
   have:=Bk.drop_nil hd;rw[dif_neg (by omega)];rfl
  |cons y r=>
   obtain⟨h1,h2⟩:=Bk.drop_head hd;rw[dif_pos h1,h2];show(if a4 y p=D then C y else I).isSome =_;cases a4 y p<;>rfl
 ·have hno:∀x∈l,a4 x p=K:=fun x hx=>dy.2 (.inl (by have:=(hl.chk x hx).p0;omega))
  have e1:af l p=I:=List.find?_eq_none.2 fun x hx=>by rw[hno x hx];simp
  rw[e1];split
  ·rename_i h
   rw[hno _ (List.getElem_mem h)];rfl
  ·rfl
theorem si(l:List Mp)(hl:a6 l)(p:Int)(hp:cW p)(A:Option b0)(n c:Nat)(R:ab)(w:S)(h:T w (cK (.slice A n c) l*R)):
  ag prog 190 #[.slice A n c,.int .i64 p,.func (.func 191) #[] #[]] w
   (fun e w'=>∃i:Nat,i≤l.length∧e= .returned (.tuple #[E F i,vB (af l p).isSome])∧(0≤p→i=ad l p)∧Below w.heap.size w w'):=by
 obtain rfl:=dI h;have hbig:=iv h;have hL:=hl.le;have HL:=J hl;clear hl;go_enter func190,ntmps190;go_wp2_with fail
 go_loopw [9,10] (fun s9 s10 wr=>∃i j:Nat,i≤j∧j≤l.length∧s9=E F i∧s10=E F j∧Below w.heap.size w wr∧Hid (0≤p→i≤ad l p∧ad l p≤j)) (fun s9 s10 _=>(intOf s10).toNat - (intOf s9).toNat)
 case atStart=>exact⟨0,l.length,Nat.zero_le _,Nat.le_refl _,rfl,rfl,Below.refl _ _,fun _=>⟨Nat.zero_le _,Bk.pos_le l p⟩⟩
 case round=>
  obtain⟨i,j,hij,hj,rfl,rfl,BW,HP⟩:=hrel;have hr:=h.below BW;have BW':=J BW;clear BW h;by_cases hlt:i<j
  ·go_upto_region 5 with fail
   obtain⟨k,hk,hik,hkj⟩:∃k:Nat,((i:Int)+(j:Int)) / 2=k∧i≤k∧k<j:=⟨(i+j) / 2,by omega,by omega,by omega⟩;rw[hk];clear hk;have hkl:k<l.length:=by omega
   obtain⟨b,rfl,hb,c0,c1,c2,c3⟩:=eT hr hkl;have hm:=HL.out.chk l[k] (List.getElem_mem hkl);have hiff:=Bk.pos_iff HL.out p hkl;have hcb:=fun h0=>qD (p:=p) hm hp h0;have HC:=J (fun W=>lH l[k] p W ⟨by have:=hm.p0;omega,by have:=hm.p1;have:=hm.sp;omega⟩ hp);have hci:cW (km l[k] p):=vY;have HF:=J (show 0≤p→decide (km l[k] p<0)=decide (k<ad l p) from fun h0=>(hcb h0).trans hiff);clear hm hiff hcb hr;generalize l[k]=m at*
   generalize km m p=v at*
   by_cases hv:v<0
   ·go_wp2_with(refine(HC.out _).mono ?_;rintro e w' ⟨rfl,hb'⟩)
    go_roundw
    case rel=>exact⟨k+1,j,by omega,hj,by go_num,rfl,BW'.out.trans (hb'.mono BW'.out.size),fun h0=>⟨by have:=HF.out h0;rw[decide_eq_true hv] at this;have:=of_decide_eq_true this.symm;omega,(HP.out h0).2⟩⟩
    case measure=>simp[intOf];omega
   ·go_wp2_with(refine(HC.out _).mono ?_;rintro e w' ⟨rfl,hb'⟩)
    go_roundw
    case rel=>exact⟨i,k,by omega,by omega,rfl,rfl,BW'.out.trans (hb'.mono BW'.out.size),fun h0=>⟨(HP.out h0).1,by have:=HF.out h0;rw[decide_eq_false (by omega)] at this;have:=of_decide_eq_false this.symm;omega⟩⟩
    case measure=>simp[intOf];omega
  ·have hi:0≤p→i=ad l p:=fun h0=>by have:=HP.out h0;omega
   have hfa:=vZ HL.out hi;have HI:=J hi;clear hi HP;by_cases hil:i<l.length
   ·rw[dif_pos hil] at hfa
    obtain⟨b,rfl,hb,c0,c1,c2,c3⟩:=eT hr hil;have hm:=HL.out.chk l[i] (List.getElem_mem hil);have HC:=J (fun W=>lH l[i] p W ⟨by have:=hm.p0;omega,by have:=hm.p1;have:=hm.sp;omega⟩ hp);have hz:=tQ hm hp;rw[←hfa] at hz;have HZ:=J hz;clear hm hr hz hfa;generalize l[i]=m at*
    generalize km m p=v at*
    go_wp2_with(refine(HC.out _).mono ?_;rintro e w' ⟨rfl,hb'⟩)
    exact N (v:= .tuple #[E F i,vB (v==0)]) (by simp[results,results190]) rfl ⟨i,by omega,by rw[HZ.out],HI.out,BW'.out.trans (hb'.mono BW'.out.size)⟩
   ·rw[dif_neg hil] at hfa
    have HZ:=J hfa;clear hfa hr;go_wp2_with fail
    exact N (v:= .tuple #[E F i,vB K]) (by simp[results,results190]) rfl ⟨i,by omega,by rw[HZ.out],HI.out,BW'.out⟩
def bp(B:Nat)(l:List Mp):ab:=ex fun A=>ex fun c=>aa B #[.slice A l.length c] 211*cK (.slice A l.length c) l
theorem eH{B:Nat}{l:List Mp}{P:ab}{w:S}(h:T w (bp B l*P)):∃A c,T w (aa B #[.slice A l.length c] 211*(cK (.slice A l.length c) l*P)):=by
 unfold bp at h;obtain⟨A,h⟩:=aF.1 h;obtain⟨c,h⟩:=aF.1 h;exact⟨A,c,h.a1⟩
theorem gD{B c:Nat}{A:Option b0}{l:List Mp}{P:ab}{w:S}(h:T w (aa B #[.slice A l.length c] 211*(cK (.slice A l.length c) l*P))):T w (bp B l*P):=by
 unfold bp;exact aF.2 ⟨A,aF.2 ⟨c,h.a2⟩⟩
theorem oz(l:List Mp)(hl:a6 l)(p:Int)(hp:cW p)(B:Nat)(R:ab)(w:S)(h:T w (bp B l*R)):
  ag prog 175 #[.pointer (C (O B 0 I)),.int .i64 p] w
   (fun e w'=>∃i:Nat,i≤l.length∧e= .returned (.tuple #[E F i,vB (af l p).isSome])∧(0≤p→i=ad l p)∧Below w.heap.size w w'):=by
 obtain⟨A,c,h⟩:=eH h;have c0:=h.cell 0;have hlt:=h.lt;have HS:=J (si l hl p hp A l.length c R w h.right);clear h;go_enter func175,ntmps175;go_wp2_with(refine HS.out.mono ?_;rintro e w' ⟨i,hi,rfl,hp,hb⟩)
 exact N (v:= .tuple #[E F i,vB (af l p).isSome]) (by simp[results,results175]) rfl ⟨i,hi,rfl,hp,hb⟩
theorem Ak(R:ab)(w:S)(h:T w R):ag prog 81 #[] w fun e w'=>∃p,cR (.pointer (C (O p 0 I))) (bp p []*R) w e w':=by
 have h1:=h.new #[.slice I 0 0] 211;have h2:T (w.alloc (.cells #[.slice I 0 0] 211)) (aa w.heap.size #[.slice I 0 0] 211*(cK (.slice I ([]:List Mp).length 0) []*R)):=(Has.rowNil h1).p2;go_enter func81,ntmps81;go_wp2;go_ret;exact⟨_,rfl,gD h2,(a5 w).alloc _⟩
theorem xo(p:Nat)(l:List Mp)(R:ab)(w:S)(hs:l.length≤1000000)(h:T w (bp p l*R)):
  ag prog 85 #[.pointer (C (O p 0 I))] w (rH l w):=by
 obtain⟨A,c,h⟩:=eH h;have hC:=tP l A l.length c _ w hs h.p2;have c0:=h.cell 0;have hp:=h.lt;go_enter func85,ntmps85;go_wp2_with(refine hC.mono ?_;rintro e w2 ⟨A',n',c',rfl,h2,x2⟩)
 go_ret;exact⟨A',n',c',rfl,h2,x2⟩
theorem yY(p:Nat)(l:List Mp)(R:ab)(w:S)(hs:l.length≤1000000)(h:T w (bp p l*R)):
  ag prog 138 #[.pointer (C (O p 0 I))] w fun e w'=>∃q,cR (.pointer (C (O q 0 I))) (bp q l*(bp p l*R)) w e w':=by
 have hC:=xo p l R w hs h;go_enter func138,ntmps138;go_wp2_with fail
 refine hC.mono ?_;rintro e w2 ⟨A',n',c',rfl,h2,x2⟩;obtain rfl:=dI h2;have h3:=(h.onto' h2).new #[.slice A' l.length c'] 211;have x3:=x2.alloc (.cells #[.slice A' l.length c'] 211);go_wp2_with fail
 go_ret;exact⟨_,rfl,gD h3,x3⟩
theorem yZ(p:Nat)(l:List Mp)(k:Int)(R:ab)(w:S)(hl:a6 l)(hk:cW k)(h:T w (bp p l*R)):
  ag prog 180 #[.pointer (C (O p 0 I)),.int .i64 k] w (ck (.tuple #[rb (af l k),vB (af l k).isSome]) w):=by
 have h1:=h.new #[E F 0,E F 0,E F 0,E F 0] 39;have H1:=(aT w).new #[E F 0,E F 0,E F 0,E F 0] 39;have x1:=(a5 w).alloc (.cells #[E F 0,E F 0,E F 0,E F 0] 39);have hB:=oz l hl k hk p _ _ h1.p2;have hpl:=ci hl k;rcases hpl with ⟨hf,_⟩|⟨hi,ho,hf,h0,_⟩
 ·rw[hf] at hB⊢
  clear h h1 hf hl;go_enter func180,ntmps180;go_wp2_with(refine hB.mono ?_;rintro e w2 ⟨i,_,rfl,_,b2⟩;have H3:=H1.below b2;have x3:=x1.below b2;obtain⟨d0,d1,d2,d3⟩:=H3.cells4;obtain⟨f0,f1,f2,f3⟩:=H3.frees4;have fl:=H3.lt)
  refine am (fun wz=>T wz (aa w.heap.size #[E F 0,E F 0,E F 0,E F 0] 39*(bE w w.heap.size))∧b8 w wz) ⟨H3.set4 _ _ _ _,ah⟩ ?_;rintro wz ⟨hz,xz⟩;exact N (aA results180 rfl rfl (bh hz)) rfl ⟨rfl,ar hz.right xz⟩
 ·rw[hf] at hB⊢
  have hq:=fun i (e:0≤k→i=ad l k)=>e h0;generalize ad l k=q at*
  clear h hf hl ho;go_enter func180,ntmps180;go_wp2_with(refine hB.mono ?_;rintro e w2 ⟨i,_,rfl,hiq,b2⟩;obtain rfl:=hq _ hiq;clear hiq hq;have H3:=H1.below b2;have x3:=x1.below b2;obtain⟨A,c,h3⟩:=eH (h1.below b2).p2;obtain⟨d0,d1,d2,d3⟩:=H3.cells4;obtain⟨f0,f1,f2,f3⟩:=H3.frees4;have fl:=H3.lt;have k0:=h3.cell 0;have kl:=h3.lt;obtain⟨g,rfl,gb,g0,g1,g2,g3⟩:=eT h3.right hi)
  generalize l[i]=x at*
  refine am (fun wz=>T wz (aa w.heap.size #[E F x.page,E F x.size,E F x.frame,E F x.rights] 39*(bE w w.heap.size))∧b8 w wz) ⟨H3.set4 _ _ _ _,ah⟩ ?_;rintro wz ⟨hz,xz⟩;exact N (aA results180 rfl rfl (bh hz)) rfl ⟨rfl,ar hz.right xz⟩
set_option maxHeartbeats 2000000 in
theorem y9(p:Nat)(l:List Mp)(k:Int)(R:ab)(w:S)(hl:a6 l)(hk:cW k)(h:T w (bp p l*R)):
  ag prog 140 #[.pointer (C (O p 0 I)),.int .i64 k] w (cR (.tuple #[rb (cz l k),E F (bD l k)]) (bp p (bf l k)*R) w):=by
 have H1:=h.new #[E F 0,E F 0,E F 0,E F 0] 39;have x1:=(a5 w).alloc (.cells #[E F 0,E F 0,E F 0,E F 0] 39);have HH:=dt k;have e0:=H1.p2;cases hb:cY k with
 |false=>
  rw[hb] at HH;unfold cz bD bf;rw[hb];clear hb e0;go_enter func140,ntmps140;go_wp2_with(refine(HH _).mono ?_;rintro e w2 ⟨rfl,hw⟩;have H3:=hw.symm▸H1;have x3:=hw.symm▸x1;clear hw;obtain⟨d0,d1,d2,d3⟩:=H3.cells4;obtain⟨f0,f1,f2,f3⟩:=H3.frees4;have fl:=H3.lt)
  refine am (fun wz=>T wz (aa w.heap.size #[E F 0,E F 0,E F 0,E F 0] 39*(bp p l*R))∧b8 w wz) ⟨H3.set4 _ _ _ _,ah⟩ ?_;rintro wz ⟨hz,xz⟩;exact N (aA results140 rfl rfl (bh hz)) rfl ⟨rfl,hz.right,xz⟩
 |true=>
  rw[hb] at HH;unfold cz bD bf;rw[hb];have hB:=oz l hl k hk p _ _ e0;rcases ci hl k with ⟨hf,hd,_⟩|⟨hi,ho,hf,h0,_,hd,_⟩
  ·rw[hf] at hB
   rw[if_pos rfl,if_pos rfl,if_pos rfl,hf,hd];clear h e0 hf hl hd hb;go_enter func140,ntmps140;go_wp2_with(first|(go_at_call 158;refine(HH _).mono ?_;rintro e w2 ⟨rfl,rfl⟩)|(go_at_call 175;refine hB.mono ?_;rintro e w2 ⟨i,_,rfl,_,b2⟩;have H3:=H1.below b2;have x3:=x1.below b2;obtain⟨d0,d1,d2,d3⟩:=H3.cells4;obtain⟨f0,f1,f2,f3⟩:=H3.frees4;have fl:=H3.lt))
   refine am (fun wz=>T wz (aa w.heap.size #[E F 0,E F 0,E F 0,E F 0] 39*(bp p l*R))∧b8 w wz) ⟨H3.set4 _ _ _ _,ah⟩ ?_;rintro wz ⟨hz,xz⟩;exact N (aA results140 rfl rfl (bh hz)) rfl ⟨rfl,hz.right,xz⟩
  ·rw[hf] at hB
   rw[if_pos rfl,if_pos rfl,if_pos rfl,hf,hd];change ag _ _ _ w (cR (.tuple #[rb (C l[ad l k]),E F 0]) _ w);have hq:=fun i (e:0≤k→i=ad l k)=>e h0;have HL:=J hl.le;have hhi:=hi;generalize hxq:l[ad l k]=x at*
   have HX:=J (show∀h,l[ad l k]'h=x from fun _=>hxq);generalize ad l k=q at*
   clear h hf hl ho hb hd e0 hxq;go_enter func140,ntmps140;go_wp2_with(first|(go_at_call 158;refine(HH _).mono ?_;rintro e w2 ⟨rfl,rfl⟩)|(go_at_call 175;refine hB.mono ?_;rintro e w2 ⟨i,_,rfl,hiq,b2⟩;obtain rfl:=hq _ hiq;clear hiq hq hB;have H3:=H1.below b2;have x3:=x1.below b2;clear H1 x1;obtain⟨A,c,h3⟩:=eH H3.p2;have k0:=h3.cell 0;have kl:=h3.lt;obtain⟨g,rfl,gb,g0,g1,g2,g3⟩:=eT h3.right hi;rw[HX.out hi] at g0 g1 g2 g3;have hbig:=iv h3.right;have hw1:wrap64 ((i:Int)+1)=((i+1:Nat):Int):=(by have:=HL.out;unfold wrap64;omega)))
   have h4:=h3.new #[E F x.page,E F x.size,E F x.frame,E F x.rights] 39;have h5:T (w2.alloc (.cells #[E F x.page,E F x.size,E F x.frame,E F x.rights] 39)) (cK (.slice (C (O g 0 I)) l.length c) l*(aa p #[.slice (C (O g 0 I)) l.length c] 211*(aa w2.heap.size #[E F x.page,E F x.size,E F x.frame,E F x.rights] 39*(aa w.heap.size #[E F 0,E F 0,E F 0,E F 0] 39*R)))):=h4.eq (by(simp only[aX,ay,cF]));have x5:=x3.alloc (.cells #[E F x.page,E F x.size,E F x.frame,E F x.rights] 39);have hD:=sg l i (i+1) g l.length c _ _ (by omega) (by omega) h5;have hdl:i+(l.length - (i+1))=(l.take i++l.drop (i+1)).length :=by simp;omega
   rw[hdl] at hD;clear hdl h4 h5 h3 H3 x3 k0 kl g0 g1 g2 g3 hi hhi HX HL;generalize l.take i++l.drop (i+1)=l' at*
   go_wp2_with fail
   refine hD.mono ?_;rintro e w6 ⟨rfl,h6,x6⟩;have x7:=x5.trans x6;clear x5 x6 hD;have c0:=h6.right.cell 0;have cf:=h6.right.free 0;have cl:=h6.right.lt;have hne:=h6.right.ne;have hne':=hne.symm;have h7:T (w6.setCell (O p 0 I) (.slice (C (O g 0 I)) l'.length c)) (aa p #[.slice (C (O g 0 I)) l'.length c] 211*_):=h6.p2.set 0 (.slice (C (O g 0 I)) l'.length c);obtain⟨m0,m1,m2,m3⟩:=h6.right.right.cells4;have ml:=h6.right.right.lt;have h8:T _ (aa w.heap.size #[E F 0,E F 0,E F 0,E F 0] 39*(aa p #[.slice (C (O g 0 I)) l'.length c] 211*(cK (.slice (C (O g 0 I)) l'.length c) l'*(aa w2.heap.size #[E F x.page,E F x.size,E F x.frame,E F x.rights] 39*R)))):=h7.eq (by(simp only[aX,ay,cF]));have h9:T w6 (aa p #[.slice (C (O g 0 I)) l.length c] 211*(aa w.heap.size #[E F 0,E F 0,E F 0,E F 0] 39*(cK (.slice (C (O g 0 I)) l'.length c) l'*(aa w2.heap.size #[E F x.page,E F x.size,E F x.frame,E F x.rights] 39*R)))):=h6.eq (by(simp only[aX,ay,cF]));have hnr:=h9.ne;have hnr':=hnr.symm;obtain⟨d0,d1,d2,d3⟩:=h9.right.cells4;obtain⟨f0,f1,f2,f3⟩:=h9.right.frees4;have fl:=h9.right.lt;clear h9;go_wp2_with fail
   refine am (fun wz=>T wz (aa w.heap.size #[E F x.page,E F x.size,E F x.frame,E F x.rights] 39*(aa p #[.slice (C (O g 0 I)) l'.length c] 211*(cK (.slice (C (O g 0 I)) l'.length c) l'*(aa w2.heap.size #[E F x.page,E F x.size,E F x.frame,E F x.rights] 39*R))))∧b8 w wz) ⟨h8.set4 _ _ _ _,ah⟩ ?_;rintro wz ⟨hz,xz⟩;exact N (aA results140 rfl rfl (bh hz)) rfl ⟨rfl,gD hz.right.drop3,xz⟩
def kL(l:List Mp)(R:ab)(w:S)(e:Ending)(w':S):Prop:=∃A c,e= .returned (.slice A l.length c)∧T w' (cK (.slice A l.length c) l*R)∧b8 w w'
theorem qE(l:List Mp)(m:Mp)(n c V:Nat)(A:Option b0)(R:ab)(w:S)(hbig:l.length≤1000000)
  (h:T w (cK (.slice A n c) l*(aa V #[E F m.page,E F m.size,E F m.frame,E F m.rights] 39*R))):
  ag prog 177 #[.slice A n c,.int .i64 l.length,.slice (C (O V 0 I)) 1 1] w (kL (l++[m]) R w):=by
 obtain rfl:=dI h;obtain⟨hb1,hb2⟩:=gC h;have hrow:T w (ct 39 4 (.slice A l.length c) l.length (a9 l)*(aa V #[E F m.page,E F m.size,E F m.frame,E F m.rights] 39*R)):=h;have hne:Hid (∀j u,m.cells[j]? =C u→w.cell? (((O V 0 I):b0).add j)=C u):=fun j u hu=>by
  rw[Addr.add_lit,Nat.zero_add,h.right.cell];simpa [Mp.cells] using hu
 go_enter func177,ntmps177;go_wp2_with(at_builtin;refine aV rfl _ _ 44 rfl underlying44 re _ _ _ rfl hrow (O V 0 I) 1 1 m.cells rfl rfl hne.out (p7 m) (by unfold maxLen;omega) (by omega) ?_)
 all_goals
  intro v' w2 h' x';obtain⟨A',c',rfl⟩:=h'.rowForm;go_wp2_with fail
  go_ret;refine⟨A',c',by rw[Y];rfl,?_,x'⟩;unfold cK;rw[Y,lN];exact h'.p2.right
theorem oA(l:List Mp)(m:Mp)(n c V i g:Nat)(R:ab)(w:S)(hbig:l.length≤1000000)(hi:i<l.length)(hc:l.length+1≤c)
  (h:T w (cK (.slice (C (O g 0 I)) n c) l*(aa V #[E F m.page,E F m.size,E F m.frame,E F m.rights] 39*R))):
  ag prog 177 #[.slice (C (O g 0 I)) n c,.int .i64 i,.slice (C (O V 0 I)) 1 1] w (kL (l.take i++m::l.drop i) R w):=by
 obtain rfl:=dI h;obtain⟨hb1,hb2⟩:=gC h;obtain⟨hn1,cur,hcg,h1,h2,h3,h4,hb⟩:=Has.rowAt (e:=39) (size:=4) h (by omega);injection hcg with hcg
 injection hcg with hcg
 subst hcg;have hc63:c≤9223372036854775807:=by unfold maxLen at h2;omega
 have hVg:V≠g:=fun e=>by
  have:=hb.ne;exact this e.symm
 have hsV:w.shape? V=C (39,4):=by
  have:=h.right.heap;simp[World.shape?,this]
 have hsg:w.shape? g=C (39,c*4):=by
  have:=hb.heap;simp[World.shape?,this,h3]
 have hfa:=h.right.free 0;have hfe:=h.right.free 4;have hov:∀lb cb,(callFunc 192 #[.slice (C (O V 0 I)) 1 1,.slice (C ⟨g,(i+1)*4,I⟩) lb cb]).run prog w= .ok (.value (.bool K)) w:=fun lb cb=>by
  rw[run_callFunc_extern func192 (by kernel_rfl) (by kernel_rfl) (by kernel_rfl) (e:=Extern.SlicesOverlaps.overlaps #[44,44] #[4]) (by kernel_rfl),
   Lib.run_overlaps_apart w 44 4 39 underlying44 4 (by intro w;rfl) (O V 0 I) ⟨g,(i+1)*4,I⟩ 1 1 lb cb hVg _ _ 4 (c*4) hsV hsg (by omega) hfa hfe]
  rfl
 have hi0:=h;have hdl:((a9 l).drop (i*4)).length =(l.length - i)*4:=by rw[List.length_drop,dL];omega
 have hcap:=gC h;have hcell:∀k,k<c*4→(w.cell? (O g k I)).isSome =D:=fun k hk=>by
  rw[hb.cell,Array.getElem?_eq_getElem (by omega)];rfl
 have hfree:∀k,w.frozen? (O g k I)=K:=fun k=>hb.free k;have hsz:(prog.info? 39).map (·.size)=C 4:=by
  obtain⟨i0,hi0,_,hz,_⟩:=info_parts ow;rw[hi0];simp[hz]
 have hcp1:∀ty dc sc,(Builtin.copy_ #[44,44] ty #[.slice (C ⟨g,(i+1)*4,I⟩) (l.length - i) dc,.slice (C ⟨g,i*4,I⟩) (l.length+1 - i) sc]).run prog w.drew= .ok (goInt (l.length - i:Nat)) (w.drew.setCells g ((i+1)*4) ((a9 l).drop (i*4))):=fun ty dc sc=>
  gy w.drew _ _ ty 39 g ((i+1)*4) (l.length - i) dc ⟨g,i*4,I⟩ (l.length+1 - i) sc 4 (l.length - i) ((a9 l).drop (i*4)) underlying44 hsz (by simp only[Nat.min_def];split<;>omega) hdl
   (fun j v hj=>by
    rw[Addr.add_lit];exact iT h i j v hj)
   (fun j hj=>hcell _ (by omega)) (fun j hj=>hfree _) (fun v hv=>jp l v (List.mem_of_mem_drop hv))
 have hfin:=Has.rowShift (e:=39) (size:=4) (i:=i) (m:=1) h.drew (by omega) hc m.cells rfl;have hV:=(Has.rowShift (e:=39) (size:=4) (i:=i) (m:=1) h.drew (by omega) hc m.cells rfl).right;obtain⟨W1,hW1⟩:∃W1,W1=w.drew.setCells g ((i+1)*4) ((a9 l).drop (i*4)):=⟨_,rfl⟩;rw[←hW1] at hcp1 hfin;have hcp2:∀(W:S),(∀x,W.cell? x=W1.cell? x)→(∀x,W.frozen? x=W1.frozen? x)→∀ty dc,(Builtin.copy_ #[44,44] ty #[.slice (C ⟨g,i*4,I⟩) (l.length+1 - i) dc,.slice (C (O V 0 I)) 1 1]).run prog W= .ok (goInt (1:Nat)) (W.setCells g (i*4) m.cells):=fun W hWc hWf ty dc=>
  gy W _ _ ty 39 g (i*4) (l.length+1 - i) dc (O V 0 I) 1 1 4 1 m.cells underlying44 hsz (by simp only[Nat.min_def];split<;>omega) rfl
   (fun j v hj=>by
    rw[Addr.add_lit,hWc,hW1,World.cell?_setCells_out g _ _ _ _ (fun h _=>absurd h hVg),Nat.zero_add];show w.cell? _=_;rw[h.right.cell];simpa [Mp.cells] using hj)
   (fun j hj=>by
    rw[hWc,hW1];have h4:m.cells.length=4:=rfl;refine Go.Proofs.isSome_setCells g ((a9 l).drop (i*4)) ((i+1)*4) w.drew (fun t ht=> ?_) (i*4+j) (hcell (i*4+j) (by omega));exact hcell _ (by omega)) (fun j hj=>by rw[hWf,hW1,World.frozen?_setCells];exact hfree _) (p7 m)
 have hw1:IntKind.i64.wrap ((i:Int)+1)=(i:Int)+1:=by rw[b7];omega
 have hb2:¬(c=i+1):=by omega
 have hb4:¬(c=i):=by omega
 have hb3:(i:Int)≤(l.length:Int)+1:=by omega
 have hz2:¬((i:Int)=(l.length:Int)):=by omega
 have htn:((i:Int)+1).toNat =i+1:=by omega
 have hb0:(0:Int)≤(i:Int)+1:=by omega
 have hil:i≤l.length:=by omega
 have mixed:prog.follows .mixedOrders =D:=by kernel_rfl
 clear hi0 hcell hfree hsz hdl hb hV hsV hsg hfa hfe h1 h2 h3 h4 hcap;have HF:=J hfin;have HW:=J hW1;clear hfin hW1 h;go_enter func177,ntmps177;go_wp2_with(simp only[hov])
 go_region_law_o (refine Go.Proofs.step_copy_runI rfl _ _ 44 44 rfl _ _ (by simp[Act.eval,Act.put]) (by simp[Act.eval,Act.put]) (hcp1 _ _ _) ?_)
 go_wp2_with(at_builtin;refine Go.Proofs.wpList_copy_runI _ rfl _ _ 44 44 rfl _ _ rfl rfl (hcp2 _ (fun _=>rfl) (fun _=>rfl) _ _) ?_)
 go_ret;have hlen:(l.take i++m::l.drop i).length =l.length+1:=by simp;omega
 refine⟨C (O g 0 I),c,by rw[hlen];rfl,?_,?_⟩
 ·unfold cK
  rw[hlen];have e1:(a9 l).take (i*4)++(m.cells++(a9 l).drop (i*4))=a9 (l.take i++m::l.drop i):=by
   rw[fk,show(a9 l).take (i*4)=a9 (l.take i) from gu iR l i,show(a9 l).drop (i*4)=a9 (l.drop i) from gr iR l i];rfl
  rw[←e1];exact HF.out.p2.right
 ·rw[HW.out]
  exact Ext.cells _ _ _ (Ext.cells _ _ _ (a5 w).drew)
set_option maxHeartbeats 4000000 in
theorem pq(l:List Mp)(m:Mp)(n c V i g:Nat)(R:ab)(w:S)(hbig:l.length≤1000000)(hi:i<l.length)(hc:c<l.length+1)
  (h:T w (cK (.slice (C (O g 0 I)) n c) l*(aa V #[E F m.page,E F m.size,E F m.frame,E F m.rights] 39*R))):
  ag prog 177 #[.slice (C (O g 0 I)) n c,.int .i64 i,.slice (C (O V 0 I)) 1 1] w (kL (l.take i++m::l.drop i) R w):=by
 obtain rfl:=dI h;obtain⟨hb1,hb2⟩:=gC h;obtain⟨i0,hi0,hz0,hzs,hzb⟩:=info_parts ow;have hVw:=h.right.lt;have hgw:g<w.heap.size:=by
  obtain⟨b,hb,hlt,_⟩:=eT h hi;injection hb with hb
  injection hb with hb
  subst hb;exact hlt
 have hsz:(prog.info? 39).map (·.size)=C 4:=by rw[hi0];simp[hzs]
 have hti:(a9 (l.take i)).length =i*4:=by rw[dL,List.length_take];omega
 have hte:a9 (l.take i)=(a9 l).take (i*4):=(gu iR l i).symm;have hold:(Builtin.firstCells i0.size i (.slice (C (O g 0 I)) i c)).run prog w.drew= .ok (a9 (l.take i)).toArray w.drew:=by
  rw[hzs];exact run_firstCells_some w.drew 4 i (O g 0 I) i c (a9 (l.take i)) hti (fun j v hj=>by
   rw[Addr.add_lit];rw[hte,List.getElem?_take] at hj;split at hj
   ·have:=iT h 0 j v (by simpa using hj)
    rwa [Nat.zero_mul] at this
   ·cases hj)
 have hkk:(l.length:Int)+1 - (i:Int)=((l.length+1 - i:Nat):Int):=by omega
 have hik:i+(l.length+1 - i)=l.length+1:=by omega
 have hrz:∀ty,(Builtin.append_ #[44,3] ty #[.slice (C (O g 0 I)) i c,.int .i64 ((l.length:Int)+1 - (i:Int))]).run prog w=
   .ok (.slice (C (O w.heap.size 0 I)) (l.length+1) (grownCap w (l.length+1) c 39)) (w.drew.alloc (.cells ((a9 (l.take i)).toArray ++Builtin.zeroCells mpZero.cells (l.length+1 - i)++Builtin.zeroCells mpZero.cells (grownCap w (l.length+1) c 39 - (l.length+1))) 39)):=fun ty=>by
  have h:=Lib.run_append_grow_zeros w 44 3 ty 39 i0 _ .i64 .i64 underlying44 underlying3 hi0 hz0 (C (O g 0 I)) i c (a9 (l.take i)) hold (l.length+1 - i) (by omega) (by omega) (by omega) (by omega) (by rw[hzb];omega) (by rw[hzb,hik];exact growslice_fits hc (by omega));rw[hik] at h;rw[hkk];exact h
 have hGn:l.length+1≤grownCap w (l.length+1) c 39:=grownCap_ge w _ _ _;have hGm:=grownCap_le_maxLen w (l.length+1) c 39 (by unfold maxLen;omega);generalize grownCap w (l.length+1) c 39=G at*
 have hzz:∀k,(Builtin.zeroCells mpZero.cells k).size =k*4:=fun k=>size_zeroCells _ _;have hzl:∀k,(Builtin.zeroCells mpZero.cells k).toList.length =k*4:=fun k=>by rw[Array.length_toList];exact hzz k
 obtain⟨ROW,hROW⟩:∃ROW:Array cS,ROW=(a9 (l.take i)).toArray ++Builtin.zeroCells mpZero.cells (l.length+1 - i)++Builtin.zeroCells mpZero.cells (G - (l.length+1)):=⟨_,rfl⟩;rw[←hROW] at hrz;have hRs:ROW.size=G*4:=by
  rw[hROW];simp only[Array.size_append,hzz,List.size_toArray,hti];omega
 have hRt:ROW.toList.take ((l.length+1)*4)=a9 (l.take i)++(Builtin.zeroCells mpZero.cells (l.length+1 - i)).toList :=by
  have hs:(a9 (l.take i)++(Builtin.zeroCells mpZero.cells (l.length+1 - i)).toList).length =(l.length+1)*4:=by
   rw[Y,hzl,hti];omega
  rw[hROW,Array.toList_append,Array.toList_append];show((a9 (l.take i)++_)++_).take _=_;rw[←hs,List.take_left]
 have H1:=(h.new ROW 39).drew.rowOf (size:=4) (n:=l.length+1) (cap:=G) (by rw[Y,hzl,hti];omega) hGn hGm hRs hRt;have hfin:=Has.rowGapD H1 (k:=i) hti m.cells (a9 (l.drop i)) (by rw[hzl,dL,List.length_drop];have:m.cells.length=4:=rfl;omega);obtain⟨W1,hW1⟩:∃W1,W1=w.drew.alloc (.cells ROW 39):=⟨_,rfl⟩;rw[←hW1] at hrz;have hm4:m.cells.length=4:=rfl;rw[hm4,show i*4+4=(i+1)*4 by omega] at hfin;have hN:∀j,j< (l.length+1)*4→(W1.cell? (O w.heap.size j I)).isSome =D:=fun j hj=>by
  rw[hW1,World.cell?_alloc_at (w:=w.drew) ROW _ w.heap.size j rfl,Array.getElem?_eq_getElem (by omega)];rfl
 have hNf:∀j,W1.frozen? (O w.heap.size j I)=K:=fun j=>by rw[hW1];exact World.frozen?_alloc_at (w:=w.drew) ROW _ w.heap.size j rfl
 have hOb:∀j v,w.cell? (O g j I)=C v→W1.cell? (O g j I)=C v:=fun j v h=>by rw[hW1,World.cell?_alloc_past (w:=w.drew) _ g j hgw];exact h
 have hOv:∀j v,w.cell? (O V j I)=C v→W1.cell? (O V j I)=C v:=fun j v h=>by rw[hW1,World.cell?_alloc_past (w:=w.drew) _ V j hVw];exact h
 have hcpA:∀(W:S),(∀x,W.cell? x=W1.cell? x)→(∀x,W.frozen? x=W1.frozen? x)→∀ty dc,(Builtin.copy_ #[44,44] ty #[.slice (C ⟨w.heap.size,i*4,I⟩) (l.length+1 - i) dc,.slice (C (O V 0 I)) 1 1]).run prog W= .ok (goInt (1:Nat)) (W.setCells w.heap.size (i*4) m.cells):=fun W hWc hWf ty dc=>
  gy W _ _ ty 39 w.heap.size (i*4) (l.length+1 - i) dc (O V 0 I) 1 1 4 1 m.cells underlying44 hsz (by simp only[Nat.min_def];split<;>omega) rfl
   (fun j v hj=>by
    rw[Addr.add_lit,hWc,Nat.zero_add];refine hOv _ _ ?_;rw[h.right.cell];simpa [Mp.cells] using hj)
   (fun j hj=>by rw[hWc];exact hN _ (by omega)) (fun j hj=>by rw[hWf];exact hNf _) (p7 m)
 have hdl:(a9 (l.drop i)).length =(l.length - i)*4:=by rw[dL,List.length_drop]
 have hde:a9 (l.drop i)=(a9 l).drop (i*4):=(gr iR l i).symm;have hgN:g≠w.heap.size:=by omega
 have hcpB:∀(W:S),(∀x,W.cell? x=(W1.setCells w.heap.size (i*4) m.cells).cell? x)→(∀x,W.frozen? x=(W1.setCells w.heap.size (i*4) m.cells).frozen? x)→∀ty dc sc,(Builtin.copy_ #[44,44] ty #[.slice (C ⟨w.heap.size,(i+1)*4,I⟩) (l.length+1 - (i+1)) dc,.slice (C ⟨g,i*4,I⟩) (l.length - i) sc]).run prog W= .ok (goInt (l.length - i:Nat)) (W.setCells w.heap.size ((i+1)*4) (a9 (l.drop i))):=fun W hWc hWf ty dc sc=>
  gy W _ _ ty 39 w.heap.size ((i+1)*4) (l.length+1 - (i+1)) dc ⟨g,i*4,I⟩ (l.length - i) sc 4 (l.length - i) (a9 (l.drop i)) underlying44 hsz (by simp only[Nat.min_def];split<;>omega) hdl
   (fun j v hj=>by
    rw[Addr.add_lit,hWc,World.cell?_setCells_out _ _ _ _ _ (fun h _=>absurd h hgN)];refine hOb _ v (iT h i j v ?_);rwa [←hde])
   (fun j hj=>by rw[hWc];exact Go.Proofs.isSome_setCells _ _ _ _ (fun t ht=>hN _ (by omega)) _ (hN _ (by omega)))
   (fun j hj=>by rw[hWf,World.frozen?_setCells];exact hNf _) (fun v hv=>jp _ v hv)
 have hx:b8 w ((((w.alloc (.cells ROW 39)).drew.setCells w.heap.size (i*4) m.cells).drew).setCells w.heap.size ((i+1)*4) (a9 (l.drop i))):=
  Ext.cells _ _ _ (Ext.cells _ _ _ ((a5 w).alloc _).drew).drew
 subst hW1;have hE1:∀x,((w.alloc (.cells ROW 39)).drew).cell? x=(w.drew.alloc (.cells ROW 39)).cell? x:=fun x=>rfl;have hE2:∀x,((w.alloc (.cells ROW 39)).drew).frozen? x=(w.drew.alloc (.cells ROW 39)).frozen? x:=fun x=>rfl;have hF1:∀x,(((w.alloc (.cells ROW 39)).drew.setCells w.heap.size (i*4) m.cells).drew).cell? x=((w.drew.alloc (.cells ROW 39)).setCells w.heap.size (i*4) m.cells).cell? x:=fun x=>rfl;have hF2:∀x,(((w.alloc (.cells ROW 39)).drew.setCells w.heap.size (i*4) m.cells).drew).frozen? x=((w.drew.alloc (.cells ROW 39)).setCells w.heap.size (i*4) m.cells).frozen? x:=fun x=>rfl;have hz2:¬((i:Int)=(l.length:Int)):=by omega
 have hz3:(c:Int)< (l.length:Int)+1:=by omega
 have hG63:G≤9223372036854775807:=by unfold maxLen at hGm;omega
 have hGi:¬(G=i):=by omega
 have hGim:¬(G=i+1):=by omega
 have hci:¬(c=i):=by omega
 have hw1:IntKind.i64.wrap ((i:Int)+1)=(i:Int)+1:=by rw[b7];omega
 have hb0:(0:Int)≤(i:Int)+1:=by omega
 have hil:i≤l.length:=by omega
 have htn:((i:Int)+1).toNat =i+1:=by omega
 have hb3:(i:Int)≤(l.length:Int):=by omega
 have mixed:prog.follows .mixedOrders =D:=by kernel_rfl
 have HF:=J hfin;have HX:=J hx;clear hkk hik hzz hzl hold hROW hRs hRt H1 hfin hx hi0 hz0 hzs hzb hsz h hti hte hdl hde hN hNf hOb hOv hm4 hGm;go_enter func177,ntmps177;go_wp2_with(first
  |(at_builtin;refine Lib.wpList_append_run _ rfl _ _ _ _ rfl _ _ rfl rfl _ _ (hrz _) ?_)
  |(at_builtin;refine Go.Proofs.wpList_copy_runI _ rfl _ _ 44 44 rfl _ _ rfl rfl (hcpA _ hE1 hE2 _ _) ?_)
  |(at_builtin;refine Go.Proofs.wpList_copy_runI _ rfl _ _ 44 44 rfl _ _ rfl rfl (hcpB _ (fun _=>rfl) (fun _=>rfl) _ _ _) ?_))
 go_region_law_o (refine Go.Proofs.step_copy_runI rfl _ _ 44 44 rfl (.slice (C ⟨w.heap.size,(i+1)*4,I⟩) (l.length+1 - (i+1)) (G - (i+1))) (.slice (C ⟨g,i*4,I⟩) (l.length - i) (c - i)) (by simp[Act.eval,Act.put]) (by simp[Act.eval,Act.put]) (hcpB _ hF1 hF2 _ (G - (i+1)) (c - i)) ?_)
 go_wp2_with fail
 go_ret;have hlen:(l.take i++m::l.drop i).length =l.length+1:=by simp;omega
 refine⟨C (O w.heap.size 0 I),G,by rw[hlen];rfl,?_,HX.out⟩;unfold cK;rw[hlen];have e1:a9 (l.take i)++(m.cells++a9 (l.drop i))=a9 (l.take i++m::l.drop i):=by
  rw[fk];rfl
 rw[←e1];exact HF.out.p2.right.p2.right
theorem sj(l:List Mp)(m:Mp)(n c V i:Nat)(A:Option b0)(R:ab)(w:S)(hbig:l.length≤1000000)(hi:i≤l.length)
  (h:T w (cK (.slice A n c) l*(aa V #[E F m.page,E F m.size,E F m.frame,E F m.rights] 39*R))):
  ag prog 177 #[.slice A n c,.int .i64 i,.slice (C (O V 0 I)) 1 1] w (kL (l.take i++m::l.drop i) R w):=by
 rcases Nat.lt_or_ge i l.length with hlt|hge
 ·obtain⟨g,rfl,_⟩:=eT h hlt
  rcases Nat.lt_or_ge c (l.length+1) with hc|hc
  ·exact pq l m n c V i g R w hbig hlt hc h
  ·exact oA l m n c V i g R w hbig hlt hc h
 ·obtain rfl:i=l.length:=by omega
  rw[List.take_length,List.drop_length];exact qE l m n c V A R w hbig h
set_option maxHeartbeats 2000000 in
theorem Al(p:Nat)(l:List Mp)(m:Mp)(R:ab)(w:S)(hl:a6 l)(hm:cW m.page)(h:T w (bp p l*R)):
  ag prog 139 #[.pointer (C (O p 0 I)),.agg #[E F m.page,E F m.size,E F m.frame,E F m.rights]] w (cR (E F (cd l m)) (bp p (bB l m)*R) w):=by
 have H1:=h.new #[E F m.page,E F m.size,E F m.frame,E F m.rights] 39;have x1:=(a5 w).alloc (.cells #[E F m.page,E F m.size,E F m.frame,E F m.rights] 39);have HC:=j3 m;obtain⟨c0,c1,c2,c3⟩:=H1.cells4;by_cases hc:bc m=0
 ·rw[hc] at HC
  have hmo:=fh hc;have hp0:=hmo.p0;obtain⟨hy1,hy2⟩:(cd l m=if bG l m=D then 4 else 0)∧(bB l m=if bG l m=D then l else l.take (ad l m.page)++m::l.drop (ad l m.page)):=by
   cases hb:bG l m with
   |true=>exact Bk.addC_bad hc hb
   |false=>exact Bk.addC_ok hc hb
  rw[hy1,hy2];clear hy1 hy2 h;have hle:=hl.le;have hfb:(af l m.page).isSome =D→bG l m=D:=Bk.bad_find;have hba:=Bk.bad_at hl hmo;have hli:∀x∈l,cW x.page:=fun x hx=>by
   have:=(hl.chk x hx).p0;have:=(hl.chk x hx).p1;have:=(hl.chk x hx).sp;exact⟨by omega,by omega⟩
  have HL:=J hl;clear hl;go_enter func139,ntmps139;go_upto_region 4 with (go_at_call 148;refine(HC _).mono ?_;rintro e w2 ⟨rfl,b2⟩);have h2:=H1.below b2;have x2:=x1.below b2;clear H1 x1 b2 c0 c1 c2 c3 HC;obtain⟨c0,c1,c2,c3⟩:=h2.cells4;have cl:=h2.lt;have hB:=oz l HL.out m.page hm p _ _ h2.p2;go_upto_region 5 with (refine hB.mono ?_;rintro e w3 ⟨i,hil,rfl,hip,b3⟩);have hip:=hip hp0;have h3:=h2.below b3;have x3:=x2.below b3;clear h2 x2 b3 c0 c1 c2 c3 cl hB;obtain⟨A,c,h4⟩:=eH h3.p2;obtain⟨c0,c1,c2,c3⟩:=h3.cells4;have e0:=h4.cell 0;rw[←hip] at hba;generalize bG l m=bd at*
  generalize ad l m.page=q at*
  subst hip;generalize (af l m.page).isSome =fs at*
  go_cut [40] (fun b40 wx=>b40=vB bd∧Below w3.heap.size w3 wx)
  case first=>
   have v0:=ae c0;have v1:=ae c1;have v2:=ae c2;have v3:=ae c3;have ve:=ae e0;clear c0 c1 c2 c3 e0;cases fs with
   |true=>
    have hbt:=hfb rfl;subst hbt;clear hba hfb;refine au (by kernel_rfl) (by kernel_rfl) ?_;repeat(first|go_big_quiet_step (fail)|quiet_step (fail))
    refine wpQuiet_nil ?_;intro _ hw';obtain⟨uq,hw''⟩:=hw';subst hw'';go_wp2_with fail
    go_meet
    case rel=>exact⟨rfl,aE _ _⟩
   |false=>
    clear hfb;by_cases hlt:i<l.length
    ·rw[dif_pos hlt] at hba
     obtain⟨g,rfl,gb,g0,g1,g2,g3⟩:=eT h4.right hlt;have HM:=J (fun W=>qn m l[i] W hm (hli _ (List.getElem_mem hlt)));rw[←hba] at HM;have hdg:decide (i<l.length)=D:=decide_eq_true (by omega);have u0:=ae g0;have u1:=ae g1;have u2:=ae g2;have u3:=ae g3;clear g0 g1 g2 g3 hba hli hle;generalize l[i]=x at*
     refine au (by kernel_rfl) (by kernel_rfl) ?_;repeat(first|go_big_quiet_step ((go_at_call 176;exact Pure.via (HM.out _)))|quiet_step ((go_at_call 176;exact Pure.via (HM.out _))))
     refine wpQuiet_nil ?_;intro _ hw';obtain⟨uq,hw''⟩:=hw';subst hw'';go_wp2_with fail
     go_meet
     case rel=>exact⟨rfl,aE _ _⟩
    ·rw[dif_neg hlt] at hba
     subst hba;have hdg:decide (i<l.length)=K:=decide_eq_false (by omega);clear hli hle;refine au (by kernel_rfl) (by kernel_rfl) ?_;repeat(first|go_big_quiet_step (fail)|quiet_step (fail))
     refine wpQuiet_nil ?_;intro _ hw';obtain⟨uq,hw''⟩:=hw';subst hw'';go_wp2_with fail
     go_meet
     case rel=>exact⟨rfl,aE _ _⟩
  case rest=>
   obtain⟨rfl,b3⟩:=hcut;have h5:=h3.below b3;have x5:=x3.below b3;clear hfb hba hli;clear h3 x3 b3 h4 e0 c0 c1 c2 c3;cases bd with
   |true=>
    go_wp2_with fail
    go_ret;exact⟨rfl,h5.right,x5⟩
   |false=>
    obtain⟨A',c',h6⟩:=eH h5.p2;have e0:=h6.cell 0;have ef:=h6.free 0;have el:=h6.lt;obtain⟨c0,c1,c2,c3⟩:=h5.cells4;have cl:=h5.lt;have h7:T ((wc.alloc (.cells #[E F m.page,E F m.size,E F m.frame,E F m.rights] 39)).drew) (cK (.slice A' l.length c') l*(aa wc.heap.size #[E F m.page,E F m.size,E F m.frame,E F m.rights] 39*(aa p #[.slice A' l.length c'] 211*(aa w.heap.size #[E F m.page,E F m.size,E F m.frame,E F m.rights] 39*R)))):=(h6.new #[E F m.page,E F m.size,E F m.frame,E F m.rights] 39).drew.eq (by(simp only[aX,ay,cF]));have x7:b8 w ((wc.alloc (.cells #[E F m.page,E F m.size,E F m.frame,E F m.rights] 39)).drew):=(x5.alloc _).drew;have HI:=J (sj l m l.length c' wc.heap.size i A' _ _ (by omega) hil h7);clear h5 h6 x5 h7;generalize l.take i++m::l.drop i=l' at*
    go_wp2_with fail
    go_region_law (go_simp;go_at_call 177;refine HI.out.mono ?_;rintro e w6 ⟨A2,c2,rfl,h8,x8⟩;have k0:=h8.right.cell 0;have kf:=h8.right.free 0;have kl:=h8.right.lt)
    all_goals
     go_wp2_with fail
     go_ret;exact⟨rfl,gD (h8.p2.set 0 (.slice A2 l'.length c2)).drop3,(x7.trans x8).set _ _⟩
 ·have hn:(bc m !=0)=D:=by simpa using hc
  obtain⟨hy1,hy2⟩:=Bk.addC_check (l:=l) hc;rw[hy1,hy2];clear hy1 hy2 hc;generalize bc m=c at*
  go_enter func139,ntmps139;go_wp2_with(refine(HC _).mono ?_;rintro e w2 ⟨rfl,b2⟩)
  go_ret;exact⟨rfl,(H1.below b2).right,x1.below b2⟩
theorem pt{w:S}{R:ab}{g c:Nat}{l:List Mp}(i:Nat)(r:Int)(h:T w (cK (.slice (C (O g 0 I)) l.length c) l*R))(hi:i<l.length):
  T (w.setCell ⟨g,i*4+3,I⟩ (E F r)) (cK (.slice (C (O g 0 I)) l.length c) (l.take i++{l[i] with rights:=r}::l.drop (i+1))*R):=by
 have h1:=Has.rowSet (e:=39) (size:=4) h (i:=i*4+3) (by omega) (E F r);have hz:(l.take i++{l[i] with rights:=r}::l.drop (i+1)).length =l.length:=by simp;omega
 have he:(a9 l).set (i*4+3) (E F r)=a9 (l.take i++{l[i] with rights:=r}::l.drop (i+1)):=by
  have hs:l=l.take i++l[i]::l.drop (i+1):=by rw[←List.drop_eq_getElem_cons hi,List.take_append_drop]
  have e1:a9 l=a9 (l.take i)++(l[i].cells ++a9 (l.drop (i+1))):=by
   conv=>lhs;rw[hs]
   rw[fk];rfl
  have e2:(a9 (l.take i)).length =i*4:=by rw[dL,List.length_take];omega
  rw[e1,fk,List.set_append_right _ _ (by omega),e2,show i*4+3 - i*4=3 by omega];rfl
 unfold cK;rw[hz,←he];exact h1
set_option maxHeartbeats 2000000 in
theorem tR(p:Nat)(l:List Mp)(k r:Int)(R:ab)(w:S)(hl:a6 l)(hk:cW k)(h:T w (bp p l*R)):
  ag prog 141 #[.pointer (C (O p 0 I)),.int .i64 k,.int .i64 r] w (cR (.tuple #[rb (di l k r),E F (dk l k r)]) (bp p (bz l k r)*R) w):=by
 have H1:=h.new #[E F 0,E F 0,E F 0,E F 0] 39;have x1:=(a5 w).alloc (.cells #[E F 0,E F 0,E F 0,E F 0] 39);have HH:=dt k;unfold di dk bz;cases hb:ds k r with
 |false=>
  change ag _ _ _ w (cR (.tuple #[rb I,E F 1]) (bp p l*R) w);cases hh:cY k with
  |false=>
   rw[hh] at HH;clear hb hh;clear hk hl h;go_enter func141,ntmps141;go_wp2_with(refine(HH _).mono ?_;rintro e w2 ⟨rfl,hw⟩;have H3:=hw.symm▸H1;have x3:=hw.symm▸x1;clear hw;obtain⟨d0,d1,d2,d3⟩:=H3.cells4;obtain⟨f0,f1,f2,f3⟩:=H3.frees4;have fl:=H3.lt)
   refine am (fun wz=>T wz (aa w.heap.size #[E F 0,E F 0,E F 0,E F 0] 39*(bp p l*R))∧b8 w wz) ⟨H3.set4 _ _ _ _,ah⟩ ?_;rintro wz ⟨hz,xz⟩;exact N (aA results141 rfl rfl (bh hz)) rfl ⟨rfl,hz.right,xz⟩
  |true=>
   rw[hh] at HH;have hr:r<0∨7<r:=by
    unfold ds at hb;rw[hh] at hb;rcases Int.lt_or_le r 0 with h0|h0
    ·exact .inl h0
    ·rw[decide_eq_true h0] at hb
     simp at hb;exact .inr hb
   clear hb hh;rcases hr with h0|h7
   ·have hd:decide (r<0)=D:=decide_eq_true h0
    clear hk hl h;go_enter func141,ntmps141;go_wp2_with(refine(HH _).mono ?_;rintro e w2 ⟨rfl,hw⟩;have H3:=hw.symm▸H1;have x3:=hw.symm▸x1;clear hw;obtain⟨d0,d1,d2,d3⟩:=H3.cells4;obtain⟨f0,f1,f2,f3⟩:=H3.frees4;have fl:=H3.lt)
    refine am (fun wz=>T wz (aa w.heap.size #[E F 0,E F 0,E F 0,E F 0] 39*(bp p l*R))∧b8 w wz) ⟨H3.set4 _ _ _ _,ah⟩ ?_;rintro wz ⟨hz,xz⟩;exact N (aA results141 rfl rfl (bh hz)) rfl ⟨rfl,hz.right,xz⟩
   ·have hd:decide (r<0)=K:=decide_eq_false (by omega)
    have hd7:decide (7<r)=D:=decide_eq_true h7;clear hk hl h;go_enter func141,ntmps141;go_wp2_with(refine(HH _).mono ?_;rintro e w2 ⟨rfl,hw⟩;have H3:=hw.symm▸H1;have x3:=hw.symm▸x1;clear hw;obtain⟨d0,d1,d2,d3⟩:=H3.cells4;obtain⟨f0,f1,f2,f3⟩:=H3.frees4;have fl:=H3.lt)
    refine am (fun wz=>T wz (aa w.heap.size #[E F 0,E F 0,E F 0,E F 0] 39*(bp p l*R))∧b8 w wz) ⟨H3.set4 _ _ _ _,ah⟩ ?_;rintro wz ⟨hz,xz⟩;exact N (aA results141 rfl rfl (bh hz)) rfl ⟨rfl,hz.right,xz⟩
 |true=>
  have hbi:=cw.1 hb;have hh:cY k=D:=by unfold cY;simp;omega
  obtain⟨h0,h4,hr0,hr7⟩:=hbi;have hd:decide (r<0)=K:=decide_eq_false (by omega);have hd7:decide (7<r)=K:=decide_eq_false (by omega);rw[hh] at HH;rw[if_pos rfl,if_pos rfl,if_pos rfl];have hB:=oz l hl k hk p _ _ H1.p2;rcases ci hl k with ⟨hf,_,hp⟩|⟨hi,ho,hf,_,_,_,hp⟩
  ·rw[hf] at hB
   rw[hf,hp r];change ag _ _ _ w (cR (.tuple #[rb I,E F 5]) (bp p l*R) w);clear h hf hl hp hb hh;go_enter func141,ntmps141;go_wp2_with(first|(go_at_call 158;refine(HH _).mono ?_;rintro e w2 ⟨rfl,rfl⟩)|(go_at_call 175;refine hB.mono ?_;rintro e w2 ⟨i,_,rfl,_,b2⟩;have H3:=H1.below b2;have x3:=x1.below b2;obtain⟨d0,d1,d2,d3⟩:=H3.cells4;obtain⟨f0,f1,f2,f3⟩:=H3.frees4;have fl:=H3.lt))
   refine am (fun wz=>T wz (aa w.heap.size #[E F 0,E F 0,E F 0,E F 0] 39*(bp p l*R))∧b8 w wz) ⟨H3.set4 _ _ _ _,ah⟩ ?_;rintro wz ⟨hz,xz⟩;exact N (aA results141 rfl rfl (bh hz)) rfl ⟨rfl,hz.right,xz⟩
  ·rw[hf] at hB
   rw[hf,hp r];change ag _ _ _ w (cR (.tuple #[rb (C {l[ad l k] with rights:=r}),E F 0]) _ w);have hq:=fun i (e:0≤k→i=ad l k)=>e h0;generalize ad l k=q at*
   clear h hf hl ho hb hp hh;go_enter func141,ntmps141;go_upto_region 6 with (first|(go_at_call 158;refine(HH _).mono ?_;rintro e w2 ⟨rfl,rfl⟩)|(go_at_call 175;refine hB.mono ?_;rintro e w2 ⟨i,_,rfl,hiq,b2⟩;obtain rfl:=hq _ hiq;clear hiq hq hB));have H3:=H1.below b2;have x3:=x1.below b2;clear H1 x1 b2;obtain⟨A,c,h3⟩:=eH H3.p2;have k0:=h3.cell 0;have kl:=h3.lt;obtain⟨g,rfl,gb,g0,g1,g2,g3⟩:=eT h3.right hi;have hbig:=iv h3.right;have h4:=pt i r h3.p2 hi;have x4:=x3.set ⟨g,i*4+3,I⟩ (E F r);have gf:w2.frozen? ⟨g,i*4+3,I⟩=K:=by
    obtain⟨b,hb,_,_,hf⟩:=Has.rowGet (e:=39) (size:=4) h3.right (i:=i*4+3) (u:=(a9 l)[i*4+3]'(by rw[dL];omega)) (U _);injection hb with hb
    injection hb with hb
    subst hb;exact hf
   have hrow:=Has.rowAt (e:=39) (size:=4) h3.p2 (by omega);obtain⟨g',cur,hg',_,_,_,_,hblk⟩:=hrow;injection hg' with hg'
   injection hg' with hg'
   subst hg';have hpg:=hblk.ne;have hpg':=hpg.symm;have hblk2:T w2 (aa g cur 39*(aa w.heap.size #[E F 0,E F 0,E F 0,E F 0] 39*(aa p #[.slice (C (O g 0 I)) l.length c] 211*R))):=hblk.eq (by(simp only[aX,ay,cF]));have hrg:=hblk2.ne;have hrg':=hrg.symm;obtain⟨d0,d1,d2,d3⟩:=hblk2.right.cells4;obtain⟨f0,f1,f2,f3⟩:=hblk2.right.frees4;have fl:=hblk2.right.lt;clear hblk hblk2;have hz:(l.take i++{l[i] with rights:=r}::l.drop (i+1)).length =l.length:=by simp;omega
   have HZ:=J hz;clear hz;generalize hxo:l[i]=x at*
   have HX:=J hxo;clear hxo;have h5:T (w2.setCell ⟨g,i*4+3,I⟩ (E F r)) (aa w.heap.size #[E F 0,E F 0,E F 0,E F 0] 39*(aa p #[.slice (C (O g 0 I)) l.length c] 211*(cK (.slice (C (O g 0 I)) l.length c) (l.take i++{x with rights:=r}::l.drop (i+1))*R))):=h4.eq (by(simp only[aX,ay,cF]));clear h3 h4 H3;go_wp2_with fail
   refine am (fun wz=>T wz (aa w.heap.size #[E F x.page,E F x.size,E F x.frame,E F r] 39*(aa p #[.slice (C (O g 0 I)) l.length c] 211*(cK (.slice (C (O g 0 I)) l.length c) (l.take i++{x with rights:=r}::l.drop (i+1))*R)))∧b8 w wz) ⟨h5.set4 _ _ _ _,ah⟩ ?_;rintro wz ⟨hz,xz⟩;exact N (aA results141 rfl rfl (bh hz)) rfl (by have e1:=HX.out;subst e1;exact⟨rfl,gD (A:=C (O g 0 I)) (c:=c) (by rw[HZ.out];exact hz.right),xz⟩)
theorem wg(p:Nat)(l:List Mp)(a:Ac)(R:ab)(w:S)(hl:a6 l)(ha:cW a.page)(h:T w (bp p l*R)):
  ag prog 145 #[.pointer (C (O p 0 I)),.agg #[E F a.page,E F a.kind,vB a.user]] w (ck (bb l a).val w):=by
 have h1:=(aT w).new #[E F a.page,E F a.kind,vB a.user] 41;have H2:=h1.new #[E F 0,E F 0,E F 0] 34;have G2:=(h.new #[E F a.page,E F a.kind,vB a.user] 41).new #[E F 0,E F 0,E F 0] 34;have x2:=((a5 w).alloc (.cells #[E F a.page,E F a.kind,vB a.user] 41)).alloc (.cells #[E F 0,E F 0,E F 0] 34);simp only[World.size_alloc] at H2 G2;have G3:T _ (bp p l*(aa (w.heap.size+1) #[E F 0,E F 0,E F 0] 34*(aa w.heap.size #[E F a.page,E F a.kind,vB a.user] 41*R))):=G2.eq (by(simp only[aX,ay,cF]));have hF:=yZ p l a.page _ _ hl ha G3;have c0:=G2.right.cell 0;cases hf:af l a.page with
 |none=>
  have hy:=J (show bb l a=⟨1,0,0⟩ by unfold bb;rw[hf]);rw[hf] at hF;change ag _ _ _ _ (ck (.tuple #[.agg #[E F 0,E F 0,E F 0,E F 0],vB K]) _) at hF;clear h h1 G3 G2 hf hl;go_enter func145,ntmps145;go_wp2_with(refine hF.mono ?_;rintro e w3 ⟨rfl,b3⟩;have H3:=H2.below b3;have x3:=x2.below b3;obtain⟨d0,d1,d2⟩:=H3.cells3;obtain⟨f0,f1,f2⟩:=H3.frees3;have fl:=H3.lt)
  refine am (fun wz=>T wz (aa (w.heap.size+1) #[E F 1,E F 0,E F 0] 34*(aa w.heap.size #[E F a.page,E F a.kind,vB a.user] 41*bE w w.heap.size))∧b8 w wz) ⟨(((H3.set 0 (E F 1)).set 1 (E F 0)).set 2 (E F 0)).alloc (.cells #[E F 0,E F 0,E F 0,E F 0] 39),ah⟩ ?_;rintro wz ⟨hz,xz⟩;exact N (aG results145 rfl (bj hz)) rfl ⟨by rw[hy.out];rfl,ar hz.right.right xz⟩
 |some x=>
  have hy:=J (show bb l a=bF x a by unfold bb;rw[hf]);rw[hf] at hF;change ag _ _ _ _ (ck (.tuple #[.agg #[E F x.page,E F x.size,E F x.frame,E F x.rights],vB D]) _) at hF;clear h h1 G3 G2 hf hl;go_enter func145,ntmps145;go_wp2_with(first|(go_at_call 180;refine hF.mono ?_;rintro e w3 ⟨rfl,b3⟩;have H3:=H2.below b3;have x3:=x2.below b3;clear c0;obtain⟨a0,a1,a2⟩:=H3.right.cells3;have al:=H3.right.lt)|(fail))
  have H4:=H3.alloc (.cells #[E F x.page,E F x.size,E F x.frame,E F x.rights] 39);have x4:=x3.alloc (.cells #[E F x.page,E F x.size,E F x.frame,E F x.rights] 39);have HA:=J (fun W=>kG x a.page a.kind a.user W);have hy2:=hy;clear hy;generalize bF x ⟨a.page,a.kind,a.user⟩=r at*
  go_wp2_with(refine(HA.out _).mono ?_;rintro e w5 ⟨rfl,b5⟩;have H5:=H4.below b5;have x5:=x4.below b5;obtain⟨r0,r1,r2⟩:=H5.cells3;obtain⟨f0,f1,f2⟩:=H5.frees3;have fl:=H5.lt)
  refine am (fun wz=>T wz (aa (w.heap.size+1) #[E F r.fin,E F r.frame,E F r.rights] 34*(aa w.heap.size #[E F a.page,E F a.kind,vB a.user] 41*bE w w.heap.size))∧b8 w wz) ⟨((H5.set 0 (E F r.fin)).set 1 (E F r.frame)).set 2 (E F r.rights),ah⟩ ?_;rintro wz ⟨hz,xz⟩;exact N (aG results145 rfl (bj hz)) rfl ⟨by rw[hy2.out];rfl,ar hz.right.right xz⟩
def ej(q:Nat)(l:List Mp):ab:=ex fun A=>ex fun c=>aa q #[.slice A l.length c] 91*cK (.slice A l.length c) l
theorem kM{q:Nat}{l:List Mp}{P:ab}{w:S}(h:T w (ej q l*P)):∃A c,T w (aa q #[.slice A l.length c] 91*(cK (.slice A l.length c) l*P)):=by
 unfold ej at h;obtain⟨A,h⟩:=aF.1 h;obtain⟨c,h⟩:=aF.1 h;exact⟨A,c,h.a1⟩
theorem kN{q c:Nat}{A:Option b0}{l:List Mp}{P:ab}{w:S}(h:T w (aa q #[.slice A l.length c] 91*(cK (.slice A l.length c) l*P))):T w (ej q l*P):=by
 unfold ej;exact aF.2 ⟨A,aF.2 ⟨c,h.a2⟩⟩
def Bk.idx(l:List Mp)(p:Int):Int:=if(af l p).isSome =D then(ad l p:Int) else -1
theorem Bk.idx_hit{l:List Mp}(hl:a6 l){p:Int}{i:Nat}(hi:i<l.length)(ho:a4 l[i] p=D):Bk.idx l p=i:=by
 obtain⟨e1,e2⟩:=c9 hl hi ho;unfold Bk.idx;rw[e2];simp;omega
theorem Bk.idx_miss{l:List Mp}{p:Int}(h:∀j (hj:j<l.length),a4 l[j] p=K):Bk.idx l p= -1:=by
 have:af l p=I:=List.find?_eq_none.2 fun x hx=>by
  obtain⟨j,hj,rfl⟩:=List.getElem_of_mem hx;rw[h j hj];simp
 unfold Bk.idx;rw[this];rfl
theorem MapOk.i64{m:Mp}(h:c7 m):Go.Proofs.YtmfheghbgihdmaaGreat.cW m.page:=⟨by have:=h.p0;omega,by have:=h.p1;have:=h.sp;omega⟩
theorem za(q:Nat)(l:List Mp)(k:Int)(R:ab)(w:S)(hl:a6 l)(hk:cW k)(h:T w (ej q l*R)):
  ag prog 91 #[.pointer (C (O q 0 I)),.int .i64 k] w (ck (E F (Bk.idx l k)) w):=by
 obtain⟨A,c,h⟩:=kM h;have hbig:=hl.le;have hli:∀x∈l,cW x.page:=fun x hx=>(hl.chk x hx).i64;have HL:=J hl;clear hl;have c0:=h.cell 0;go_enter func91,ntmps91;go_wp2_with fail
 go_loopw [5] (fun s5 wr=>∃i:Nat,i≤l.length∧s5=E F i∧Below w.heap.size w wr∧Hid (∀j (hj:j<l.length),j<i→a4 l[j] k=K)) (fun s5 _=>l.length - (intOf s5).toNat)
 case atStart=>exact⟨0,Nat.zero_le _,rfl,Below.refl _ _,J fun j _ h=>absurd h (Nat.not_lt_zero _)⟩
 case round=>
  obtain⟨i,hi,rfl,BW,HA⟩:=hrel;have h':=h.below BW;clear c0;have c0:=h'.cell 0;have cl:=h'.lt;have BW':=J BW;clear BW;by_cases hlt:i<l.length
  ·obtain⟨b,rfl,hb,d0,d1,d2,d3⟩:=eT h'.right hlt
   have HC:=J (jt l[i] k wr (hli _ (List.getElem_mem hlt)) hk);generalize hx:l[i]=x at d0 d1 d2 d3 HC;have HX:=J hx;clear hx h' h;cases hq:a4 x k with
   |true=>
    rw[hq] at HC;go_wp2_with(refine HC.out.mono ?_;rintro e w' ⟨rfl,hb'⟩)
    go_ret;exact⟨by rw[Bk.idx_hit HL.out hlt (by rw[HX.out];exact hq)];rfl,BW'.out.trans (hb'.mono BW'.out.size)⟩
   |false=>
    rw[hq] at HC;go_wp2_with(refine HC.out.mono ?_;rintro e w' ⟨rfl,hb'⟩)
    go_roundw
    case rel=>
     refine⟨i+1,by omega,by go_num,BW'.out.trans (hb'.mono BW'.out.size),J fun j hj hjk=> ?_⟩;by_cases e:j=i
     ·subst e;rw[HX.out];exact hq
     ·exact HA.out j hj (by omega)
    case measure=>simp[intOf];omega
  ·have:i=l.length:=by omega
   subst this;go_wp2_with fail
   go_ret;exact⟨by rw[Bk.idx_miss fun j hj=>HA.out j hj hj];rfl,BW'.out⟩
theorem wh(q:Nat)(l:List Mp)(a:Ac)(R:ab)(w:S)(hl:a6 l)(ha:cW a.page)(h:T w (ej q l*R)):
  ag prog 41 #[.pointer (C (O q 0 I)),.agg #[E F a.page,E F a.kind,vB a.user]] w (ck (bb l a).val w):=by
 obtain⟨A,c,h0⟩:=kM h;have h1:=(aT w).new #[E F a.page,E F a.kind,vB a.user] 41;have H2:=h1.new #[E F 0,E F 0,E F 0] 34;have G2:=(h0.new #[E F a.page,E F a.kind,vB a.user] 41).new #[E F 0,E F 0,E F 0] 34;have x2:=((a5 w).alloc (.cells #[E F a.page,E F a.kind,vB a.user] 41)).alloc (.cells #[E F 0,E F 0,E F 0] 34);simp only[World.size_alloc] at H2 G2;have G3:T _ (aa q #[.slice A l.length c] 91*(cK (.slice A l.length c) l*(aa (w.heap.size+1) #[E F 0,E F 0,E F 0] 34*(aa w.heap.size #[E F a.page,E F a.kind,vB a.user] 41*R)))):=G2.eq (by(simp only[aX,ay,cF]));have hF:=za q l a.page _ _ hl ha (kN G3);have c0:=G2.right.cell 0;rcases ci hl a.page with ⟨hf,_⟩|⟨hi,ho,hf,h0,_⟩
 ·have hx:Bk.idx l a.page= -1:=by unfold Bk.idx;rw[hf];rfl
  have hy:=J (show bb l a=⟨1,0,0⟩ by unfold bb;rw[hf]);rw[hx] at hF;clear h h0 h1 G3 G2 hf hl hx;go_enter func41,ntmps41;go_wp2_with(refine hF.mono ?_;rintro e w3 ⟨rfl,b3⟩;have H3:=H2.below b3;have x3:=x2.below b3;obtain⟨d0,d1,d2⟩:=H3.cells3;obtain⟨f0,f1,f2⟩:=H3.frees3;have fl:=H3.lt)
  refine am (fun wz=>T wz (aa (w.heap.size+1) #[E F 1,E F 0,E F 0] 34*(aa w.heap.size #[E F a.page,E F a.kind,vB a.user] 41*bE w w.heap.size))∧b8 w wz) ⟨((H3.set 0 (E F 1)).set 1 (E F 0)).set 2 (E F 0),ah⟩ ?_;rintro wz ⟨hz,xz⟩;exact N (aG results41 rfl (bj hz)) rfl ⟨by rw[hy.out];rfl,ar hz.right.right xz⟩
 ·have hx:Bk.idx l a.page=ad l a.page:=by unfold Bk.idx;rw[hf];rfl
  have hy:=J (show bb l a=bF l[ad l a.page] a by unfold bb;rw[hf]);rw[hx] at hF;have hle:=hl.le;generalize ad l a.page=p at*
  clear h h0 h1 hf hl hx ho G2;go_enter func41,ntmps41;go_wp2_with(refine hF.mono ?_;rintro e w3 ⟨rfl,b3⟩)
  have H3:=H2.below b3;have x3:=x2.below b3;have g3:=G3.below b3;clear c0;have c0:=g3.cell 0;have cl:=g3.lt;obtain⟨b,rfl,hb,d0,d1,d2,d3⟩:=eT g3.right hi;obtain⟨a0,a1,a2⟩:=g3.r3.cells3;have al:=g3.r3.lt;clear g3 G3 H2 x2 b3 hF;have HX:=J (show l[p]=l[p] from rfl);generalize hxo:l[p]=x at*
  clear HX;have HX:=J hxo;clear hxo;go_wp2_with fail
  go_still_tail 8,(by kernel_rfl)
  repeat still_step
  try refine wpStill_nil ?_
  have H4:=H3.drew;have x4:=x3.drew;have HA:=J (fun W=>hO x a.page a.kind a.user W);have hy2:=hy;clear hy;generalize bF x ⟨a.page,a.kind,a.user⟩=r at*
  go_wp2_with(refine(HA.out _).mono ?_;rintro e w5 ⟨rfl,b5⟩;have H5:=H4.below b5;have x5:=x4.below b5;obtain⟨r0,r1,r2⟩:=H5.cells3;obtain⟨f0,f1,f2⟩:=H5.frees3;have fl:=H5.lt)
  refine am (fun wz=>T wz (aa (w.heap.size+1) #[E F r.fin,E F r.frame,E F r.rights] 34*(aa w.heap.size #[E F a.page,E F a.kind,vB a.user] 41*bE w w.heap.size))∧b8 w wz) ⟨((H5.set 0 (E F r.fin)).set 1 (E F r.frame)).set 2 (E F r.rights),ah⟩ ?_;rintro wz ⟨hz,xz⟩;exact N (aG results41 rfl (bj hz)) rfl ⟨by rw[hy2.out];rfl,ar hz.right.right xz⟩
section
variable {s s':Ms} {r:Int} {gone:List Int} {X:Int→Prop}
theorem sk(hw:∀a b,s'.wd a b=s.wd a b∨s'.wd a b=0)(hh:∀u,s'.has u=s.has u){q:Int}:∀(d:Nat) (t:Int),d≤4→bm s' r q d=C t→bm s r q d=C t:=by
 intro d;induction d with
 |zero=>intro t _ h;exact h
 |succ d ih=>
  intro t hd h;obtain⟨u,hu,hg,hf⟩:=fJ.1 h;refine fJ.2 ⟨u,ih u (by omega) hu,?_⟩;have g3:=(jk.1 hg).2.2.1;have e:av s' u (ap q (3 - d:Nat))=av s u (ap q (3 - d:Nat)):=by
   rcases hw u.toNat (ap q (3 - d:Nat)).toNat with e|e
   ·exact e
   ·have e:av s' u (ap q (3 - d:Nat))=0:=e
    unfold cN at g3;rw[e,(eu (by omega)).2] at g3;cases g3
  unfold it cN at hg;unfold cN at hf;rw[e,hh] at hg;rw[e] at hf;unfold it cN;exact⟨hg,hf⟩
theorem sm(hu:∀u i,s.has u=D→0≤i→s'.has u=D∧(av s u i=0∨av s' u i=av s u i)){q:Int}(hq:de q):∀(d:Nat) (t:Int),d≤4→bm s r q d=C t→bm s' r q d=C t:=by
 intro d;induction d with
 |zero=>intro t _ h;exact h
 |succ d ih=>
  intro t hd h;obtain⟨u,hu',hg,hf⟩:=fJ.1 h;refine fJ.2 ⟨u,ih u (by omega) hu',?_⟩;obtain⟨g1,_,g3,_⟩:=jk.1 hg;have hi:=bX hq (show 3 - d≤3 by omega);obtain⟨k1,k2⟩:=hu u (ap q (3 - d:Nat)) g1 hi.1;have e:av s' u (ap q (3 - d:Nat))=av s u (ap q (3 - d:Nat)):=by
   rcases k2 with e|e
   ·unfold cN at g3
    rw[e,(eu (by omega)).2] at g3;cases g3
   ·exact e
  unfold it cN at hg;unfold cN at hf;unfold it cN;rw[e,k1];rw[g1] at hg;exact⟨hg,hf⟩
theorem lh(s:Ms)(t i:Nat)(a b:Nat):(s.setW t i 0).wd a b=s.wd a b∨(s.setW t i 0).wd a b=0:=by
 show(if a=t∧b=i then(0:Int) else s.wd a b)=_∨(if a=t∧b=i then(0:Int) else s.wd a b)=0;split
 ·exact .inr rfl
 ·exact .inl rfl
theorem so{p:Int}{tabs:List Int}:∀(k:Nat) (s:Ms) (a b:Nat),(ed p tabs k s).1.wd a b=s.wd a b∨(ed p tabs k s).1.wd a b=0:=by
 intro k;induction k with
 |zero=>intro s a b;exact lh _ _ _ _ _
 |succ k ih=>
  intro s a b;unfold ed;split
  ·rcases ih (s.setW (tabs.getD (k+1) 0).toNat (ap p (3 - (k+1):Nat)).toNat 0) a b with e|e
   ·rw[e]
    exact lh _ _ _ _ _
   ·exact .inr e
  ·exact lh _ _ _ _ _
theorem sq(s:Ms)(r p:Int)(a b:Nat):(dm s r p).wd a b=s.wd a b∨(dm s r p).wd a b=0:=by
 unfold dm;split
 ·exact so _ _ _ _
 ·exact .inl rfl
theorem tS(hw:Wf s r gone (fun _=>False))(hi:s.Inv){p:Int}(hf:bu s r p=0){q t:Int}{d:Nat}(hq:de q)(hd:d≤3)(ht:bm s r q d=C t):
  bm (dm s r p) r q d=C t∨(t∈fy s r p∧bt (dm s r p) r q=I):=by
 obtain⟨w1,_,w3,_,w5,w6⟩:=mX hw hi hf;have hh:∀u,(dm s r p).has u=s.has u:=fun u=>by unfold Ms.has;rw[w3,w5]
 have htu:=hw.nat hq hd ht;have hu:(dm s r p).tk t.toNat=D:=by rw[w5];exact htu.2.2
 rcases(w1.use t.toNat).1 hu with hT|hG
 ·rw[Int.toNat_of_nonneg htu.1] at hT
  obtain⟨q',d',hq',hd',ht'⟩:=hT;have h1:=sk (sq s r p) hh d' t (by omega) ht';obtain⟨e,hpre⟩:=hw.inj q' q d' d t hq' hq hd' hd h1 ht;subst e;left;rw[←ht'];exact bS _ r hq hq' d' (by omega) hpre.symm
 ·rw[Int.toNat_of_nonneg htu.1] at hG
  have hng:t ∉ gone:=fun h=>hw.gt t h ⟨q,d,hq,hd,ht⟩;have hr:t∈fy s r p:=by
   rw[List.mem_append,List.mem_reverse] at hG;exact hG.resolve_right hng
  refine .inr ⟨hr,?_⟩;obtain⟨m1,m2⟩:=w6 q hq;by_cases ho:a4 (bK s r p) q=D
  ·rw[m1,if_pos ho]
  ·rw[m1,if_neg ho]
   cases hm:bt s r q with
   |none=>rfl
   |some m=>
    exfalso;have hway:=m2 (by simpa using ho) (by rw[hm];simp);obtain⟨e,u,he⟩:=hw.ends q hq;obtain⟨e',u',he'⟩:=w1.ends q hq;rw[bV hq.1 hq.2 he',bV hq.1 hq.2 he] at hway;injection hway with _ htabs _ _
    have hl:=congrArg List.length htabs;rw[ly,ly] at hl;obtain rfl:e'=e:=by omega
    have hde:d≤e':=by
     rcases Nat.lt_or_ge e' d with h|h
     ·have:=bC (dv he.tab he.no) d h
      rw[ht] at this;cases this
     ·exact h
    obtain⟨v,hv⟩:=dY he'.tab hde;have hg:=congrArg (fun l=>l.getD d 0) htabs;rw[i9 hv (by omega),i9 ht (by omega)] at hg;subst hg;exact w1.gt v (by rw[List.mem_append,List.mem_reverse];exact .inl hr) ⟨q,d,hq,hd,hv⟩
theorem sr{p lw:Int}{sz:Nat}:∀(n:Nat) (t:Int) (s:Ms),s.Inv→s.n≤128→sz+n≤3→(dH s p lw sz n t).n =s.n∧∀a b,s.tk a=D→(dH s p lw sz n t).tk a=D∧((a=t.toNat∧b=(ap p (sz+n:Nat)).toNat)∨(dH s p lw sz n t).wd a b=s.wd a b):=by
 intro n;induction n with
 |zero=>
  intro t s _ _ _;refine⟨rfl,fun a b ha=>⟨ha,?_⟩⟩;show _∨(if a=t.toNat∧b=(ap p sz).toNat then lw else s.wd a b)=s.wd a b;by_cases h:a=t.toNat∧b=(ap p sz).toNat
  ·exact .inl h
  ·right;rw[if_neg h]
 |succ n ih=>
  intro t s hi hn hs;unfold dH;cases hk:s.top with
  |none=>exact⟨rfl,fun a b ha=>⟨ha,.inr rfl⟩⟩
  |some k=>
   dsimp only;obtain⟨k1,k2⟩:=Ms.top_lt hi hk;have hI:((s.take k).setW t.toNat (ap p (sz+n+1:Nat)).toNat (iP k (sz+n+1))).Inv :=(hi.take hk).setW _ _ (mM (by omega) (by omega) (by omega) (by omega));obtain⟨i1,i2⟩:=ih k _ hI hn (by omega);refine⟨i1,fun a b ha=> ?_⟩;have hak:a≠k:=by rintro rfl;rw[k2] at ha;cases ha
   have ha':((s.take k).setW t.toNat (ap p (sz+n+1:Nat)).toNat (iP k (sz+n+1))).tk a=D:=by
    show bT s.tk k D a=D;rw[iE _ _ hak];exact ha
   obtain⟨j1,j2⟩:=i2 a b ha';refine⟨j1,?_⟩;rcases j2 with j2|j2
   ·have:=j2.1
    simp at this;exact absurd this hak
   ·rw[j2]
    show _∨(if a=t.toNat∧b=(ap p (sz+n+1:Nat)).toNat then iP k (sz+n+1) else(if a=k then 0 else s.wd a b))=s.wd a b;by_cases h:a=t.toNat∧b=(ap p (sz+n+1:Nat)).toNat
    ·exact .inl h
    ·right;rw[if_neg h,if_neg hak]
theorem tT(hw:Wf s r gone (fun _=>False))(hi:s.Inv)(hn:s.n≤128)(x:Mp){q t:Int}{d:Nat}(hq:de q)(hd:d≤3)(ht:bm s r q d=C t):bm (dR s r x) r q d=C t:=by
 unfold dR;by_cases hc:cU s r x=0
 ·rw[if_pos hc]
  unfold cU at hc;by_cases hk:bc x=0
  ·have hx:=fh hk
   have hp:=hx.inP;have hwc:=(jL hw hp).1;rw[if_neg (by omega),if_neg (by rw[hwc];simp)] at hc;by_cases h:(bl s r x.page).e.there =D∨(bl s r x.page).lev <x.size
   ·rw[if_pos h] at hc;cases hc
   rw[not_or] at h;obtain⟨d0,t0,he⟩:=hw.ends _ hp;have hle:=he.le;rw[bV hp.1 hp.2 he] at h⊢;dsimp only at h⊢;obtain⟨z,hz,hz3⟩:∃z:Nat,x.size=z∧z<3:=by
    rcases hx.size with ⟨a,_⟩|⟨a,_⟩|⟨a,_⟩
    ·exact⟨0,a,by omega⟩
    ·exact⟨1,a,by omega⟩
    ·exact⟨2,a,by omega⟩
   rw[jn he.tab];rw[hz] at h⊢;have ht0:(cN s x.page t0 (3 - d0)).there =K:=by simpa using h.1
   have hz0:=(he.not ht0).2;have e1:(z:Int).toNat =z:=by omega
   have e2:(((3 - d0:Nat):Int) - (z:Int)).toNat =3 - d0 - z:=by omega
   rw[e1,e2];have hzd:z≤3 - d0:=by have:=h.2;omega
   have hsum:z+(3 - d0 - z)=3 - d0:=by omega
   obtain⟨c1,c2⟩:=sr (p:=x.page) (lw:=bq (dq x) z) (sz:=z) (3 - d0 - z) t0 s hi hn (by omega);rw[hsum] at c2;have hpi:=bX hp (show 3 - d0≤3 by omega);refine sm (fun u i hu hi0=> ?_) hq d t (by omega) ht;obtain⟨u0,u1,u2⟩:=a7.1 hu;obtain⟨j1,j2⟩:=c2 u.toNat i.toNat u2;refine⟨a7.2 ⟨u0,by rw[c1];exact u1,j1⟩,?_⟩;rcases j2 with ⟨a,b⟩|j2
   ·left
    have htu:=(hw.nat hp he.le he.tab).1;obtain rfl:u=t0:=by omega
    obtain rfl:i=ap x.page (3 - d0:Nat):=by omega
    exact hz0
   ·exact .inr j2
  ·rw[if_pos hk] at hc;exact absurd hc hk
 ·rw[if_neg hc];exact ht
theorem iU:∀(l:List Int) (s:Ms),s.Inv→(bv s l).Inv ∧(bv s l).n =s.n∧(bv s l).wd =s.wd∧∀a:Nat,(bv s l).tk a=D↔s.tk a=D∧(a:Int) ∉ l:=by
 intro l;induction l with
 |nil=>intro s hi;exact⟨hi,rfl,rfl,fun a=>by simp[bv]⟩
 |cons k l ih=>
  intro s hi;show(bv (s.giveS k) l).Inv ∧_;cases hk:s.has k with
  |true=>
   have e:s.giveS k=s.give k.toNat:=by unfold dw;rw[if_pos hk]
   rw[show bv s (k::l)=bv (s.give k.toNat) l by rw[←e];rfl,e];obtain⟨k0,k1,k2⟩:=a7.1 hk;obtain⟨i1,i2,i3,i4⟩:=ih (s.give k.toNat) (hi.give k2);refine⟨i1,i2,i3,fun a=> ?_⟩;rw[i4 a];show bT s.tk k.toNat K a=D∧_↔_;by_cases h:a=k.toNat
   ·subst h
    rw[lr];have:((k.toNat:Nat):Int)=k:=by omega
    rw[this];simp
   ·rw[iE _ _ h]
    have:(a:Int)≠k:=by omega
    simp[this]
  |false=>
   have e:s.giveS k=s:=by unfold dw;rw[if_neg (by rw[hk];simp)]
   rw[e,show bv s (k::l)=bv s l from(congrArg (fun x=>bv x l) e:bv (s.giveS k) l=bv s l)];obtain⟨i1,i2,i3,i4⟩:=ih s hi;refine⟨i1,i2,i3,fun a=> ?_⟩;rw[i4 a];constructor
   ·rintro⟨a1,a2⟩
    refine⟨a1,fun hm=> ?_⟩;rcases List.mem_cons.1 hm with h|h
    ·have hl:=hi.tkl a a1
     have hle:=hi.le;rw[←h] at hk;rw[Ms.has_nat hi,a1] at hk;cases hk
    ·exact a2 h
   ·rintro⟨a1,a2⟩
    exact⟨a1,fun hm=>a2 (List.mem_cons_of_mem _ hm)⟩
theorem gE(hw:Wf s r gone X)(hi:s.Inv){q:Int}(hq:de q):∀d,d≤4→bm (bv s gone) r q d=bm s r q d:=by
 obtain⟨_,g2,g3,g4⟩:=iU gone s hi;intro d;induction d with
 |zero=>intro _;rfl
 |succ d ih=>
  intro hd;show(bm (bv s gone) r q d).bind _=(bm s r q d).bind _;rw[ih (by omega)];cases hu:bm s r q d with
  |none=>rfl
  |some u=>
   simp only[Option.bind_some];have hh:(bv s gone).has u=s.has u:=by
    rw[Bool.eq_iff_iff,a7,a7,g2,g4];constructor
    ·rintro⟨a,b,c,_⟩;exact⟨a,b,c⟩
    ·rintro⟨a,b,c⟩
     refine⟨a,b,c,fun hm=> ?_⟩;rw[Int.toNat_of_nonneg a] at hm;exact hw.gt u hm ⟨q,d,hq,by omega,hu⟩
   unfold it cN av;rw[hh,g3]
theorem nH(hw:Wf s r gone X)(hi:s.Inv){q t:Int}{d:Nat}(hq:de q)(he:c5 s r q d t):c5 (bv s gone) r q d t∧cN (bv s gone) q t (3 - d)=cN s q t (3 - d):=by
 obtain⟨_,g2,g3,g4⟩:=iU gone s hi;have hw':∀i,av (bv s gone) t i=av s t i:=fun i=>by unfold av;rw[g3]
 have hh:(bv s gone).has t=D:=by
  obtain⟨a,b,c⟩:=a7.1 he.use;refine a7.2 ⟨a,by rw[g2];exact b,(g4 _).2 ⟨c,fun hm=> ?_⟩⟩;rw[Int.toNat_of_nonneg a] at hm;exact hw.gt t hm ⟨q,d,hq,he.le,he.tab⟩
 refine⟨⟨he.le,(gE hw hi hq d (by have:=he.le;omega)).trans he.tab,hh,by rw[hw'];exact he.dec,?_⟩,by unfold cN;rw[hw']⟩;have:=he.no;unfold it cN at this⊢;rw[hw',hh];rw[he.use] at this;exact this
theorem pu(hw:Wf s r gone X)(hi:s.Inv){q:Int}(hq:de q):bl (bv s gone) r q=bl s r q:=by
 obtain⟨d,t,he⟩:=hw.ends q hq;obtain⟨h1,h2⟩:=nH hw hi hq he;rw[bV hq.1 hq.2 h1,bV hq.1 hq.2 he,h2];have:cO (bv s gone) r q (d+1)=cO s r q (d+1):=by
  unfold cO;refine List.map_congr_left fun x hx=> ?_;rw[gE hw hi hq x (by have:=List.mem_range.1 hx;have:=he.le;omega)]
 rw[this]
theorem tU(hw:Wf s r gone X)(hi:s.Inv)(t:Int):rL (bv s gone) r t↔rL s r t:=by
 constructor
 ·rintro⟨q,d,hq,hd,h⟩;exact⟨q,d,hq,hd,by rw[←gE hw hi hq d (by omega)];exact h⟩
 ·rintro⟨q,d,hq,hd,h⟩;exact⟨q,d,hq,hd,by rw[gE hw hi hq d (by omega)];exact h⟩
theorem Wf.give(hw:Wf s r gone X)(hi:s.Inv):Wf (bv s gone) r [] X:=by
 obtain⟨_,g2,g3,g4⟩:=iU gone s hi;refine⟨fun p hp=> ?_,fun p q d e t hp hq hd he h1 h2=> ?_,fun p d t hp hd h=> ?_,fun k=> ?_,List.nodup_nil,fun g hg=>(by cases hg),fun g hg=>(by cases hg)⟩
 ·obtain⟨d,t,he⟩:=hw.ends p hp
  exact⟨d,t,(nH hw hi hp he).1⟩
 ·rw[gE hw hi hp d (by omega)] at h1
  rw[gE hw hi hq e (by omega)] at h2;exact hw.inj p q d e t hp hq hd he h1 h2
 ·rw[gE hw hi hp (d+1) (by omega)] at h
  have:=hw.full p d t hp hd h;unfold av at this⊢;rw[g3];exact this
 ·rw[g4 k,hw.use k,tU hw hi]
  constructor
  ·rintro⟨a|a,b⟩
   ·exact .inl a
   ·exact absurd a b
  ·rintro(a|a)
   ·exact⟨.inl a,fun hm=>hw.gt _ hm a⟩
   ·cases a
end
def qF(o:Option Mp)(a:Ac):An:=match o with|none=>⟨1,0,0⟩|some m=>bF m a
def OnTree(s:Ms)(r:Int)(k:Ck):Prop:=∃d:Nat,d≤3∧k.level=((3 - d:Nat):Int)∧bm s r k.a.page d=C k.t
def Lost(s:Ms)(r:Int)(gone:List Int)(k:Ck):Prop:=k.t∈gone∧bt s r k.a.page=I
structure Marked (s s':Ms) (r:Int):Prop where
 n:s'.n=s.n
 tk:∀u,s'.tk u=s.tk u
 fr:s'.frees=s.frees
 tab:∀q,de q→∀d,d≤4→bm s' r q d=bm s r q d
 map:∀q,de q→bt s' r q=bt s r q
 lev:∀q,de q→(bl s' r q).lev =(bl s r q).lev
 used:∀q,de q→(bl s r q).e.used =D→(bl s' r q).e.used =D
 dirty:∀q,de q→(bl s r q).e.dirty =D→(bl s' r q).e.dirty =D
theorem Marked.refl(s:Ms)(r:Int):Marked s s r:=⟨rfl,fun _=>rfl,rfl,fun _ _ _ _=>rfl,fun _ _=>rfl,fun _ _=>rfl,fun _ _ h=>h,fun _ _ h=>h⟩
structure Kept (s:Ms) (r:Int) (x:Ln):Prop where
 inP:de x.m.page
 map:bt s r x.m.page=C x.m
 used:(bl s r x.m.page).e.used =D
 dirty:x.dirty=D→(bl s r x.m.page).e.dirty =D
theorem Kept.mark{s s':Ms}{r:Int}{x:Ln}(h:Kept s r x)(m:Marked s s' r):Kept s' r x:=
 ⟨h.inP,(m.map _ h.inP).trans h.map,m.used _ h.inP h.used,fun d=>m.dirty _ h.inP (h.dirty d)⟩
theorem OnTree.mark{s s':Ms}{r:Int}{k:Ck}(hp:de k.a.page)(h:OnTree s r k)(m:Marked s s' r):OnTree s' r k:=by
 obtain⟨d,hd,hl,ht⟩:=h;exact⟨d,hd,hl,(m.tab _ hp d (by omega)).trans ht⟩
theorem Lost.mark{s s':Ms}{r:Int}{gone:List Int}{k:Ck}(hp:de k.a.page)(h:Lost s r gone k)(m:Marked s s' r):Lost s' r gone k:=⟨h.1,(m.map _ hp).trans h.2⟩
theorem dS{a:Ac}(h:aq a=0):de a.page:=by
 have:=gj h;unfold cY at this;simp at this;exact this
section
variable {s:Ms} {r:Int} {gone:List Int} {X:Int→Prop}
theorem qG(hw:Wf s r gone X){p q:Int}{m:Mp}(hp:de p)(hq:de q)(hm:bt s r p=C m)(ho:a4 m q=D):(bl s r q).e =(bl s r p).e ∧(bl s r q).lev =(bl s r p).lev :=by
 obtain⟨d,t,he⟩:=hw.ends p hp;rw[be hp he] at hm;split at hm
 ·rename_i hl
  injection hm with hm
  obtain⟨h3,_,hov⟩:=he.map hp hl;rw[←hm,hov q] at ho;obtain⟨hs,hse⟩:=he.same hp hq (of_decide_eq_true ho);rw[bV hq.1 hq.2 hs,bV hp.1 hp.2 he,hse];exact⟨rfl,rfl⟩
 ·cases hm
theorem tV(hw:Wf s r gone X){p:Int}{m:Mp}(hp:de p)(hm:bt s r p=C m):de m.page∧a4 m m.page=D∧bt s r m.page=C m:=by
 obtain⟨h1,h2⟩:=hw.self hp hm;have hi:=h2.inP;have ho:a4 m m.page=D:=dX.2 ⟨by omega,by have:=h2.sp;omega⟩;exact⟨hi,ho,Wf.overMap hw hp hi hm ho hw⟩
theorem l5(s:Ms)(r:Int){k:Ck}(hon:k.on=D):OnTree s r (k.again r)∧(k.again r).a =k.a∧(k.again r).on =D:=by
 unfold Ck.again;rw[if_pos hon];exact⟨⟨0,by omega,rfl,rfl⟩,rfl,hon⟩
theorem ss(hw:Wf s r gone (fun _=>False))(hi:s.Inv){p t:Int}{d:Nat}(hp:de p)(he:c5 s r p d t)(hl:(cN s p t (3 - d)).leaf =D)(a:Ac):
  Wf (cM s p t d (bq (bY (cN s p t (3 - d)) a) (3 - d:Nat))) r gone (fun _=>False)∧(cM s p t d (bq (bY (cN s p t (3 - d)) a) (3 - d:Nat))).Inv ∧
   Marked s (cM s p t d (bq (bY (cN s p t (3 - d)) a) (3 - d:Nat))) r∧(bl (cM s p t d (bq (bY (cN s p t (3 - d)) a) (3 - d:Nat))) r p).e =bY (cN s p t (3 - d)) a:=by
 have hef:=(fp he.dec).1;have hef:aj (cN s p t (3 - d)) ((3 - d:Nat):Int)=0:=hef;obtain⟨hf',hl'⟩:=rU a hef hl;obtain⟨w1,w2,w3⟩:=rT hw hi hp he hf' hl';obtain⟨k1,k2,_⟩:=kT hf';have hv:kd (bq (bY (cN s p t (3 - d)) a) (3 - d:Nat)) (3 - d):=⟨k1,by rw[k2,hl'];simp⟩;refine⟨w1,w2,⟨rfl,fun _=>rfl,rfl,fun q hq e hle=>fN hw hp he.le he.tab he.no hv hq e hle,fun q hq=> ?_,fun q hq=> ?_,fun q hq=> ?_,fun q hq=> ?_⟩,?_⟩
 ·have:=w3 q hq
  split at this
  ·unfold bt
   rw[this.1,this.2];dsimp only;rw[hl',hl,gZ a hef hl]
  ·exact eW this
 ·have:=w3 q hq
  split at this
  ·rw[this.1,this.2]
  ·rw[this]
 ·have:=w3 q hq
  split at this
  ·rw[this.1,this.2]
   intro _;rfl
  ·rw[this];exact id
 ·have:=w3 q hq
  split at this
  ·rw[this.1,this.2]
   dsimp only;intro h;unfold bY;dsimp only;rw[h];rfl
  ·rw[this];exact id
 ·have:=w3 p hp
  rw[if_pos rfl] at this;rw[this.1]
end
section
variable {s:Ms} {r:Int} {gone:List Int} {X:Int→Prop}
theorem Wf.perm{g:List Int}(hw:Wf s r gone X)(h:∀t,t∈g↔t∈gone)(nd:g.Nodup):Wf s r g X:=
 ⟨hw.ends,hw.inj,hw.full,fun k=>by rw[hw.use k,h],nd,fun t ht=>hw.gz t ((h t).1 ht),fun t ht=>hw.gt t ((h t).1 ht)⟩
theorem wi(hw:Wf s r gone (fun _=>False)){p ri:Int}(hf:iQ s r p ri=0){q:Int}(hq:de q):∀e,e≤4→bm (gX s r p ri) r q e=bm s r q e:=by
 have hr:0≤ri∧ri≤7:=by
  unfold iQ at hf;split at hf
  ·cases hf
  ·omega
 have hf0:bu s r p=0:=by
  unfold iQ at hf;rw[if_neg (by omega)] at hf;exact hf
 have hp:=gh hf0;obtain⟨d,t,he,hl,hwe,hm,h3,ho⟩:=hw.found hf0;have hef:aj (cN s p t (3 - d)) ((3 - d:Nat):Int)=0:=(fp he.dec).1;have hf':aj {cN s p t (3 - d) with rights:=ri} (3 - d:Nat)=0:=n7 hef hl hr.1 hr.2;have es:gX s r p ri=cM s p t d (bq {cN s p t (3 - d) with rights:=ri} (3 - d:Nat)):=by
  unfold gX;rw[if_pos hf,hwe];dsimp only;rw[jn he.tab]
 obtain⟨k1,k2,_⟩:=kT hf';have hv:kd (bq {cN s p t (3 - d) with rights:=ri} (3 - d:Nat)) (3 - d):=⟨k1,by rw[k2];dsimp only;rw[hl];simp⟩;rw[es];exact fun e he'=>fN hw hp he.le he.tab he.no hv hq e he'
end
section
variable {s:Ms} {r:Int} {gone:List Int} {X:Int→Prop}
structure wj (s:Ms) (r:Int) (k:Ck) (p:Sp):Prop where
 fin:p.r.fin=D
 off:p.c=k.idle
 an:p.r.an=qF (bt s r k.a.page) k.a
 kept:p.r.an.fin=0→Kept p.s r p.r.ln∧a4 p.r.ln.m k.a.page=D∧(k.a.kind=1→p.r.ln.dirty=D)
structure xR (s:Ms) (r:Int) (k:Ck) (p:Sp):Prop where
 z:p.r=Rs.zero
 same:p.s=s
 on:p.c.on=D
 a:p.c.a=k.a
 tree:OnTree s r p.c
structure oB (s:Ms) (r:Int) (gone:List Int) (k:Ck) (p:Sp):Prop where
 code:p.code=0
 mark:Marked s p.s r
 wf:Wf p.s r gone (fun _=>False)
 inv:p.s.Inv
 fin:wj s r k p∨xR s r k p
theorem pv{k:Ck}{d:Nat}{s':Ms}{e':En}(hp:de k.a.page)(he:c5 s r k.a.page d k.t)(hlev:k.level=((3 - d:Nat):Int))(hl:(cN s k.a.page k.t (3 - d)).leaf =D)
  (hwf:Wf s' r gone (fun _=>False)) (hinv:s'.Inv) (hm:Marked s s' r) (hway:(bl s' r k.a.page).e =e') (hmp:aB e' ((3 - d:Nat):Int) k.a.page=aB (cN s k.a.page k.t (3 - d)) ((3 - d:Nat):Int) k.a.page)
  (hready:dZ e' k.a=D):oB s r gone k (k.leafEnd s' e'):=by
 have hmap:bt s r k.a.page=C (aB e' ((3 - d:Nat):Int) k.a.page):=by
  rw[be hp he,if_pos hl,hmp]
 have hu:e'.used=D∧(e'.dirty||k.a.kind !=1)=D:=by
  unfold dZ at hready;rw[Bool.and_eq_true] at hready;exact hready
 refine⟨rfl,hm,hwf,hinv,.inl ⟨rfl,rfl,?_,fun _=> ?_⟩⟩
 ·rw[hmap,←hlev];rfl
 ·have hmap':bt s' r k.a.page=C (aB e' ((3 - d:Nat):Int) k.a.page):=(hm.map _ hp).trans hmap
  obtain⟨q1,q2,q3⟩:=tV hwf hp hmap';obtain⟨o1,_⟩:=hwf.self hp hmap';have hent:=(qG hwf hp q1 hmap' q2).1;have hln:(k.leafEnd s' e').r.ln =⟨aB e' ((3 - d:Nat):Int) k.a.page,e'.dirty⟩:=by unfold Ck.leafEnd;rw[hlev]
  rw[hln];refine⟨⟨q1,q3,by show(bl s' r _).e.used =D;rw[hent,hway];exact hu.1,fun h=>by show(bl s' r _).e.dirty =D;rw[hent,hway];exact h⟩,o1,fun h1=> ?_⟩;have:=hu.2;rw[h1] at this;simpa using this
theorem st(hw:Wf s r gone (fun _=>False))(hi:s.Inv){k:Ck}(hk:k.Ok)(hon:k.on=D)(ht:OnTree s r k∨Lost s r gone k):oB s r gone k (aL s r k):=by
 have hp:=dS (hk.acc hon);have hag:=l5 s r hon;have hAgain:oB s r gone k ⟨k.again r,s,Rs.zero,0⟩:=⟨rfl,Marked.refl s r,hw,hi,.inr ⟨rfl,rfl,hag.2.2,hag.2.1,hag.1⟩⟩;unfold aL;rw[if_neg (by rw[hon];simp)];rcases ht with ⟨d,hd,hlev,htab⟩|⟨hg,hnone⟩
 ·obtain⟨u1,u2⟩:=hw.at_ hp hd htab
  rw[if_neg (by rw[u1];simp)];have ew:k.word s=av s k.t (ap k.a.page (3 - d:Nat)):=by unfold Ck.word;rw[hlev]
  by_cases hmk:k.mark=D∧k.word s≠k.w
  ·rw[if_pos hmk];exact hAgain
  rw[if_neg hmk,ew,hlev,if_neg (by rw[u2];simp)];have eE:aD (av s k.t (ap k.a.page (3 - d:Nat))) ((3 - d:Nat):Int)=cN s k.a.page k.t (3 - d):=rfl;rw[eE];by_cases hth:(cN s k.a.page k.t (3 - d)).there =K
  ·rw[if_pos hth]
   have hgo:it s k.a.page k.t (3 - d)=K:=by unfold it;rw[hth];simp
   have he:c5 s r k.a.page d k.t:=⟨hd,htab,u1,u2,hgo⟩;have hz:=(he.not hth).1;refine⟨rfl,Marked.refl s r,hw,hi,.inl ⟨rfl,rfl,?_,fun h=>(by cases h)⟩⟩;rw[be hp he,hz];rfl
  rw[if_neg hth];by_cases hlf:(cN s k.a.page k.t (3 - d)).leaf =K
  ·rw[if_pos hlf]
   have hgo:it s k.a.page k.t (3 - d)=D:=jk.2 ⟨u1,u2,by simpa using hth,hlf⟩;have hd3:d<3:=by
    refine Decidable.byContradiction fun hn=> ?_;obtain rfl:d=3:=by omega
    have u2':br (av s k.t (ap k.a.page (0:Nat))) (0:Nat)=0:=u2;rcases eP u2' with h|h
    ·exact hth h
    ·have hlf':(aD (av s k.t (ap k.a.page (0:Nat))) (0:Nat)).leaf =K:=hlf
     exact absurd (h.symm.trans hlf') (by simp)
   refine⟨rfl,Marked.refl s r,hw,hi,.inr ⟨rfl,rfl,hon,rfl,d+1,by omega,?_,fJ.2 ⟨k.t,htab,hgo,rfl⟩⟩⟩;show((3 - d:Nat):Int) - 1=_;omega
  rw[if_neg hlf];have hl:(cN s k.a.page k.t (3 - d)).leaf =D:=by simpa using hlf
  have hgo:it s k.a.page k.t (3 - d)=K:=by unfold it;rw[hl];simp
  have he:c5 s r k.a.page d k.t:=⟨hd,htab,u1,u2,hgo⟩;have hef:aj (cN s k.a.page k.t (3 - d)) ((3 - d:Nat):Int)=0:=(fp he.dec).1;have hmap:bt s r k.a.page=C (aB (cN s k.a.page k.t (3 - d)) ((3 - d:Nat):Int) k.a.page):=by rw[be hp he,if_pos hl]
  by_cases hmay:may (cN s k.a.page k.t (3 - d)).rights k.a=K
  ·rw[if_pos hmay]
   refine⟨rfl,Marked.refl s r,hw,hi,.inl ⟨rfl,rfl,?_,fun h=>(by cases h)⟩⟩;rw[hmap];show _=bF _ k.a;unfold bF;rw[mY hef hl (gj (hk.acc hon)),hmay];rfl
  rw[if_neg hmay];by_cases hm1:k.mark=D
  ·rw[if_pos hm1]
   obtain⟨m1,m2,m3,m4⟩:=ss hw hi hp he hl k.a;exact pv hp he hlev hl m1 m2 m3 m4 (gZ k.a hef hl) (rp _ _)
  rw[if_neg hm1];by_cases hrd:dZ (cN s k.a.page k.t (3 - d)) k.a=D
  ·rw[if_pos hrd]
   exact pv hp he hlev hl hw hi (Marked.refl s r) (by rw[bV hp.1 hp.2 he]) rfl hrd
  rw[if_neg hrd];exact⟨rfl,Marked.refl s r,hw,hi,.inr ⟨rfl,rfl,hon,rfl,d,hd,rfl,htab⟩⟩
 ·obtain⟨g0,gz⟩:=hw.gz _ hg
  have htk:s.tk k.t.toNat=D:=(hw.use _).2 (.inr (by rw[Int.toNat_of_nonneg g0];exact hg));have hhas:s.has k.t=D:=a7.2 ⟨g0,by have:=hi.tkl _ htk;have:=hi.le;omega,htk⟩;rw[if_neg (by rw[hhas];simp)];obtain⟨L,hL,hL3⟩:∃L:Nat,k.level=L∧L≤3:=⟨k.level.toNat,by have:=hk.l0 hon;omega,by have:=hk.l3 hon;omega⟩;have hix:=bX hp hL3;have ew:k.word s=0:=by
   unfold Ck.word;rw[hL];have:=gz (ap k.a.page L).toNat (by omega);rwa [Int.toNat_of_nonneg hix.1] at this
  obtain⟨z1,z2⟩:=eu hL3;by_cases hm:k.mark=D
  ·have hne:k.word s≠k.w:=by
    rw[ew];intro h;have:=(hk.leaf hm).1;rw[←h,hL,z2] at this;cases this
   rw[if_pos ⟨hm,hne⟩];exact hAgain
  ·rw[if_neg (fun h=>hm h.1),ew,hL,if_neg (by rw[z1];simp),z2,if_pos (show En.zero.there=K from rfl)]
   refine⟨rfl,Marked.refl s r,hw,hi,.inl ⟨rfl,rfl,?_,fun h=>(by cases h)⟩⟩;rw[hnone];rfl
end
structure tW (σ:Sc) (P:List Mp) (k:Nat) (c:Cr):Prop where
 walk:c.k.on=D→OnTree σ.s 0 c.k∨(σ.wait k=D∧Lost σ.s 0 σ.gone c.k)
 line:∀x∈c.l,Kept σ.s 0 x∨(σ.wait k=D∧dV x.m σ.told=D∧af P x.m.page=C x.m)
structure Safe (σ:Sc) (P:List Mp):Prop where
 ok:σ.Ok
 wf:Wf σ.s 0 σ.gone (fun _=>False)
 quiet:σ.busy=K→σ.gone=[]∧∀i,σ.wait i=K
 busy:σ.busy=D→∃i,i<σ.cs.length∧σ.wait i=D
 core:∀k c,σ.cs[k]? =C c→tW σ P k c
 prev:a6 P
namespace Safe
variable {σ:Sc} {P:List Mp}
theorem at_core{σ:Sc}{k:Nat}(hk:k<σ.cs.length):σ.cs[k]? =C (σ.core k):=by
 unfold Sc.core;rw[List.getD_eq_getElem?_getD,U hk];rfl
theorem set_core{cs:List Cr}{k j:Nat}{c x:Cr}(h:(cs.set k c)[j]? =C x):(j=k∧x=c)∨(j≠k∧cs[j]? =C x):=by
 rw[List.getElem?_set] at h;split at h
 ·rename_i hkj
  subst hkj;split at h
  ·injection h with h;exact .inl ⟨rfl,h.symm⟩
  ·cases h
 ·rename_i hkj
  exact .inr ⟨fun e=>hkj e.symm,h⟩
theorem evict(h:Safe σ P){k:Nat}(hk:k<σ.cs.length):Safe (σ.evict k).1 P:=by
 unfold bL;split
 ·exact h
 ·have hc:=b4 h.ok k
  have hi:=h.core k _ (at_core hk);refine⟨h.ok.put k hc.1.evict hc.2,h.wf,h.quiet,fun hb=>by have:=h.busy hb;rwa [bi],fun j c hj=> ?_,h.prev⟩;rcases set_core hj with ⟨rfl,rfl⟩|⟨hne,hj⟩
  ·exact⟨hi.walk,fun x hx=>hi.line x (List.mem_of_mem_tail hx)⟩
  ·exact⟨(h.core j c hj).walk,(h.core j c hj).line⟩
theorem begin_tree(s:Ms)(k:Ck)(a:Ac):OnTree s 0 (k.begin 0 a):=⟨0,by omega,rfl,rfl⟩
theorem access(h:Safe σ P){k:Nat}(hk:k<σ.cs.length)(a:Ac):Safe (σ.access k a).1 P:=by
 have hc:=b4 h.ok k;have hi:=h.core k _ (at_core hk);refine⟨h.ok.put k hc.1 (vc hc.2),h.wf,h.quiet,fun hb=>by have:=h.busy hb;unfold cX;rwa [bi],fun j c hj=> ?_,h.prev⟩;rcases set_core hj with ⟨rfl,rfl⟩|⟨hne,hj⟩
 ·refine⟨fun hon=> ?_,hi.line⟩
  show OnTree σ.s 0 (ce _ 0 _ a).c ∨_;unfold ce at hon⊢;split;· rename_i hx;rw[if_pos hx] at hon;exact hi.walk hon
  rename_i hx;rw[if_neg hx] at hon;split;· rename_i hy;rw[if_pos hy] at hon;exact hi.walk hon
  rename_i hy;rw[if_neg hy] at hon;cases hh:ja (σ.core j).l a with
  |some r=>rw[hh] at hon;exact hi.walk hon
  |none=>exact .inl (begin_tree _ _ _)
 ·exact⟨(h.core j c hj).walk,(h.core j c hj).line⟩
theorem keep_mem{l:List Ln}{r:Rs}{x:Ln}(h:x∈gQ l r):x∈l∨(r.fin=D∧r.an.fin=0∧x=r.ln):=by
 unfold gQ at h;split at h
 ·rename_i hr
  unfold Tl.put at h;split at h
  ·rw[List.mem_append] at h
   rcases h with h|h
   ·exact .inl ((List.mem_filter.1 ((Tl.room_sub _).subset h)).1)
   ·simp at h
    exact .inr ⟨hr.1,hr.2,h⟩
  ·exact .inl h
 ·exact .inl h
theorem step_off{s:Ms}{r:Int}{k:Ck}(h:k.on=K):aL s r k=⟨k,s,Rs.zero,9⟩:=by unfold aL;rw[if_pos h]
theorem keep_zero(l:List Ln):gQ l Rs.zero=l:=by unfold gQ;rw[if_neg (by simp[Rs.zero])]
theorem walk_stepIn(h:Safe σ P){k:Nat}(hk:k<σ.cs.length)(hon:(σ.core k).k.on =D):oB σ.s 0 σ.gone (σ.core k).k (aL σ.s 0 (σ.core k).k):=by
 have hc:=b4 h.ok k;exact st h.wf h.ok.s.inv hc.2 hon (((h.core k _ (at_core hk)).walk hon).imp id (fun x=>x.2))
theorem walk(h:Safe σ P){k:Nat}(hk:k<σ.cs.length):Safe (σ.walk k).1 P:=by
 have hc:=b4 h.ok k;have hi:=h.core k _ (at_core hk);cases hon:(σ.core k).k.on with
 |false=>
  unfold cq;rw[step_off hon,keep_zero];refine⟨⟨h.ok.s,(h.ok.put k hc.1 hc.2).c,(h.ok.put k hc.1 hc.2).few,(h.ok.put k hc.1 hc.2).one,(h.ok.put k hc.1 hc.2).w,h.ok.told⟩,h.wf,h.quiet,fun hb=>by have:=h.busy hb;rwa [show({σ.put k ⟨(σ.core k).l,(σ.core k).k⟩ with s:=σ.s}:Sc).cs.length =σ.cs.length from bi _ _ _],fun j c hj=> ?_,h.prev⟩;rcases set_core hj with ⟨rfl,rfl⟩|⟨hne,hj⟩
  ·exact⟨hi.walk,hi.line⟩
  ·exact⟨(h.core j c hj).walk,(h.core j c hj).line⟩
 |true=>
  have hs:=h.walk_stepIn hk hon;have hpu:=h.ok.put k (c:=⟨gQ (σ.core k).l (aL σ.s 0 (σ.core k).k).r,(aL σ.s 0 (σ.core k).k).c⟩) (vd hc.1 _) (hc.2.step _ _);refine⟨⟨⟨hs.inv,by rw[show(σ.walk k).1.s.n=σ.s.n from hs.mark.n];exact h.ok.s.small⟩,hpu.c,hpu.few,hpu.one,hpu.w,h.ok.told⟩,hs.wf,h.quiet,fun hb=> ?_,fun j c hj=> ?_,h.prev⟩
  ·have:=h.busy hb
   rwa [show(σ.walk k).1.cs.length=σ.cs.length from bi _ _ _]
  ·rcases set_core hj with ⟨rfl,rfl⟩|⟨hne,hj⟩
   ·refine⟨fun hon'=> ?_,fun x hx=> ?_⟩
    ·rcases hs.fin with hf|hf
     ·have:((σ.core j).k.idle).on =D:=by rw[←hf.off];exact hon'
      cases this
     ·left
      show OnTree (aL σ.s 0 (σ.core j).k).s 0 _;rw[hf.same];exact hf.tree
    ·rcases keep_mem hx with hx|⟨h1,h2,h3⟩
     ·rcases hi.line x hx with hl|hl
      ·exact .inl (hl.mark hs.mark)
      ·exact .inr hl
     ·rcases hs.fin with hf|hf
      ·rw[h3];exact .inl (hf.kept h2).1
      ·rw[hf.z] at h1;cases h1
   ·have hj':=h.core j c hj
    refine⟨fun hon'=> ?_,fun x hx=> ?_⟩
    ·have hp:=dS ((h.ok.c c (List.mem_of_getElem? hj)).2.acc hon')
     rcases hj'.walk hon' with hl|hl
     ·exact .inl (hl.mark hp hs.mark)
     ·exact .inr ⟨hl.1,hl.2.mark hp hs.mark⟩
    ·rcases hj'.line x hx with hl|hl
     ·exact .inl (hl.mark hs.mark)
     ·exact .inr hl
theorem overB_false{ws:Nat→Bool}(h:eG ws=K):∃i,i<4∧ws i=D:=by
 unfold eG at h;cases h0:ws 0 with
 |true=>exact⟨0,by omega,h0⟩
 |false=>
  cases h1:ws 1 with
  |true=>exact⟨1,by omega,h1⟩
  |false=>
   cases h2:ws 2 with
   |true=>exact⟨2,by omega,h2⟩
   |false=>
    cases h3:ws 3 with
    |true=>exact⟨3,by omega,h3⟩
    |false=>rw[h0,h1,h2,h3] at h;cases h
theorem ack_off(ws:Nat→Bool)(k:Nat):cI ws k k=K:=by unfold cI;rw[if_pos rfl]
theorem ack_ne(ws:Nat→Bool){k j:Nat}(h:j≠k):cI ws k j=ws j:=by unfold cI;rw[if_neg h]
theorem heed_core(h:Safe σ P){k:Nat}(hk:k<σ.cs.length):∀j c,(σ.heed k).cs[j]? =C c→tW (σ.heed k) P j c:=by
 intro j c hj;have hi:=h.core k _ (at_core hk);rcases set_core hj with ⟨rfl,rfl⟩|⟨hne,hj⟩
 ·refine⟨fun hon=> .inl ?_,fun x hx=> .inl ?_⟩
  ·have hon':(σ.core j).k.on =D:=by
    unfold Ck.again at hon;split at hon
    ·assumption
    ·exact hon
   exact(l5 σ.s 0 hon').1
  ·rcases hi.line x ((List.mem_filter.1 hx).1) with hl|hl
   ·exact hl
   ·have:=Tl.drop_apart _ _ x hx
    rw[hl.2.1] at this;cases this
 ·have hj':=h.core j c hj
  refine⟨fun hon=>(hj'.walk hon).imp id fun hl=>⟨(ack_ne _ hne).trans hl.1,hl.2⟩,fun x hx=>(hj'.line x hx).imp id fun hl=>⟨(ack_ne _ hne).trans hl.1,hl.2⟩⟩
theorem heed_ok(h:Safe σ P)(k:Nat):(σ.heed k).Ok :=by
 have hc:=b4 h.ok k;have hp:=h.ok.put k (c:=⟨Tl.drop (σ.core k).l σ.told,(σ.core k).k.again 0⟩) (hc.1.drop _) (hc.2.again 0);refine⟨h.ok.s,hp.c,hp.few,hp.one,fun i hi=> ?_,h.ok.told⟩;have:=h.ok.w i (by have e:(σ.heed k).cs.length =σ.cs.length:=List.length_set ..;omega);show cI σ.wait k i=K;unfold cI;split
 ·rfl
 ·exact this
theorem ack(h:Safe σ P){k:Nat}(hk:k<σ.cs.length):Safe (σ.ack k).1 P:=by
 unfold cn;split
 ·exact h
 rename_i hwk;have hwk:σ.wait k=D:=by simpa using hwk
 have hb:σ.busy=D:=by
  cases hb:σ.busy with
  |true=>rfl
  |false=>rw[(h.quiet hb).2 k] at hwk;cases hwk
 have hlen:(σ.heed k).cs.length =σ.cs.length:=List.length_set ..;have hok:=h.heed_ok k;have hcore:=h.heed_core hk;split
 ·rename_i ho
  have hz:∀i,(σ.heed k).wait i=K:=by
   intro i;obtain⟨a0,a1,a2,a3⟩:=nR ho;by_cases hi:i<4
   ·match i,hi with
    |0,_=>exact a0
    |1,_=>exact a1
    |2,_=>exact a2
    |3,_=>exact a3
   ·exact hok.w i (by have:=hok.few;omega)
  have hwf:Wf (bv σ.s σ.gone) 0 [] (fun _=>False):=h.wf.give h.ok.s.inv;obtain⟨g1,g2,_⟩:=iU σ.gone σ.s h.ok.s.inv;refine⟨⟨⟨g1,by show(bv σ.s σ.gone).n ≤128;rw[g2];exact h.ok.s.small⟩,hok.c,hok.few,hok.one,hok.w,hok.told⟩,hwf,fun _=>⟨rfl,hz⟩,fun hx=>(by cases hx),fun j c hj=> ?_,h.prev⟩;have hj':=hcore j c hj;refine⟨fun hon=> ?_,fun x hx=> ?_⟩
  ·rcases hj'.walk hon with hl|hl
   ·obtain⟨d,hd,hlv,ht⟩:=hl
    have hp:=dS ((hok.c c (List.mem_of_getElem? hj)).2.acc hon);exact .inl ⟨d,hd,hlv,(gE h.wf h.ok.s.inv hp d (by omega)).trans ht⟩
   ·rw[hz j] at hl;cases hl.1
  ·rcases hj'.line x hx with hl|hl
   ·have e:=pu h.wf h.ok.s.inv hl.inP
    exact .inl ⟨hl.inP,(eW e).trans hl.map,by show(bl (bv σ.s σ.gone) 0 _).e.used =D;rw[e];exact hl.used,fun hd=>by show(bl (bv σ.s σ.gone) 0 _).e.dirty =D;rw[e];exact hl.dirty hd⟩
   ·rw[hz j] at hl;cases hl.1
 ·rename_i ho
  refine⟨hok,h.wf,fun hx=>(by rw[show(σ.heed k).busy =σ.busy from rfl,hb] at hx;cases hx),fun _=> ?_,hcore,h.prev⟩;obtain⟨i,_,hi⟩:=overB_false (by simpa using ho);refine⟨i,?_,hi⟩;refine Decidable.byContradiction fun hn=> ?_;have hn:¬i< (σ.heed k).cs.length :=hn;rw[hok.w i (by omega)] at hi;cases hi
theorem lk(h:Safe σ P):Lk σ.s 0 (dn σ.s 0):=(ge h.wf).2.1
theorem findM_ok{s:Ms}{g:List Int}{X:Int→Prop}(hw:Wf s 0 g X){p:Int}(hf:bu s 0 p=0):bt s 0 p=C (bK s 0 p)∧c7 (bK s 0 p)∧de p:=by
 obtain⟨d,t,he,hl,hwe,hm,h3,ho⟩:=hw.found hf;exact⟨hm,(hw.self (gh hf) hm).2,gh hf⟩
theorem mapOk_ok{m:Mp}(h:c7 m):m.ok:=by
 have:=h.p0;have:=h.p1;have:=h.sp;have:=h.f0;have:=h.f1;have:=h.r0;have:=h.r7;refine⟨?_,?_,?_,?_⟩<;>unfold cW
 ·omega
 ·rcases h.size with ⟨a,_⟩|⟨a,_⟩|⟨a,_⟩<;>omega
 ·omega
 ·omega
theorem stale{P:List Mp}{s:Ms}{x:Ln}{m:Mp}(hL:Lk s 0 P)(hk:Kept s 0 x)(ho:a4 m x.m.page=D):dV x.m m=D∧af P x.m.page=C x.m:=
 ⟨by unfold dV;rw[ho];simp,(hL.same _ hk.inP).trans hk.map⟩
def prevOf(σ:Sc)(P:List Mp)(x:bk):List Mp:=if σ.busy=K∧(x.kind=2∨x.kind=3)∧(σ.change x).2.code=0 then dn σ.s 0 else P
theorem post_wait{n i:Nat}(h:i<n):fg n i=D:=by unfold fg;simp[h]
theorem change(h:Safe σ P)(x:bk)(hx:1≤x.kind∧x.kind≤3):Safe (σ.change x).1 (prevOf σ P x):=by
 cases hb:σ.busy with
 |true=>
  have e1:(σ.change x).1=σ:=by unfold Z;rw[if_pos hb]
  have e2:prevOf σ P x=P:=by unfold prevOf;rw[if_neg (by rw[hb];simp)]
  rw[e1,e2];exact h
 |false=>
  obtain⟨hg,hwt⟩:=h.quiet hb;have hwf:=h.wf;rw[hg] at hwf;have hL:=h.lk;have hLok:a6 (dn σ.s 0):=hL.ok;have hfew:=h.ok.few;have hone:=h.ok.one;by_cases h1:x.kind=1
  ·have e1:(σ.change x).1={σ with s:=dR σ.s 0 x.m}:=by unfold Z;rw[if_neg (by rw[hb];simp),if_pos h1]
   have e2:prevOf σ P x=P:=by unfold prevOf;rw[if_neg (by omega)]
   rw[e1,e2];obtain⟨w1,w2,w3,w4⟩:=oP hwf h.ok.s.inv h.ok.s.small x.m;refine⟨⟨⟨w2,by show(dR σ.s 0 x.m).n ≤128;rw[w3];exact h.ok.s.small⟩,h.ok.c,h.ok.few,h.ok.one,h.ok.w,h.ok.told⟩,by show Wf (dR σ.s 0 x.m) 0 σ.gone _;rw[hg];exact w1,fun _=>⟨hg,hwt⟩,fun hbb=>(by rw[show({σ with s:=dR σ.s 0 x.m}:Sc).busy =σ.busy from rfl,hb] at hbb;cases hbb),fun j c hj=> ?_,h.prev⟩;have hj':=h.core j c hj;refine⟨fun hon=> ?_,fun y hy=> ?_⟩
   ·have hp:=dS ((h.ok.c c (List.mem_of_getElem? hj)).2.acc hon)
    rcases hj'.walk hon with ⟨d,hd,hlv,ht⟩|hl
    ·exact .inl ⟨d,hd,hlv,tT hwf h.ok.s.inv h.ok.s.small x.m hp hd ht⟩
    ·rw[hwt j] at hl;cases hl.1
   ·rcases hj'.line y hy with hl|hl
    ·have e:=(w4 _ hl.inP).2.1 (by rw[hl.map];simp)
     exact .inl ⟨hl.inP,(eW e).trans hl.map,by show(bl (dR σ.s 0 x.m) 0 _).e.used =D;rw[e];exact hl.used,fun hd=>by show(bl (dR σ.s 0 x.m) 0 _).e.dirty =D;rw[e];exact hl.dirty hd⟩
    ·rw[hwt j] at hl;cases hl.1
  by_cases h2:x.kind=2
  ·by_cases hf:bu σ.s 0 x.m.page=0
   ·have e0:σ.change x=(σ.post (dm σ.s 0 x.m.page) (bK σ.s 0 x.m.page) (fy σ.s 0 x.m.page),.no 0):=by unfold Z;rw[if_neg (by rw[hb];simp),if_neg h1,if_pos h2,if_pos hf]
    have e2:prevOf σ P x=dn σ.s 0:=by unfold prevOf;rw[if_pos ⟨hb,.inl h2,by rw[e0];rfl⟩]
    rw[e0,e2];obtain⟨w1,w2,w3,w4,w5,w6⟩:=mX hwf h.ok.s.inv hf;have hgn:(fy σ.s 0 x.m.page).Nodup :=by
     have:=w1.nd;rw[List.append_nil] at this;exact(List.pairwise_reverse.1 this).imp fun h=>h.symm
    have hw':Wf (dm σ.s 0 x.m.page) 0 (fy σ.s 0 x.m.page) (fun _=>False):=w1.perm (fun t=>by simp) hgn;obtain⟨f1,f2,f3⟩:=findM_ok hwf hf;refine⟨⟨⟨w2,by show(dm σ.s 0 x.m.page).n ≤128;rw[w3];exact h.ok.s.small⟩,h.ok.c,hfew,hone,fun i hi=> ?_,mapOk_ok f2⟩,hw',fun hbb=>(by cases hbb),fun _=>⟨0,hone,post_wait hone⟩,fun j c hj=> ?_,hLok⟩
    ·show fg σ.cs.length i=K
     have hi:σ.cs.length≤i:=hi;unfold fg;simp;omega
    ·have hj':=h.core j c hj
     have hjl:j<σ.cs.length:=(b6.1 hj).1;refine⟨fun hon=> ?_,fun y hy=> ?_⟩
     ·have hp:=dS ((h.ok.c c (List.mem_of_getElem? hj)).2.acc hon)
      rcases hj'.walk hon with ⟨d,hd,hlv,ht⟩|hl
      ·rcases tS hwf h.ok.s.inv hf hp hd ht with ht'|ht'
       ·exact .inl ⟨d,hd,hlv,ht'⟩
       ·exact .inr ⟨post_wait hjl,ht'.1,ht'.2⟩
      ·rw[hwt j] at hl;cases hl.1
     ·rcases hj'.line y hy with hl|hl
      ·by_cases ho:a4 (bK σ.s 0 x.m.page) y.m.page=D
       ·obtain⟨s1,s2⟩:=stale hL hl ho
        exact .inr ⟨post_wait hjl,s1,s2⟩
       ·have e:=(w6 _ hl.inP).2 (by simpa using ho) (by rw[hl.map];simp)
        exact .inl ⟨hl.inP,(eW e).trans hl.map,by show(bl (dm σ.s 0 x.m.page) 0 _).e.used =D;rw[e];exact hl.used,fun hd=>by show(bl (dm σ.s 0 x.m.page) 0 _).e.dirty =D;rw[e];exact hl.dirty hd⟩
      ·rw[hwt j] at hl;cases hl.1
   ·have e0:σ.change x=(σ,.no (bu σ.s 0 x.m.page)):=by unfold Z;rw[if_neg (by rw[hb];simp),if_neg h1,if_pos h2,if_neg hf]
    have e2:prevOf σ P x=P:=by unfold prevOf;rw[if_neg (by rw[e0];exact fun hh=>hf hh.2.2)]
    rw[e0,e2];exact h
  ·have h3:x.kind=3:=by omega
   by_cases hf:iQ σ.s 0 x.m.page x.m.rights=0
   ·have e0:σ.change x=(σ.post (gX σ.s 0 x.m.page x.m.rights) (kU σ.s 0 x.m.page x.m.rights) [],.no 0):=by unfold Z;rw[if_neg (by rw[hb];simp),if_neg h1,if_neg h2,if_pos hf]
    have e2:prevOf σ P x=dn σ.s 0:=by unfold prevOf;rw[if_pos ⟨hb,.inr h3,by rw[e0];rfl⟩]
    rw[e0,e2];obtain⟨w1,w2,w3,w4,w5,w6⟩:=rV hwf h.ok.s.inv hf;have hf0:bu σ.s 0 x.m.page=0:=by
     unfold iQ at hf;split at hf
     ·cases hf
     ·exact hf
    have hr:0≤x.m.rights∧x.m.rights≤7:=by
     unfold iQ at hf;split at hf
     ·cases hf
     ·omega
    obtain⟨f1,f2,f3⟩:=findM_ok hwf hf0;have em:kU σ.s 0 x.m.page x.m.rights={bK σ.s 0 x.m.page with rights:=x.m.rights}:=by unfold kU;rw[if_pos hf]
    refine⟨⟨⟨w2,by show(gX σ.s 0 x.m.page x.m.rights).n ≤128;rw[w3];exact h.ok.s.small⟩,h.ok.c,hfew,hone,fun i hi=> ?_,?_⟩,w1,fun hbb=>(by cases hbb),fun _=>⟨0,hone,post_wait hone⟩,fun j c hj=> ?_,hLok⟩
    ·show fg σ.cs.length i=K
     have hi:σ.cs.length≤i:=hi;unfold fg;simp;omega
    ·show(kU σ.s 0 x.m.page x.m.rights).ok
     rw[em];have:=mapOk_ok f2;exact⟨this.1,this.2.1,this.2.2.1,by unfold cW;dsimp only;omega⟩
    ·have hj':=h.core j c hj
     have hjl:j<σ.cs.length:=(b6.1 hj).1;refine⟨fun hon=> ?_,fun y hy=> ?_⟩
     ·have hp:=dS ((h.ok.c c (List.mem_of_getElem? hj)).2.acc hon)
      rcases hj'.walk hon with ⟨d,hd,hlv,ht⟩|hl
      ·exact .inl ⟨d,hd,hlv,(wi hwf hf hp d (by omega)).trans ht⟩
      ·rw[hwt j] at hl;cases hl.1
     ·rcases hj'.line y hy with hl|hl
      ·by_cases ho:a4 (bK σ.s 0 x.m.page) y.m.page=D
       ·obtain⟨s1,s2⟩:=stale (m:=kU σ.s 0 x.m.page x.m.rights) hL hl (by rw[em];exact ho)
        exact .inr ⟨post_wait hjl,s1,s2⟩
       ·have e:=(w6 _ hl.inP).2 (by simpa using ho)
        exact .inl ⟨hl.inP,(eW e).trans hl.map,by show(bl (gX σ.s 0 x.m.page x.m.rights) 0 _).e.used =D;rw[e];exact hl.used,fun hd=>by show(bl (gX σ.s 0 x.m.page x.m.rights) 0 _).e.dirty =D;rw[e];exact hl.dirty hd⟩
      ·rw[hwt j] at hl;cases hl.1
   ·have e0:σ.change x=(σ,.no (iQ σ.s 0 x.m.page x.m.rights)):=by unfold Z;rw[if_neg (by rw[hb];simp),if_neg h1,if_neg h2,if_neg hf]
    have e2:prevOf σ P x=P:=by unfold prevOf;rw[if_neg (by rw[e0];exact fun hh=>hf hh.2.2)]
    rw[e0,e2];exact h
theorem prev_not{x:bk}(hx:¬(1≤x.kind∧x.kind≤3)):prevOf σ P x=P:=by unfold prevOf;rw[if_neg (by omega)]
theorem act(h:Safe σ P)(x:bk):Safe (σ.act x).1 (prevOf σ P x):=by
 unfold bP;split
 ·rename_i hx;exact h.change x hx
 rename_i hx;rw[prev_not hx];split;· exact h
 split;· exact h
 rename_i hc;have hk:x.core.toNat<σ.cs.length:=by omega
 split;· exact h.access hk x.a
 split;· exact h.walk hk
 split;· exact h.ack hk
 exact h.evict hk
end Safe
theorem Bk.find_iff{L:List Mp}(h:a6 L){q:Int}{m:Mp}:af L q=C m↔m∈L∧a4 m q=D:=by
 constructor
 ·exact cg
 ·rintro⟨hm,ho⟩
  obtain⟨k,hk,rfl⟩:=List.getElem_of_mem hm;exact(c9 h hk ho).2
section
variable {s:Ms} {r:Int} {gone:List Int} {X:Int→Prop} {L:List Mp}
theorem xS(hw:Wf s r gone (fun _=>False))(hi:s.Inv)(hn:s.n≤128)(hL:Lk s r L){x:Mp}(hc:cU s r x=0):Lk (dR s r x) r (bB L x)∧cd L x=0:=by
 have hac:cd L x=0:=by
  rcases uJ hw hL x with h|h
  ·rw[hc] at h;cases h.1
  ·rw[←h];exact hc
 refine⟨?_,hac⟩;unfold cd at hac;by_cases hk:bc x=0
 ·rw[if_neg (by simpa using hk)] at hac
  have hx:=fh hk;have hb:bG L x=K:=by
   cases hb:bG L x with
   |false=>rfl
   |true=>rw[hb,if_pos rfl] at hac;cases hac
  have hadd:bB L x=Bk.ins L x:=by unfold bB;rw[if_pos ⟨hk,hb⟩]
  have hok:a6 (Bk.ins L x):=hL.ok.ins hx hb;rw[hadd];obtain⟨_,_,_,w4⟩:=oP hw hi hn x;refine⟨hok,fun q hq=> ?_⟩;rw[(w4 q hq).1,←hL.same q hq];refine Option.ext fun m=> ?_;rw[Bk.find_iff hok,Bk.mem_ins];by_cases ho:a4 x q=D
  ·rw[if_pos ⟨hc,ho⟩]
   constructor
   ·rintro⟨rfl|hm,h2⟩
    ·rfl
    ·have:=rN (hL.ok.chk m hm) hx h2 ho
     rw[Bk.bad_false hb m hm] at this;cases this
   ·intro h
    injection h with h
    subst h;exact⟨.inl rfl,ho⟩
  ·rw[if_neg (fun h=>ho h.2),Bk.find_iff hL.ok]
   constructor
   ·rintro⟨rfl|hm,h2⟩
    ·exact absurd h2 ho
    ·exact⟨hm,h2⟩
   ·rintro⟨hm,h2⟩
    exact⟨.inr hm,h2⟩
 ·rw[if_pos hk] at hac
  exact absurd hac hk
theorem pw(hw:Wf s r gone (fun _=>False))(hL:Lk s r L){p:Int}(hf:bu s r p=0):de p∧cY p=D∧af L p=C (bK s r p)∧bK s r p∈L∧a4 (bK s r p) p=D:=by
 have hp:=gh hf;have hB:cY p=D:=by unfold cY;rw[decide_eq_true hp.1,decide_eq_true hp.2];rfl
 obtain⟨d,t,he,hl,hwe,hm,h3,ho⟩:=hw.found hf;have:=(hL.same p hp).trans hm;exact⟨hp,hB,this,cg this⟩
theorem xV(hw:Wf s r gone (fun _=>False))(hi:s.Inv)(hL:Lk s r L){p:Int}(hf:bu s r p=0):Lk (dm s r p) r (bf L p):=by
 obtain⟨hp,hB,h1,h2,h3⟩:=pw hw hL hf;have hd:bf L p=c8 L p:=by unfold bf;rw[if_pos hB]
 have hok:a6 (c8 L p):=hL.ok.del p;rw[hd];obtain⟨_,_,_,_,_,w6⟩:=mX hw hi hf;generalize bK s r p=M at*
 refine⟨hok,fun q hq=> ?_⟩;rw[(w6 q hq).1,←hL.same q hq];refine Option.ext fun m=> ?_;have one:∀m,m∈L→a4 m p=D→m=M:=fun m hm ho=>by
  have:=(Bk.find_iff hL.ok).2 ⟨hm,ho⟩;rw[h1] at this;injection this with this
  exact this.symm
 rw[Bk.find_iff hok];unfold c8;rw[List.mem_filter];by_cases ho:a4 M q=D
 ·rw[if_pos ho]
  constructor
  ·rintro⟨⟨hm,hn⟩,hq'⟩
   have e1:=(Bk.find_iff hL.ok).2 ⟨hm,hq'⟩;have e2:=(Bk.find_iff hL.ok).2 ⟨h2,ho⟩;rw[e1] at e2;injection e2 with e2
   subst e2;rw[h3] at hn;cases hn
  ·intro h;cases h
 ·rw[if_neg ho,Bk.find_iff hL.ok]
  constructor
  ·rintro⟨⟨hm,_⟩,hq'⟩;exact⟨hm,hq'⟩
  ·rintro⟨hm,hq'⟩
   refine⟨⟨hm,?_⟩,hq'⟩;cases hov:a4 m p with
   |false=>rfl
   |true=>
    rw[one m hm hov] at hq';exact absurd hq' ho
theorem zc(hw:Wf s r gone (fun _=>False))(hi:s.Inv)(hL:Lk s r L){p ri:Int}(hf:iQ s r p ri=0):Lk (gX s r p ri) r (bz L p ri):=by
 have hr:0≤ri∧ri≤7:=by
  unfold iQ at hf;split at hf
  ·cases hf
  ·omega
 have hf0:bu s r p=0:=by
  unfold iQ at hf;rw[if_neg (by omega)] at hf;exact hf
 obtain⟨hp,hB,h1,h2,h3⟩:=pw hw hL hf0;have hd:bz L p ri=cG L p ri:=by unfold bz;rw[if_pos (cw.2 ⟨hp.1,hp.2,hr.1,hr.2⟩)]
 have hok:a6 (cG L p ri):=hL.ok.prot p hr.1 hr.2;rw[hd];obtain⟨_,_,_,_,_,w6⟩:=rV hw hi hf;generalize bK s r p=M at*
 refine⟨hok,fun q hq=> ?_⟩;refine Option.ext fun m=> ?_;have one:∀m,m∈L→a4 m p=D→m=M:=fun m hm ho=>by
  have:=(Bk.find_iff hL.ok).2 ⟨hm,ho⟩;rw[h1] at this;injection this with this
  exact this.symm
 have oneq:a4 M q=D→∀m,m∈L→a4 m q=D→m=M:=fun hq' m hm ho=>by
  have e1:=(Bk.find_iff hL.ok).2 ⟨hm,ho⟩;have e2:=(Bk.find_iff hL.ok).2 ⟨h2,hq'⟩;rw[e1] at e2;injection e2
 rw[Bk.find_iff hok];unfold cG;rw[List.mem_map];by_cases ho:a4 M q=D
 ·rw[((w6 q hq).1 ho).2.1]
  constructor
  ·rintro⟨⟨y,hy,rfl⟩,hq'⟩
   have e:y=M:=by
    by_cases hyp:a4 y p=D
    ·exact one y hy hyp
    ·rw[if_neg hyp] at hq'
     exact oneq ho y hy hq'
   subst e;rw[if_pos h3]
  ·intro h
   injection h with h
   subst h;exact⟨⟨M,h2,by rw[if_pos h3]⟩,ho⟩
 ·have e:=(w6 q hq).2 (by simpa using ho)
  rw[eW e,←hL.same q hq,Bk.find_iff hL.ok];constructor
  ·rintro⟨⟨y,hy,rfl⟩,hq'⟩
   by_cases hyp:a4 y p=D
   ·rw[if_pos hyp,one y hy hyp] at hq'
    exact absurd hq' ho
   ·rw[if_neg hyp] at hq'⊢
    exact⟨hy,hq'⟩
  ·rintro⟨hm,hq'⟩
   have hn:¬a4 m p=D:=fun hov=>by
    rw[one m hm hov] at hq';exact ho hq'
   exact⟨⟨m,hm,by rw[if_neg hn]⟩,hq'⟩
end
theorem py:∀(n:Nat) (l:List Nat),l.Nodup→(∀k,k<n→k∈l)→n≤l.length
 |0,_,_,_=>Nat.zero_le _
 |n+1,l,nd,h=>by
  have hm:=h n (by omega);have h1:=py n (l.erase n) (nd.erase n) (fun k hk=>(List.Nodup.mem_erase_iff nd).2 ⟨by omega,h k (by omega)⟩);rw[List.length_erase_of_mem hm] at h1;have:=List.length_pos_of_mem hm;omega
section
variable {s:Ms} {gone:List Int} {X:Int→Prop}
theorem tX(hw:Wf s 0 gone X){t:Int}(h:rL s 0 t):0≤t∧t<s.n∧s.tk t.toNat=D:=by
 obtain⟨p,d,hp,hd,ht⟩:=h;exact hw.nat hp hd ht
theorem qH(hw:Wf s 0 gone X)(hi:s.Inv):(gY s 0).length +gone.length+s.frees.length=s.n:=by
 obtain⟨_,_,nd,hm⟩:=ge hw;have h0:∀t∈gY s 0,0≤t∧t<s.n∧s.tk t.toNat=D:=fun t ht=>tX hw ((hm t).1 ht);have hg:∀t∈gone,0≤t∧t<s.n∧s.tk t.toNat=D:=fun t ht=>by
  have a:=(hw.gz t ht).1;have b:s.tk t.toNat=D:=(hw.use _).2 (.inr (by rw[Int.toNat_of_nonneg a];exact ht));have:=hi.tkl _ b;have:=hi.le;exact⟨a,by omega,b⟩
 have inj:∀l:List Int,l.Nodup→(∀t∈l,0≤t)→(l.map Int.toNat).Nodup :=by
  intro l;induction l with
  |nil=>intro _ _;exact List.nodup_nil
  |cons x l ih=>
   intro nd h;rw[List.nodup_cons] at nd;rw[List.map_cons,List.nodup_cons];refine⟨fun hx=> ?_,ih nd.2 fun t ht=>h t (List.mem_cons_of_mem _ ht)⟩;obtain⟨y,hy,he⟩:=List.mem_map.1 hx;have h1:=h x (List.mem_cons_self ..);have h2:=h y (List.mem_cons_of_mem _ hy);have:y=x:=by omega
   exact nd.1 (this▸hy)
 have hnd:((gY s 0).map Int.toNat++(gone.map Int.toNat++s.frees)).Nodup :=by
  rw[List.nodup_append,List.nodup_append];refine⟨inj _ nd fun t ht=>(h0 t ht).1,⟨inj _ hw.nd fun t ht=>(hg t ht).1,Ms.frees_nodup hi,?_⟩,?_⟩
  ·intro a ha b hb
   obtain⟨t,ht,rfl⟩:=List.mem_map.1 ha;rintro rfl;have:=((b9 hi _).1 hb).2;rw[(hg t ht).2.2] at this;cases this
  ·intro a ha b hb
   obtain⟨t,ht,rfl⟩:=List.mem_map.1 ha;rintro rfl;rcases List.mem_append.1 hb with hb|hb
   ·obtain⟨u,hu,he⟩:=List.mem_map.1 hb
    have h1:=(h0 t ht).1;have h2:=(hg u hu).1;have:u=t:=by omega
    subst this;exact hw.gt u hu ((hm u).1 ht)
   ·have:=((b9 hi _).1 hb).2
    rw[(h0 t ht).2.2] at this;cases this
 have hall:∀k,k∈(gY s 0).map Int.toNat++(gone.map Int.toNat++s.frees)↔k<s.n:=by
  intro k;rw[List.mem_append,List.mem_append];constructor
  ·rintro(h|h|h)
   ·obtain⟨t,ht,rfl⟩:=List.mem_map.1 h
    have:=h0 t ht;omega
   ·obtain⟨t,ht,rfl⟩:=List.mem_map.1 h
    have:=hg t ht;omega
   ·exact((b9 hi _).1 h).1
  ·intro hk
   cases ht:s.tk k with
   |false=>exact .inr (.inr ((b9 hi _).2 ⟨hk,ht⟩))
   |true=>
    rcases(hw.use k).1 ht with h|h
    ·exact .inl (List.mem_map.2 ⟨k,(hm _).2 h,by simp⟩)
    ·exact .inr (.inl (List.mem_map.2 ⟨k,h,by simp⟩))
 have h1:=kS s.n _ hnd fun x hx=>(hall x).1 hx;have h2:=py s.n _ hnd fun k hk=>(hall k).2 hk;rw[Y,Y,List.length_map,List.length_map] at h1 h2;omega
end
theorem l6{n:Nat}(h:1≤n):(ca n).takeS ={n:=n,tk:=bT (fun _=>K) 0 D,wd:=fun a _=>if a=0 then 0 else 0,next:=1,back:=[]}:=by
 have ht:(ca n).top =C 0:=by
  show(if 0<n then C 0 else I)=C 0;rw[if_pos (by omega)]
 unfold Ms.takeS;rw[ht];rfl
theorem l7{n:Nat}(h:1≤n):Wf (ca n).takeS 0 [] (fun _=>False):=by
 rw[l6 h];generalize hs:({n:=n,tk:=bT (fun _=>K) 0 D,wd:=fun a _=>if a=0 then 0 else 0,next:=1,back:=[]}:Ms)=s;have hz:∀t i,av s t i=0:=fun t i=>by
  subst hs;show(if t.toNat=0 then(0:Int) else 0)=0;split<;>rfl
 have hn:s.n=n:=by subst hs;rfl
 have htk:∀k:Nat,s.tk k=D↔k=0:=fun k=>by
  subst hs;show bT (fun _=>K) 0 D k=D↔k=0;unfold bT;split<;>simp_all
 have hhas:s.has 0=D:=a7.2 ⟨by omega,by omega,(htk _).2 rfl⟩;have hno:∀p d,d≤3→bm s 0 p (d+1)=I:=by
  intro p d hd;cases hh:bm s 0 p d with
  |none=>exact bC hh _ (by omega)
  |some u=>exact dv hh (fO (by omega) (hz _ _))
 have h0:∀p d t,d≤3→bm s 0 p d=C t→d=0∧t=0:=by
  intro p d t hd ht;cases d with
  |zero=>injection ht with ht;exact⟨rfl,ht.symm⟩
  |succ d=>rw[hno p d (by omega)] at ht;cases ht
 refine⟨fun p hp=>⟨0,0,by omega,rfl,hhas,?_,fO (by omega) (hz _ _)⟩,fun p q d e t hp hq hd he h1 h2=> ?_,fun p d t hp hd ht=> ?_,fun k=> ?_,List.nodup_nil,fun g hg=>(by cases hg),fun g hg=>(by cases hg)⟩
 ·rw[hz];exact(eu (by omega)).1
 ·obtain⟨rfl,_⟩:=h0 p d t hd h1
  obtain⟨rfl,_⟩:=h0 q e t he h2;exact⟨rfl,wC hp hq⟩
 ·rw[hno p d (by omega)] at ht;cases ht
 ·rw[htk]
  constructor
  ·rintro rfl
   exact .inl ⟨0,0,⟨by omega,by omega⟩,by omega,rfl⟩
  ·rintro(⟨p,d,_,hd,ht⟩|h)
   ·have:=(h0 p d _ hd ht).2
    omega
   ·cases h
theorem tY{n:Nat}(h:1≤n):Lk (ca n).takeS 0 []:=by
 have hw:=l7 h;refine⟨Bk.Ok.nil,fun q hq=> ?_⟩;have hz:∀t i,av (ca n).takeS t i=0:=fun t i=>by
  rw[l6 h];show(if t.toNat=0 then(0:Int) else 0)=0;split<;>rfl
 obtain⟨d,t,he⟩:=hw.ends q hq;rw[be hq he,iZ (by omega) (hz _ _)];rfl
section
variable {s:Ms} {L:List Mp}
theorem drop_head{x:Mp}(h:a6 (x::L)):bf (x::L) x.page=L∧bD (x::L) x.page=0:=by
 have hx:=h.chk x (List.mem_cons_self ..);have hp:=hx.inP;have hB:cY x.page=D:=by unfold cY;rw[decide_eq_true hp.1,decide_eq_true hp.2];rfl
 have ho:a4 x x.page=D:=dX.2 ⟨by omega,by have:=hx.sp;omega⟩;unfold bf bD;rw[if_pos hB,if_pos hB];constructor
 ·unfold c8
  rw[List.filter_cons,ho];simp only[Bool.not_true,Bool.false_eq_true,if_false];refine List.filter_eq_self.2 fun y hy=> ?_;have h1:=(List.pairwise_cons.1 h.up).1 y hy;have:=hx.sp;have:a4 y x.page=K:=dy.2 (.inl (by omega));rw[this];rfl
 ·unfold af
  rw[List.find?_cons_of_pos (by exact ho)];rfl
end
section
variable {s s':Ms} {mk p:Int}
end
def ep(p:Int)(L:Nat):Int:=p / aw L*4+L
def ko(l:List Int)(k:Int):List Int:=if k∈l then l else l++[k]
def cm(p:Int):Nat→List Int→List Int
 |0,l=>l
 |n+1,l=>ko (cm p n l) (ep p (3 - n))
def kb(l:List Int)(m:Mp):List Int:=cm m.page (3 - m.size).toNat l
def dP(l:List Mp):List Int:=l.foldl kb []
theorem qI(l:List Mp)(m:Mp):dP (l++[m])=kb (dP l) m:=by unfold dP;rw[List.foldl_append];rfl
theorem qJ{l:List Int}(h:l.Nodup)(k:Int):(ko l k).Nodup :=by
 unfold ko;split
 ·exact h
 ·rename_i hk
  rw[List.nodup_append];exact⟨h,by simp,fun a ha b hb=>by simp at hb;rintro rfl;exact hk (hb▸ha)⟩
theorem tZ{l:List Int}{k x:Int}:x∈ko l k↔x∈l∨x=k:=by
 unfold ko;split
 ·rename_i hk
  constructor
  ·exact .inl
  ·rintro(h|rfl)
   ·exact h
   ·exact hk
 ·simp
theorem l8{p:Int}{l:List Int}(h:l.Nodup):∀n,(cm p n l).Nodup
 |0=>h
 |n+1=>qJ (l8 h n) _
theorem pz{p x:Int}{l:List Int}:∀n,x∈cm p n l↔x∈l∨∃i,i<n∧x=ep p (3 - i)
 |0=>by simp[cm]
 |n+1=>by
  show x∈ko _ _↔_;rw[tZ,pz n];constructor
  ·rintro((h|⟨i,hi,he⟩)|he)
   ·exact .inl h
   ·exact .inr ⟨i,by omega,he⟩
   ·exact .inr ⟨n,by omega,he⟩
  ·rintro(h|⟨i,hi,he⟩)
   ·exact .inl (.inl h)
   ·by_cases hn:i=n
    ·subst hn;exact .inr he
    ·exact .inl (.inr ⟨i,by omega,he⟩)
theorem pA(l:List Mp):(dP l).Nodup :=by
 have:∀(l:List Mp) (s:List Int),s.Nodup→(l.foldl kb s).Nodup :=by
  intro l;induction l with
  |nil=>intro s h;exact h
  |cons m l ih=>intro s h;exact ih _ (l8 h _)
 exact this l [] List.nodup_nil
theorem nI(l:List Mp)(x:Int):x∈dP l↔∃m∈l,∃i,i< (3 - m.size).toNat ∧x=ep m.page (3 - i):=by
 have:∀(l:List Mp) (s:List Int),x∈l.foldl kb s↔x∈s∨∃m∈l,∃i,i< (3 - m.size).toNat ∧x=ep m.page (3 - i):=by
  intro l;induction l with
  |nil=>intro s;simp
  |cons m l ih=>
   intro s;rw[List.foldl_cons,ih];unfold kb;rw[pz];constructor
   ·rintro((h|h)|⟨m',hm,h⟩)
    ·exact .inl h
    ·exact .inr ⟨m,List.mem_cons_self ..,h⟩
    ·exact .inr ⟨m',List.mem_cons_of_mem _ hm,h⟩
   ·rintro(h|⟨m',hm,h⟩)
    ·exact .inl (.inl h)
    ·rcases List.mem_cons.1 hm with rfl|hm
     ·exact .inl (.inr h)
     ·exact .inr ⟨m',hm,h⟩
 have:=this l [];simpa [dP] using this
theorem li{α:Type}[BEq α][LawfulBEq α]:∀(a b:List α),a.Nodup→(∀x,x∈a→x∈b)→a.length≤b.length
 | [],_,_,_=>Nat.zero_le _
 |x::a,b,nd,h=>by
  rw[List.nodup_cons] at nd;have hx:=h x (List.mem_cons_self ..);have h1:=li a (b.erase x) nd.2 (fun y hy=>(List.mem_erase_of_ne (by rintro rfl;exact nd.1 hy)).2 (h y (List.mem_cons_of_mem _ hy)));rw[List.length_erase_of_mem hx] at h1;have:=List.length_pos_of_mem hx;simp only[List.length_cons];omega
section
variable {s:Ms} {gone:List Int} {L:List Mp}
theorem ua(hw:Wf s 0 gone (fun _=>False)){q:Int}{m:Mp}(hq:de q)(hm:bt s 0 q=C m):∃(d:Nat) (t:Int),c5 s 0 q d t∧1≤d∧m.size=((3 - d:Nat):Int)∧m.page=q / aw (3 - d)*aw (3 - d):=by
 obtain⟨d,t,he⟩:=hw.ends q hq;rw[be hq he] at hm;split at hm
 ·rename_i hl
  injection hm with hm
  obtain⟨h3,_,_⟩:=he.map hq hl;have hef:aj (cN s q t (3 - d)) ((3 - d:Nat):Int)=0:=(fp he.dec).1;rw[ga hq hef hl (eK h3)] at hm;exact⟨d,t,he,by omega,by rw[←hm],by rw[←hm]⟩
 ·cases hm
theorem l9{q:Int}{a b:Nat}(h:a≤b):q / aw a*aw a / aw b=q / aw b:=by
 have e:(q / aw a*aw a) / aw a=q / aw a:=Int.mul_ediv_cancel _ (by have:=eF a;omega);exact iu h e
def ii(s:Ms)(k:Int):Int:=(bm s 0 (k / 4*aw (k % 4).toNat) (4 - (k % 4).toNat)).getD 0
theorem lj(p:Int){l:Nat}(h:l<4):ep p l / 4=p / aw l∧(ep p l % 4).toNat =l:=by
 unfold ep;generalize p / aw l=x;omega
theorem kO(hw:Wf s 0 gone (fun _=>False))(hL:Lk s 0 L){k:Int}(hk:k∈dP L):∃(p:Int) (l:Nat),de p∧1≤l∧l≤3∧k=ep p l∧bm s 0 p (4 - l)=C (ii s k):=by
 obtain⟨m,hm,i,hi,rfl⟩:=(nI L k).1 hk;have hp:=(hL.ok.chk m hm).inP;obtain⟨d,t,he,hd1,hsz,hpg⟩:=ua hw hp (hL.mem hm);have hle:=he.le;have hi':i<d:=by omega
 obtain⟨u,hu⟩:=dY he.tab (show i+1≤d by omega);refine⟨m.page,3 - i,hp,by omega,by omega,rfl,?_⟩;have e4:4 - (3 - i)=i+1:=by omega
 rw[e4,hu];obtain⟨k1,k2⟩:=lj m.page (show 3 - i<4 by omega);unfold ii;rw[k1,k2,e4];have h8:=eF (3 - i);have hq:de (m.page / aw (3 - i)*aw (3 - i)):=by
  have h1:=Int.ediv_mul_le m.page (show aw (3 - i)≠0 by omega);have h2:0≤m.page / aw (3 - i)*aw (3 - i):=Int.mul_nonneg (Int.ediv_nonneg hp.1 (by omega)) (by omega);exact⟨h2,by have:=hp.2;omega⟩
 have:=bS s 0 hq hp (i+1) (by omega) (by rw[show 4 - (i+1)=3 - i by omega];exact l9 (Nat.le_refl _));rw[this,hu];rfl
theorem pB(hw:Wf s 0 gone (fun _=>False))(hL:Lk s 0 L):(gY s 0).length =(dP L).length +1:=by
 obtain⟨_,_,nd,hm⟩:=ge hw;have h0:∀t d p,de p→d≤3→1≤d→bm s 0 p d=C t→t≠0:=by
  rintro t d p hp hd h1 ht rfl;have:=(hw.inj p p d 0 0 hp hp hd (by omega) ht rfl).1;omega
 have hin:∀k k',k∈dP L→k'∈dP L→ii s k=ii s k'→k=k':=by
  intro k k' hk hk' he;obtain⟨p,l,hp,hl1,hl3,rfl,ht⟩:=kO hw hL hk;obtain⟨p',l',hp',hl1',hl3',rfl,ht'⟩:=kO hw hL hk';rw[he] at ht;obtain⟨e1,e2⟩:=hw.inj p p' (4 - l) (4 - l') _ hp hp' (by omega) (by omega) ht ht';have:l=l':=by omega
  subst this;rw[show 4 - (4 - l)=l by omega] at e2;unfold ep;rw[e2]
 have hnd:(0::(dP L).map (ii s)).Nodup :=by
  rw[List.nodup_cons];constructor
  ·intro h
   obtain⟨k,hk,he⟩:=List.mem_map.1 h;obtain⟨p,l,hp,hl1,hl3,_,ht⟩:=kO hw hL hk;exact h0 _ (4 - l) p hp (by omega) (by omega) ht he
  ·have:∀l:List Int,l.Nodup→(∀k∈l,k∈dP L)→(l.map (ii s)).Nodup :=by
    intro l;induction l with
    |nil=>intro _ _;exact List.nodup_nil
    |cons x l ih=>
     intro nd h;rw[List.nodup_cons] at nd;rw[List.map_cons,List.nodup_cons];refine⟨fun hx=> ?_,ih nd.2 fun k hk=>h k (List.mem_cons_of_mem _ hk)⟩;obtain⟨y,hy,he⟩:=List.mem_map.1 hx;have:=hin y x (h y (List.mem_cons_of_mem _ hy)) (h x (List.mem_cons_self ..)) he;exact nd.1 (this▸hy)
   exact this _ (pA L) fun k hk=>hk
 have hmem:∀t,t∈0::(dP L).map (ii s)↔t∈gY s 0:=by
  intro t;rw[hm];constructor
  ·intro h
   rcases List.mem_cons.1 h with rfl|h
   ·exact⟨0,0,⟨by omega,by omega⟩,by omega,rfl⟩
   ·obtain⟨k,hk,rfl⟩:=List.mem_map.1 h
    obtain⟨p,l,hp,hl1,hl3,_,ht⟩:=kO hw hL hk;exact⟨p,4 - l,hp,by omega,ht⟩
  ·rintro⟨p,d,hp,hd,ht⟩
   cases d with
   |zero=>injection ht with ht;rw[←ht];exact List.mem_cons_self ..
   |succ d=>
    obtain⟨q,hq,hpre,hne⟩:=hw.some_map (2 - d) d (by omega) hp ht;have hqt:bm s 0 q (d+1)=C t:=by
     rw[←ht];exact bS s 0 hq hp (d+1) (by omega) (by rw[show 4 - (d+1)=3 - d by omega];exact hpre)
    cases hmq:bt s 0 q with
    |none=>exact absurd hmq hne
    |some m=>
     obtain⟨e,u,he,he1,hsz,hpg⟩:=ua hw hq hmq;have hle:=he.le;have hde:d+1≤e:=by
      rcases Nat.lt_or_ge e (d+1) with h|h
      ·have:=bC (dv he.tab he.no) (d+1) h
       rw[hqt] at this;cases this
      ·exact h
     have hmL:m∈L:=by
      have:=hL.same q hq;rw[hmq] at this;exact(cg this).1
     have hk:ep m.page (3 - d)∈dP L:=(nI L _).2 ⟨m,hmL,d,by omega,rfl⟩;refine List.mem_cons_of_mem _ (List.mem_map.2 ⟨_,hk,?_⟩);obtain⟨p',l,hp',hl1,hl3,hke,ht'⟩:=kO hw hL hk;obtain⟨a1,a2⟩:=lj m.page (show 3 - d<4 by omega);obtain⟨b1,b2⟩:=lj p' (show l<4 by omega);rw[hke] at a1 a2;rw[b2] at a2;subst a2;have e4:4 - (3 - d)=d+1:=by omega
     rw[e4] at ht';have hpp:p' / aw (3 - d)=q / aw (3 - d):=by
      rw[←b1,a1,hpg];exact l9 (by omega)
     have:=bS s 0 hp' hq (d+1) (by omega) (by rw[show 4 - (d+1)=3 - d by omega];exact hpp);rw[this,hqt] at ht';injection ht' with ht'
     exact ht'.symm
 have h1:=li _ _ hnd fun x hx=>(hmem x).1 hx;have h2:=li _ _ nd fun x hx=>(hmem x).2 hx;simp only[List.length_cons,List.length_map] at h1 h2;omega
end
section
variable {s:Ms} {L:List Mp} {n:Nat}
theorem su(x:Mp):bc x=0∨bc x=1∨bc x=2∨bc x=3:=by unfold bc;split<;>(try split)<;>(try split)<;>omega
end
def dB(L:List Mp)(x:bk)(c:Int):List Mp:=
 if c=0∧1≤x.kind∧x.kind≤3 then(if x.kind=1 then bB L x.m else if x.kind=2 then bf L x.m.page else bz L x.m.page x.m.rights) else L
theorem nJ{L:List Mp}{x:bk}{c:Int}(h:¬(1≤x.kind∧x.kind≤3)):dB L x c=L:=by unfold dB;rw[if_neg (fun hh=>h hh.2)]
theorem jT{L:List Mp}{x:bk}{c:Int}(h:c≠0):dB L x c=L:=by unfold dB;rw[if_neg (fun hh=>h hh.1)]
theorem pC{L:List Mp}(h:a6 L)(x:bk)(c:Int):a6 (dB L x c):=by
 unfold dB;split
 ·split
  ·exact h.add _
  ·split
   ·exact h.dropL _
   ·exact h.protL _ _
 ·exact h
theorem Lk.all{s:Ms}{L:List Mp}{g:List Int}{X:Int→Prop}(hw:Wf s 0 g X)(h:Lk s 0 L):dn s 0=L:=((ge hw).2.1).unique h
theorem Lk.same_maps{s s':Ms}{L:List Mp}(h:Lk s 0 L)(hm:∀q,de q→bt s' 0 q=bt s 0 q):Lk s' 0 L:=⟨h.ok,fun q hq=>(h.same q hq).trans (hm q hq).symm⟩
namespace Safe
variable {σ:Sc} {P:List Mp}
theorem book_walk(h:Safe σ P){k:Nat}(hk:k<σ.cs.length):dn (σ.walk k).1.s 0=dn σ.s 0:=by
 cases hon:(σ.core k).k.on with
 |false=>
  unfold cq;rw[step_off hon]
 |true=>
  have hs:=h.walk_stepIn hk hon;exact Lk.all hs.wf (h.lk.same_maps hs.mark.map)
theorem book_ack(h:Safe σ P)(k:Nat):dn (σ.ack k).1.s 0=dn σ.s 0:=by
 unfold cn;split
 ·rfl
 split
 ·show dn (bv σ.s σ.gone) 0=_
  exact Lk.all (h.wf.give h.ok.s.inv) (h.lk.same_maps fun q hq=>eW (pu h.wf h.ok.s.inv hq))
 ·rfl
theorem book_change(h:Safe σ P)(x:bk)(hx:1≤x.kind∧x.kind≤3):dn (σ.change x).1.s 0=dB (dn σ.s 0) x (σ.change x).2.code:=by
 cases hb:σ.busy with
 |true=>
  have e:σ.change x=(σ,.no 8):=by unfold Z;rw[if_pos hb]
  rw[e,jT (by show(8:Int)≠0;decide)]
 |false=>
  obtain⟨hg,_⟩:=h.quiet hb;have hwf:=h.wf;rw[hg] at hwf;by_cases h1:x.kind=1
  ·have e:σ.change x=({σ with s:=dR σ.s 0 x.m},⟨cU σ.s 0 x.m,K,An.zero,decide (cU σ.s 0 x.m=0)⟩):=by unfold Z;rw[if_neg (by rw[hb];simp),if_pos h1]
   rw[e];show dn (dR σ.s 0 x.m) 0=dB _ x (cU σ.s 0 x.m);by_cases hc:cU σ.s 0 x.m=0
   ·have:dB (dn σ.s 0) x (cU σ.s 0 x.m)=bB (dn σ.s 0) x.m:=by unfold dB;rw[if_pos ⟨hc,hx⟩,if_pos h1]
    rw[this];exact Lk.all (oP hwf h.ok.s.inv h.ok.s.small x.m).1 (xS hwf h.ok.s.inv h.ok.s.small h.lk hc).1
   ·rw[jT hc]
    have:dR σ.s 0 x.m=σ.s:=by unfold dR;rw[if_neg hc]
    rw[this]
  by_cases h2:x.kind=2
  ·by_cases hf:bu σ.s 0 x.m.page=0
   ·have e:σ.change x=(σ.post (dm σ.s 0 x.m.page) (bK σ.s 0 x.m.page) (fy σ.s 0 x.m.page),.no 0):=by unfold Z;rw[if_neg (by rw[hb];simp),if_neg h1,if_pos h2,if_pos hf]
    rw[e];show dn (dm σ.s 0 x.m.page) 0=dB _ x 0;have:dB (dn σ.s 0) x 0=bf (dn σ.s 0) x.m.page:=by unfold dB;rw[if_pos ⟨rfl,hx⟩,if_neg h1,if_pos h2]
    rw[this];exact Lk.all (mX hwf h.ok.s.inv hf).1 (xV hwf h.ok.s.inv h.lk hf)
   ·have e:σ.change x=(σ,.no (bu σ.s 0 x.m.page)):=by unfold Z;rw[if_neg (by rw[hb];simp),if_neg h1,if_pos h2,if_neg hf]
    rw[e];exact(jT hf).symm
  ·have h3:x.kind=3:=by omega
   by_cases hf:iQ σ.s 0 x.m.page x.m.rights=0
   ·have e:σ.change x=(σ.post (gX σ.s 0 x.m.page x.m.rights) (kU σ.s 0 x.m.page x.m.rights) [],.no 0):=by unfold Z;rw[if_neg (by rw[hb];simp),if_neg h1,if_neg h2,if_pos hf]
    rw[e];show dn (gX σ.s 0 x.m.page x.m.rights) 0=dB _ x 0;have:dB (dn σ.s 0) x 0=bz (dn σ.s 0) x.m.page x.m.rights:=by unfold dB;rw[if_pos ⟨rfl,hx⟩,if_neg h1,if_neg h2]
    rw[this];exact Lk.all (rV hwf h.ok.s.inv hf).1 (zc hwf h.ok.s.inv h.lk hf)
   ·have e:σ.change x=(σ,.no (iQ σ.s 0 x.m.page x.m.rights)):=by unfold Z;rw[if_neg (by rw[hb];simp),if_neg h1,if_neg h2,if_neg hf]
    rw[e];exact(jT hf).symm
theorem book_act(h:Safe σ P)(x:bk):dn (σ.act x).1.s 0=dB (dn σ.s 0) x (σ.act x).2.code:=by
 unfold bP;split
 ·rename_i hx;exact h.book_change x hx
 rename_i hx;rw[nJ hx];split;· rfl
 split;· rfl
 rename_i hc;have hk:x.core.toNat<σ.cs.length:=by omega
 split;· rfl
 split;· exact h.book_walk hk
 split;· exact h.book_ack _
 unfold bL;split<;>rfl
theorem n_act(h:Safe σ P)(x:bk):(σ.act x).1.s.n=σ.s.n∧(σ.act x).1.cs.length=σ.cs.length:=by
 have hch:(σ.change x).1.s.n=σ.s.n∧(σ.change x).1.cs.length=σ.cs.length:=by
  cases hb:σ.busy with
  |true=>have e:(σ.change x).1=σ:=by unfold Z;rw[if_pos hb]
         rw[e];exact⟨rfl,rfl⟩
  |false=>
   obtain⟨hg,_⟩:=h.quiet hb;have hwf:=h.wf;rw[hg] at hwf;unfold Z;rw[if_neg (by rw[hb];simp)];split
   ·exact⟨(oP hwf h.ok.s.inv h.ok.s.small x.m).2.2.1,rfl⟩
   split
   ·split
    ·rename_i hf;exact⟨(mX hwf h.ok.s.inv hf).2.2.1,rfl⟩
    ·exact⟨rfl,rfl⟩
   ·split
    ·rename_i hf;exact⟨(rV hwf h.ok.s.inv hf).2.2.1,rfl⟩
    ·exact⟨rfl,rfl⟩
 unfold bP;split;· exact hch
 split;· exact⟨rfl,rfl⟩
 split;· exact⟨rfl,rfl⟩
 rename_i hc;have hk:x.core.toNat<σ.cs.length:=by omega
 split;· exact⟨rfl,bi _ _ _⟩
 split
 ·refine⟨?_,bi _ _ _⟩
  cases hon:(σ.core x.core.toNat).k.on with
  |false=>unfold cq;rw[step_off hon]
  |true=>exact(h.walk_stepIn hk hon).mark.n
 split
 ·unfold cn
  split;· exact⟨rfl,rfl⟩
  split
  ·exact⟨(iU σ.gone σ.s h.ok.s.inv).2.1,List.length_set ..⟩
  ·exact⟨rfl,List.length_set ..⟩
 ·unfold bL
  split
  ·exact⟨rfl,rfl⟩
  ·exact⟨rfl,bi _ _ _⟩
theorem new{cores n:Nat}(h1:1≤cores)(h4:cores≤4)(hn:1≤n)(hn2:n≤128):Safe (cc cores n) []∧(cc cores n).s.n =n∧(cc cores n).cs.length =cores:=by
 have hwf:=l7 hn;have e:=l6 hn;refine⟨⟨⟨⟨?_,?_⟩,fun c hc=> ?_,?_,?_,fun _ _=>rfl,Sc.mp_ok_zero⟩,hwf,fun _=>⟨rfl,fun _=>rfl⟩,fun hx=>(by cases hx),fun k c hc=> ?_,Bk.Ok.nil⟩,?_,?_⟩
 ·exact(Ms.Ok.new hn2).takeS.inv
 ·show((ca n).takeS).n ≤128
  rw[e];exact hn2
 ·rw[List.eq_of_mem_replicate hc]
  exact⟨Tl.Ok.nil,Ck.Ok.zero⟩
 ·show(List.replicate cores Cr.zero).length ≤4
  rw[List.length_replicate];exact h4
 ·show 1≤(List.replicate cores Cr.zero).length
  rw[List.length_replicate];exact h1
 ·have hm:=List.mem_of_getElem? hc
  rw[List.eq_of_mem_replicate hm];exact⟨fun hx=>(by cases hx),fun x hx=>(by cases hx)⟩
 ·show((ca n).takeS).n =n
  rw[e]
 ·show(List.replicate cores Cr.zero).length =cores
  rw[List.length_replicate]
theorem book_new{cores n:Nat}(hn:1≤n):dn (cc cores n).s 0=[]:=Lk.all (l7 hn) (tY hn)
theorem counts(h:Safe σ P):(gY σ.s 0).length +σ.gone.length+σ.s.frees.length=σ.s.n∧(gY σ.s 0).length =(dP (dn σ.s 0)).length +1∧(gY σ.s 0).Nodup :=
 ⟨qH h.wf h.ok.s.inv,pB h.wf h.lk,(ge h.wf).2.2.1⟩
theorem way_zero(h:Safe σ P)(p:Int):(bl σ.s 0 p).code =0∨(bl σ.s 0 p).code =1:=by
 by_cases hp:de p
 ·exact .inl (jL h.wf hp).1
 ·exact .inr (pZ hp)
theorem find_few(h:Safe σ P)(p:Int):bu σ.s 0 p=0∨bu σ.s 0 p=1∨bu σ.s 0 p=5:=by
 unfold bu;rcases h.way_zero p with e|e<;>rw[e]
 ·rw[if_neg (by decide)]
  split
  ·exact .inr (.inr rfl)
  ·exact .inl rfl
 ·rw[if_pos (by decide)]
  exact .inr (.inl rfl)
theorem change_few(h:Safe σ P)(x:bk):(σ.change x).2.code≠12∧(σ.change x).2.fin=K∧(σ.change x).2.an=An.zero:=by
 unfold Z;split;· exact⟨by show(8:Int)≠12;decide,rfl,rfl⟩
 split
 ·refine⟨?_,rfl,rfl⟩
  show cU σ.s 0 x.m≠12;unfold cU;have hc:=su x.m;split;· omega
  split
  ·rcases h.way_zero x.m.page with e|e<;>rw[e]<;>decide
  split;· decide
  split<;>decide
 split
 ·split
  ·exact⟨by show(0:Int)≠12;decide,rfl,rfl⟩
  ·refine⟨?_,rfl,rfl⟩
   show bu σ.s 0 x.m.page≠12;rcases h.find_few x.m.page with e|e|e<;>rw[e]<;>decide
 ·split
  ·exact⟨by show(0:Int)≠12;decide,rfl,rfl⟩
  ·refine⟨?_,rfl,rfl⟩
   show iQ σ.s 0 x.m.page x.m.rights≠12;unfold iQ;split
   ·decide
   ·rcases h.find_few x.m.page with e|e|e<;>rw[e]<;>decide
end Safe
def sv(σ:Sc)(x:bk):Ac:=if x.kind=4 then x.a else σ.acc x.core
namespace Safe
variable {σ:Sc} {P:List Mp}
end Safe
theorem kP(L:List Mp)(a:Ac):bb L a=qF (af L a.page) a:=by
 unfold bb qF;cases af L a.page<;>rfl
def dQ(H:List (List Mp))(x:bk)(e:Ev):List (List Mp):=if e.code=0∧1≤x.kind∧x.kind≤3 then H++[dB (H.getLastD []) x 0] else H
def ft(f:Nat)(H:List (List Mp))(e:Ev):Nat:=if e.back=D then H.length - 1 else f
def uc(H:List (List Mp))(i:Nat)(a:Ac)(r:An):Bool:=(H.drop i).any fun L=>decide (bb L a=r)
structure Hist (σ:Sc) (P:List Mp) (H:List (List Mp)) (f:Nat):Prop where
 last:H.getLast?=C (dn σ.s 0)
 ok:∀L∈H,a6 L
 quiet:σ.busy=K→f+1=H.length
 busy:σ.busy=D→f+2=H.length∧H[f]? =C P
theorem oC(σ:Sc)(x:bk)(hx:1≤x.kind∧x.kind≤3):
  ((σ.change x).2.code≠0∧(σ.change x).2.back=K∧(σ.change x).1.busy=σ.busy)∨
  ((σ.change x).2.code=0∧(σ.change x).2.back=D∧(σ.change x).1.busy=K∧σ.busy=K)∨
  ((σ.change x).2.code=0∧(σ.change x).2.back=K∧(σ.change x).1.busy=D∧σ.busy=K∧(x.kind=2∨x.kind=3)):=by
 unfold Z;by_cases hb:σ.busy=D
 ·rw[if_pos hb]
  exact .inl ⟨by show(8:Int)≠0;decide,rfl,rfl⟩
 have hb':σ.busy=K:=by simpa using hb
 rw[if_neg hb];by_cases h1:x.kind=1
 ·rw[if_pos h1]
  by_cases hc:cU σ.s 0 x.m=0
  ·exact .inr (.inl ⟨hc,decide_eq_true hc,hb',hb'⟩)
  ·exact .inl ⟨hc,decide_eq_false hc,rfl⟩
 rw[if_neg h1];by_cases h2:x.kind=2
 ·rw[if_pos h2]
  by_cases hc:bu σ.s 0 x.m.page=0
  ·rw[if_pos hc]
   exact .inr (.inr ⟨rfl,rfl,rfl,hb',.inl h2⟩)
  ·rw[if_neg hc]
   exact .inl ⟨hc,rfl,rfl⟩
 rw[if_neg h2];by_cases hc:iQ σ.s 0 x.m.page x.m.rights=0
 ·rw[if_pos hc]
  exact .inr (.inr ⟨rfl,rfl,rfl,hb',.inr (by omega)⟩)
 ·rw[if_neg hc]
  exact .inl ⟨hc,rfl,rfl⟩
theorem qK{σ:Sc}{x:bk}(hx:1≤x.kind∧x.kind≤3):σ.act x=σ.change x:=by unfold bP;rw[if_pos hx]
theorem sw{σ:Sc}{x:bk}(hx:¬(1≤x.kind∧x.kind≤3)):((σ.act x).2.back=K∧(σ.act x).1.busy=σ.busy)∨((σ.act x).2.back=D∧(σ.act x).1.busy=K):=by
 unfold bP;rw[if_neg hx];split;· exact .inl ⟨rfl,rfl⟩
 split;· exact .inl ⟨rfl,rfl⟩
 split;· exact .inl ⟨rfl,rfl⟩
 split;· exact .inl ⟨rfl,rfl⟩
 split
 ·unfold cn
  split;· exact .inl ⟨rfl,rfl⟩
  split
  ·exact .inr ⟨rfl,rfl⟩
  ·exact .inl ⟨rfl,rfl⟩
 ·unfold bL
  split<;>exact .inl ⟨rfl,rfl⟩
section
variable {σ:Sc} {P:List Mp} {H:List (List Mp)} {f:Nat}
theorem Hist.ne(hh:Hist σ P H f):1≤H.length:=by
 have:=hh.last;cases H with
 |nil=>cases this
 |cons=>simp
theorem Hist.lastD(hh:Hist σ P H f):H.getLastD []=dn σ.s 0:=by
 rw[List.getLastD_eq_getLast?,hh.last];rfl
theorem Hist.le(hh:Hist σ P H f):f+1≤H.length:=by
 cases hb:σ.busy with
 |false=>exact Nat.le_of_eq (hh.quiet hb)
 |true=>have:=(hh.busy hb).1;omega
theorem Hist.act(h:Safe σ P)(hh:Hist σ P H f)(x:bk):Hist (σ.act x).1 (Safe.prevOf σ P x) (dQ H x (σ.act x).2) (ft f (dQ H x (σ.act x).2) (σ.act x).2):=by
 have hb:=h.book_act x;have hl:=hh.lastD;have hne:=hh.ne;have hlast:(dQ H x (σ.act x).2).getLast? =C (dn (σ.act x).1.s 0):=by
  rw[hb];unfold dQ;by_cases hc:(σ.act x).2.code=0∧1≤x.kind∧x.kind≤3
  ·rw[if_pos hc,hl,hc.1];simp
  ·rw[if_neg hc,hh.last];unfold dB;rw[if_neg hc]
 have hok:∀L∈dQ H x (σ.act x).2,a6 L:=by
  unfold dQ;intro L hL;split at hL
  ·rcases List.mem_append.1 hL with hL|hL
   ·exact hh.ok L hL
   ·simp at hL
    rw[hL,←List.getLastD_eq_getLast?,hl];exact pC h.lk.ok _ _
  ·exact hh.ok L hL
 by_cases hx:1≤x.kind∧x.kind≤3
 ·have e:=qK (σ:=σ) hx
  have hpv:Safe.prevOf σ P x=if σ.busy=K∧(x.kind=2∨x.kind=3)∧(σ.change x).2.code=0 then dn σ.s 0 else P:=rfl
  rw[e] at hlast hok⊢;rcases oC σ x hx with ⟨c0,c1,c2⟩|⟨c0,c1,c2,c3⟩|⟨c0,c1,c2,c3,c4⟩
  ·have e1:dQ H x (σ.change x).2=H:=by unfold dQ;rw[if_neg (fun hc=>c0 hc.1)]
   have e2:Safe.prevOf σ P x=P:=by rw[hpv,if_neg (fun hc=>c0 hc.2.2)]
   rw[e1] at hlast hok⊢;rw[e2,show ft f H (σ.change x).2=f by unfold ft;rw[c1];rfl];exact⟨hlast,hok,fun hq=>hh.quiet (c2▸hq),fun hq=>hh.busy (c2▸hq)⟩
  ·have e1:dQ H x (σ.change x).2=H++[dB (H.getLastD []) x 0]:=by unfold dQ;rw[if_pos ⟨c0,hx⟩]
   refine⟨hlast,hok,fun _=> ?_,fun hq=>by rw[c2] at hq;cases hq⟩;unfold ft;rw[if_pos c1,e1];simp
  ·have e1:dQ H x (σ.change x).2=H++[dB (H.getLastD []) x 0]:=by unfold dQ;rw[if_pos ⟨c0,hx⟩]
   have e2:Safe.prevOf σ P x=dn σ.s 0:=by rw[hpv,if_pos ⟨c3,c4,c0⟩]
   have hq:=hh.quiet c3;refine⟨hlast,hok,fun hq=>(by rw[c2] at hq;cases hq),fun _=> ?_⟩;rw[e1,e2,show∀H',ft f H' (σ.change x).2=f by intro H';unfold ft;rw[c1];rfl];refine⟨by simp;omega,?_⟩;rw[List.getElem?_append_left (by omega)];have:=hh.last;rw[List.getLast?_eq_getElem?] at this;rw[←this];congr 1
   omega
 ·have e1:dQ H x (σ.act x).2=H:=by unfold dQ;rw[if_neg (fun hc=>hx hc.2)]
  rw[e1] at hlast hok⊢;rw[Safe.prev_not hx];rcases sw (σ:=σ) hx with ⟨c1,c2⟩|⟨c1,c2⟩
  ·rw[show ft f H (σ.act x).2=f by unfold ft;rw[c1];rfl]
   exact⟨hlast,hok,fun hq=>hh.quiet (c2▸hq),fun hq=>hh.busy (c2▸hq)⟩
  ·refine⟨hlast,hok,fun _=> ?_,fun hq=>by rw[c2] at hq;cases hq⟩
   unfold ft;rw[if_pos c1];omega
theorem Hist.mono(_:Safe σ P)(hh:Hist σ P H f)(x:bk):f≤ft f (dQ H x (σ.act x).2) (σ.act x).2:=by
 have:=hh.le;unfold ft;split
 ·unfold dQ
  split
  ·simp;omega
  ·omega
 ·omega
theorem Safe.fin_right(h:Safe σ P)(x:bk)(hf:(σ.act x).2.fin=D):
  (x.kind=4∨x.kind=5)∧0≤x.core∧x.core<σ.cs.length∧(σ.act x).2.code=0∧(σ.act x).2.back=K∧(x.kind=5→σ.on x.core=D)∧
   (bb (dn σ.s 0) (sv σ x)=(σ.act x).2.an∨(x.kind=4∧σ.busy=D∧bb P (sv σ x)=(σ.act x).2.an)):=by
 unfold sv;unfold bP at hf⊢;split at hf
 ·rw[(h.change_few x).2.1] at hf
  cases hf
 rename_i h13;rw[if_neg h13];split at hf;· cases hf
 rename_i h17;rw[if_neg h17];split at hf;· cases hf
 rename_i hc;rw[if_neg hc];have hk:x.core.toNat<σ.cs.length:=by omega
 split at hf
 ·rename_i h4
  rw[if_pos h4,if_pos h4];have hi:=h.core _ _ (at_core hk);unfold cX at hf⊢;dsimp only at hf⊢;unfold ce at hf⊢;split at hf;· cases hf
  rename_i hca;rw[if_neg hca];split at hf;· cases hf
  rename_i hon;rw[if_neg hon];have hp:=dS (a:=x.a) (by omega);cases hh:ja (σ.core x.core.toNat).l x.a with
  |none=>rw[hh] at hf;cases hf
  |some r=>
   dsimp only;refine⟨.inl h4,by omega,by omega,rfl,rfl,fun h5=>by omega,?_⟩;unfold ja at hh;cases hfi:Tl.find (σ.core x.core.toNat).l x.a.page with
   |none=>rw[hfi] at hh;cases hh
   |some y=>
    rw[hfi] at hh;dsimp only at hh;split at hh
    ·injection hh with hh
     have hmem:y∈(σ.core x.core.toNat).l :=List.mem_of_find?_eq_some hfi;have hov:a4 y.m x.a.page=D:=by simpa using List.find?_some hfi
     rcases hi.line y hmem with hl|⟨hw,_,hl⟩
     ·left
      rw[kP,h.lk.same _ hp,Wf.overMap h.wf hl.inP hp hl.map hov h.wf];exact hh
     ·right
      refine⟨h4,?_,?_⟩
      ·cases hb:σ.busy with
       |true=>rfl
       |false=>rw[(h.quiet hb).2] at hw;cases hw
      ·rw[kP,(Bk.find_iff h.prev).2 ⟨((Bk.find_iff h.prev).1 hl).1,hov⟩]
       exact hh
    ·cases hh
 rename_i h4;rw[if_neg h4,if_neg h4];split at hf
 ·rename_i h5
  rw[if_pos h5];cases hon:(σ.core x.core.toNat).k.on with
  |false=>
   unfold cq at hf;rw[step_off hon] at hf;cases hf
  |true=>
   have hs:=h.walk_stepIn hk hon;have hon':σ.on x.core=D:=by
    unfold Sc.on;rw[decide_eq_true (by omega),decide_eq_true (by omega),hon];rfl
   have ea:σ.acc x.core=(σ.core x.core.toNat).k.a :=by unfold Sc.acc;rw[if_pos hon']
   have hp:=dS ((b4 h.ok x.core.toNat).2.acc hon);rw[ea];refine⟨.inr h5,by omega,by omega,hs.code,rfl,fun _=>hon',.inl ?_⟩;rcases hs.fin with he|he
   ·rw[kP,h.lk.same _ hp]
    exact he.an.symm
   ·have:(aL σ.s 0 (σ.core x.core.toNat).k).r.fin =D:=hf
    rw[he.z] at this;cases this
 rename_i h5;split at hf
 ·exfalso
  unfold cn at hf;split at hf;· cases hf
  split at hf<;>cases hf
 ·exfalso
  unfold bL at hf;split at hf<;>cases hf
theorem ud{i j:Nat}{L:List Mp}{a:Ac}{r:An}(hj:H[j]? =C L)(hi:i≤j)(ha:bb L a=r):uc H i a r=D:=by
 unfold uc;refine List.any_eq_true.2 ⟨L,?_,decide_eq_true ha⟩;refine List.mem_of_getElem? (i:=j - i) ?_;rw[List.getElem?_drop,show i+(j - i)=j by omega];exact hj
theorem Hist.right(h:Safe σ P)(hh:Hist σ P H f)(x:bk)(hf:(σ.act x).2.fin=D){i:Nat}(hi:i≤f):uc H i (sv σ x) (σ.act x).2.an=D:=by
 obtain⟨_,_,_,_,_,_,hr⟩:=h.fin_right x hf;have hle:=hh.le;rcases hr with hr|⟨k4,hb,hr⟩
 ·refine ud (j:=H.length - 1) ?_ (by omega) hr
  have:=hh.last;rw[List.getLast?_eq_getElem?] at this;exact this
 ·exact ud (hh.busy hb).2 hi hr
end
structure Wc where
 σ:Sc
 H:List (List Mp)
 f:Nat
 since:List Int
theorem xW{σ:Sc}{x:bk}(h:4≤x.kind)(hc:(σ.act x).2.code=0):0≤x.core∧x.core<σ.cs.length:=by
 unfold bP at hc;rw[if_neg (by omega)] at hc;split at hc
 ·exact absurd hc (by show(2:Int)≠0;decide)
 split at hc
 ·exact absurd hc (by show(1:Int)≠0;decide)
 ·omega
namespace Wc
def new(cores n:Nat):Wc:=⟨cc cores n,[[]],0,List.replicate cores 0⟩
def sinceN(W:Wc)(x:bk)(e:Ev):List Int:=if e.code=0∧x.kind=4 then W.since.set x.core.toNat W.f else W.since
def act(W:Wc)(x:bk):Wc×Ev:=(⟨(W.σ.act x).1,dQ W.H x (W.σ.act x).2,ft W.f (dQ W.H x (W.σ.act x).2) (W.σ.act x).2,W.sinceN x (W.σ.act x).2⟩,(W.σ.act x).2)
structure Ok (W:Wc) (P:List Mp):Prop where
 safe:Safe W.σ P
 hist:Hist W.σ P W.H W.f
 len:W.since.length=W.σ.cs.length
 le:∀i∈W.since,0≤i∧i≤W.f
theorem Ok.new{cores n:Nat}(h1:1≤cores)(h4:cores≤4)(hn:1≤n)(hn2:n≤128):Ok (Wc.new cores n) []:=by
 obtain⟨a,_,c⟩:=Safe.new h1 h4 hn hn2;refine⟨a,⟨?_,fun L hL=> ?_,fun _=>rfl,fun hb=>(by cases hb)⟩,?_,fun i hi=> ?_⟩
 ·show C []=C (dn (cc cores n).s 0)
  rw[Safe.book_new hn]
 ·have:L=[]:=by simpa [Wc.new] using hL
  rw[this];exact a.prev
 ·show(List.replicate cores (0:Int)).length =(cc cores n).cs.length
  rw[c,List.length_replicate]
 ·have:i=0:=by
   have:i∈List.replicate cores (0:Int):=hi;exact(List.mem_replicate.1 this).2
  rw[this];exact⟨Int.le_refl 0,Int.natCast_nonneg _⟩
theorem Ok.act{W:Wc}{P:List Mp}(h:W.Ok P)(x:bk):(W.act x).1.Ok (Safe.prevOf W.σ P x):=by
 refine⟨h.safe.act x,h.hist.act h.safe x,?_,fun i hi=> ?_⟩
 ·show(W.sinceN x (W.σ.act x).2).length =(W.σ.act x).1.cs.length
  rw[(h.safe.n_act x).2,←h.len];unfold sinceN;split
  ·rw[List.length_set]
  ·rfl
 ·have hm:=h.hist.mono h.safe x
  have hi:i∈W.sinceN x (W.σ.act x).2:=hi;show 0≤i∧i≤((ft W.f (dQ W.H x (W.σ.act x).2) (W.σ.act x).2:Nat):Int);unfold sinceN at hi;split at hi
  ·rcases List.mem_or_eq_of_mem_set hi with hi|hi
   ·have:=h.le i hi;omega
   ·omega
  ·have:=h.le i hi;omega
theorem hist_len(W:Wc)(x:bk):(W.act x).1.H.length≤W.H.length+1:=by
 show(dQ W.H x (W.σ.act x).2).length ≤_;unfold dQ;split
 ·simp
 ·omega
theorem hist_same{H:List (List Mp)}{x:bk}{e:Ev}(h:¬(1≤x.kind∧x.kind≤3)):dQ H x e=H:=by unfold dQ;rw[if_neg (fun hc=>h hc.2)]
theorem hist_bad{H:List (List Mp)}{x:bk}{e:Ev}(h:e.code≠0):dQ H x e=H:=by unfold dQ;rw[if_neg (fun hc=>h hc.1)]
def from_(W:Wc)(x:bk):Int:=(W.sinceN x (W.σ.act x).2).getD x.core.toNat 0
theorem Ok.right{W:Wc}{P:List Mp}(h:W.Ok P)(x:bk)(hf:(W.σ.act x).2.fin=D):
  0≤W.from_ x∧W.from_ x≤W.f∧uc W.H (W.from_ x).toNat (sv W.σ x) (W.σ.act x).2.an=D:=by
 obtain⟨h45,hc0,hcl,he,_,_,_⟩:=h.safe.fin_right x hf;have hk:x.core.toNat<W.since.length:=by rw[h.len];omega
 unfold from_;by_cases h4:x.kind=4
 ·have e:W.sinceN x (W.σ.act x).2=W.since.set x.core.toNat W.f:=by unfold sinceN;rw[if_pos ⟨he,h4⟩]
  rw[e,List.getD_eq_getElem?_getD,List.getElem?_set_self hk];refine⟨Int.natCast_nonneg _,Int.le_refl _,?_⟩;exact h.hist.right h.safe x hf (Nat.le_refl _)
 ·have e:W.sinceN x (W.σ.act x).2=W.since:=by unfold sinceN;rw[if_neg (fun hc=>h4 hc.2)]
  rw[e,List.getD_eq_getElem?_getD,U hk];have hle:=h.le _ (List.getElem_mem hk);refine⟨hle.1,hle.2,?_⟩;exact h.hist.right h.safe x hf (by show(W.since[x.core.toNat]).toNat ≤W.f;omega)
end Wc
def dA(v:cS)(l:List Nat):ab:=ct 150 1 v l.length (l.map uX)
theorem pD{w:S}{R:ab}{A:Option b0}{n c:Nat}{l:List Nat}(h:T w (dA (.slice A n c) l*R)):n=l.length:=by
 rcases(Has.rowCases (e:=150) (size:=1) h) with ⟨hv,h0,_⟩|⟨g,cap,cur,hv,_⟩
 ·injection hv with a b
  omega
 ·injection hv
theorem oD{w:S}{R:ab}{A:Option b0}{n c:Nat}{l:List Nat}(h:T w (dA (.slice A n c) l*R)){k p:Nat}(hk:l[k]? =C p):
  ∃b,A=C (O b 0 I)∧b<w.heap.size∧w.cell? (O b k I)=C (.pointer (C (O p 0 I))):=by
 obtain rfl:=pD h;obtain⟨b,e,hb,hc,_⟩:=Has.rowGet (e:=150) (size:=1) h (i:=k) (u:=uX p) (by simp[hk]);exact⟨b,e,hb,hc⟩
theorem xX:jD prog 150 (.pointer I) 1 8:=⟨by kernel_rfl,rfl,by omega⟩
def ba:List Nat→List (List Mp)→ab
 |p::ps,L::Ls=>bp p L*ba ps Ls
 |_,_=>eY True
theorem kQ:∀{ps:List Nat} {Ls:List (List Mp)} {k p:Nat} {L:List Mp},ps[k]? =C p→Ls[k]? =C L→∃Q,ba ps Ls=bp p L*Q
 | [],_,_,_,_,h,_=>by simp at h
 |_::_,[],_,_,_,_,h=>by simp at h
 |q::ps,M::Ls,0,p,L,h1,h2=>by
  simp at h1 h2;subst h1;subst h2;exact⟨ba ps Ls,rfl⟩
 |q::ps,M::Ls,k+1,p,L,h1,h2=>by
  simp at h1 h2;obtain⟨Q,e1⟩:=kQ h1 h2;refine⟨bp q M*Q,?_⟩;show bp q M*ba ps Ls=_;rw[e1];ac_rfl
theorem ma:∀(ps:List Nat) (Ls:List (List Mp)) (p:Nat) (L:List Mp),ps.length=Ls.length→ba (ps++[p]) (Ls++[L])=bp p L*ba ps Ls
 | [],[],p,L,_=>rfl
 | [],_::_,_,_,h=>by simp at h
 |_::_,[],_,_,h=>by simp at h
 |q::ps,M::Ls,p,L,h=>by
  show bp q M*ba (ps++[p]) (Ls++[L])=_;rw[ma ps Ls p L (by simpa using h)];show _=bp p L*(bp q M*ba ps Ls);ac_rfl
structure Wl where
 A:Option b0
 c:Nat
 bs:List Nat
 G:Option b0
 d:Nat
 z:Int
def cQ(b sp:Nat)(H:List (List Mp))(f:Nat)(since:List Int)(y:Wl)(R:ab):ab:=
 aa b #[.pointer (C (O sp 0 I)),.slice y.A y.bs.length y.c,E F f,.slice y.G since.length y.d,E F 0,E F 0,E F y.z] 82*
  (dA (.slice y.A y.bs.length y.c) y.bs*(ao (.slice y.G since.length y.d) since*(ba y.bs H*R)))
def aC(b sp:Nat)(H:List (List Mp))(f:Nat)(since:List Int):ab:=ex fun y=>eY (y.bs.length=H.length)*cQ b sp H f since y (eY True)
section
variable {w:S} {b sp f:Nat} {H:List (List Mp)} {since:List Int} {R:ab}
theorem eN(h:T w (aC b sp H f since*R)):∃y,y.bs.length=H.length∧T w (cQ b sp H f since y R):=by
 unfold aC at h;obtain⟨y,h⟩:=aF.1 h;rw[aX] at h;obtain⟨hy,h⟩:=dd.1 h;refine⟨y,hy,?_⟩;have h2:T w (eY True*cQ b sp H f since y R):=h.eq (by unfold cQ;ac_rfl);exact h2.right
theorem eO{y:Wl}(hy:y.bs.length=H.length)(h:T w (cQ b sp H f since y R)):T w (aC b sp H f since*R):=by
 unfold aC;refine aF.2 ⟨y,?_⟩;rw[aX];refine dd.2 ⟨hy,?_⟩;have h2:T w (eY True*cQ b sp H f since y R):=dd.2 ⟨trivial,h⟩;exact h2.eq (by unfold cQ;ac_rfl)
theorem cH(h:T w (aC b sp H f since*R)):b<w.heap.size∧w.cell? (O b 0 I)=C (.pointer (C (O sp 0 I))):=by
 obtain⟨y,_,h⟩:=eN h;exact⟨Has.lt h,Has.cell h 0⟩
end
section
variable {w:S} {b f:Nat} {H:List (List Mp)} {R:ab}
end
theorem Has.rowSmall'{w:S}{R:ab}{A:Option b0}{c:Nat}{l:List Nat}{n:Nat}(h:T w (dA (.slice A n c) l*R)):n≤9223372036854775807:=by
 obtain rfl:=pD h;rcases(Has.rowCases (e:=150) (size:=1) h) with ⟨hv,h0,_⟩|⟨g,cap,cur,hv,hn,hc,_⟩
 ·omega
 ·unfold maxLen at hc;omega
theorem xY(l:List Mp)(A B:Option b0)(n c n' c':Nat)(R:ab)(w:S)(h:T w (cK (.slice A n c) l*(cK (.slice B n' c') l*R))):
  ag prog 83 #[.slice A n c,.slice B n' c'] w (ck (vB D) w):=by
 have hn:=dI h;have hn':=dI h.right;subst hn;subst hn';have hbig:=iv h;go_enter func83,ntmps83;go_wp2_with fail
 go_loopw [13] (fun s5 wr=>∃i:Nat,i≤l.length∧s5=E F i∧Below w.heap.size w wr) (fun s5 _=>l.length - (intOf s5).toNat)
 case atStart=>exact⟨0,Nat.zero_le _,rfl,Below.refl _ _⟩
 case round=>
  obtain⟨i,hi,rfl,BW⟩:=hrel;have h':=h.below BW;clear h;have BW':=J BW;clear BW;by_cases hlt:i<l.length
  ·obtain⟨b,rfl,hb,c0,c1,c2,c3⟩:=eT h' hlt
   obtain⟨b',rfl,hb',d0,d1,d2,d3⟩:=eT h'.right hlt;clear h';generalize l[i]=x at c0 c1 c2 c3 d0 d1 d2 d3;have v0:=ae c0;have v1:=ae c1;have v2:=ae c2;have v3:=ae c3;have u0:=ae d0;have u1:=ae d1;have u2:=ae d2;have u3:=ae d3;clear c0 c1 c2 c3 d0 d1 d2 d3;go_wp2_with fail
   refine au (by kernel_rfl) (by kernel_rfl) ?_;repeat(first|go_big_quiet_step (fail)|quiet_step (fail))
   refine wpQuiet_nil ?_;intro _ hw';obtain⟨uq,hw''⟩:=hw';subst hw'';go_wp2_with fail
   go_roundw
   case rel=>exact⟨i+1,by omega,by go_num,BW'.out.trans ((aE _ _).mono BW'.out.size)⟩
   case measure=>simp[intOf];omega
  ·go_wp2_with fail
   go_ret;exact⟨rfl,BW'.out⟩
theorem xp(b sp:Nat)(H:List (List Mp))(f:Nat)(since:List Int)(y:Wl)(p k:Nat)(hk:H.length=k+1)(hy:y.bs.length=H.length)(hp:y.bs[k]? =C p)(R:ab)(w:S)(h:T w (cQ b sp H f since y R)):
  ag prog 84 #[.pointer (C (O b 0 I))] w (ck (.pointer (C (O p 0 I))) w):=by
 unfold cQ at h;obtain⟨bA,hA,lA,cA⟩:=oD h.right hp;have c1:=h.cell 1;have hbs:=Has.rowSmall' h.right;rw[hA,hy,hk] at c1;rw[hy,hk] at hbs;have v1:=ae c1;have vA:=ae cA;have hkk:IntKind.i64.wrap (((k+1:Nat):Int) - 1)=(k:Int):=by
  rw[b7];omega
 clear h c1 cA hA hy hp hk;go_enter func84,ntmps84;go_wp2_with fail
 refine au (by kernel_rfl) (by kernel_rfl) ?_;repeat(first|go_big_quiet_step (fail)|quiet_step (fail))
 refine wpQuiet_nil ?_;intro _ hw';obtain⟨uq,hw''⟩:=hw';subst hw'';go_wp2_with fail
 go_ret;exact⟨rfl,aE _ _⟩
theorem ue{H:List (List Mp)}{L:List Mp}(h:H.getLast?=C L):∃k,H.length=k+1∧H[k]? =C L∧H.getLastD []=L:=by
 rw[List.getLast?_eq_getElem?] at h;have hne:H.length≠0:=by
  intro e;rw[List.length_eq_zero_iff.1 e] at h;cases h
 refine⟨H.length - 1,by omega,h,?_⟩;rw[List.getLastD_eq_getLast?,List.getLast?_eq_getElem?,h];rfl
theorem uf(q:Nat):∀u∈([.pointer (C (O q 0 I))]:List cS),u.oneCell'=D:=by
 intro u hu;simp at hu;subst hu;rfl
set_option maxHeartbeats 4000000 in
theorem wl(b sp:Nat)(H:List (List Mp))(f:Nat)(since:List Int)(x:bk)(L:List Mp)(hx:1≤x.kind∧x.kind≤3)(hxo:x.ok)(hL:H.getLast?=C L)(hLo:a6 L)(hH:H.length≤1000000)(R:ab)(w:S)(h:T w (aC b sp H f since*R)):
  ag prog 82 #[.pointer (C (O b 0 I)),.agg #[E F x.kind,E F x.core,E F x.m.page,E F x.m.size,E F x.m.frame,E F x.m.rights,E F x.a.page,E F x.a.kind,vB x.a.user]] w
   (cR (.tuple #[]) (aC b sp (H++[dB (H.getLastD []) x 0]) f since*R) w):=by
 obtain⟨k,hk,hkL,hLD⟩:=ue hL;obtain⟨y,hy,h⟩:=eN h;obtain⟨yA,yc,ybs,yG,yd,yz⟩:=y;dsimp only at*
 have hkb:k<ybs.length:=by omega
 obtain⟨p,hp⟩:∃p,ybs[k]? =C p:=⟨ybs[k],U hkb⟩;obtain⟨Q,hQ⟩:=kQ hp hkL;have h0:T _ (cQ b sp H f since ⟨yA,yc,ybs,yG,yd,yz⟩ (aa w.heap.size #[E F x.kind,E F x.core,E F x.m.page,E F x.m.size,E F x.m.frame,E F x.m.rights,E F x.a.page,E F x.a.kind,vB x.a.user] 43*R)):=(h.new #[E F x.kind,E F x.core,E F x.m.page,E F x.m.size,E F x.m.frame,E F x.m.rights,E F x.a.page,E F x.a.kind,vB x.a.user] 43).eq (by unfold cQ;ac_rfl);have x0:=(a5 w).alloc (.cells #[E F x.kind,E F x.core,E F x.m.page,E F x.m.size,E F x.m.frame,E F x.m.rights,E F x.a.page,E F x.a.kind,vB x.a.user] 43);have HLW:=J (fun R w h=>xp b sp H f since ⟨yA,yc,ybs,yG,yd,yz⟩ p k hk hy hp R w h);have HCP:=J (fun R w h=>yY p L R w (by have:=hLo.le;omega) h);have hNo:=pC hLo x 0;rw[hLD];have hxp:=hxo.2.2.1.1;have HAD:=J (fun q (h1:x.kind=1) R w h=>(show dB L x 0=bB L x.m from by unfold dB;simp[h1])▸Al q L x.m R w hLo hxp h);have HDR:=J (fun q (h2:x.kind=2) R w h=>(show dB L x 0=bf L x.m.page from by unfold dB;simp[h2])▸y9 q L x.m.page R w hLo hxp h);have HPR:=J (fun q (h3:x.kind=3) R w h=>(show dB L x 0=bz L x.m.page x.m.rights from by unfold dB;simp[h3])▸tR q L x.m.page x.m.rights R w hLo hxp h);generalize dB L x 0=L2 at*
 unfold cQ at HLW h0;dsimp only at HLW h0;have HSN:=J (fun q=>ma ybs H q L2 hy);have HB:=J hQ;have HY:=J hy;have hyl:ybs.length≤1000000:=by omega
 clear h hLo hL hkL hLD hNo hxo hk hy hQ hp hkb hH hxp;obtain⟨kx,cx,mx,ax⟩:=x;dsimp only at*
 have k0:=h0.right.r3.cell 0;have kl:=h0.right.r3.lt;go_enter func82,ntmps82;go_wp2_with fail
 refine(HLW.out _ _ h0).mono ?_;rintro e w2 ⟨rfl,b2⟩;have x2:=x0.below b2;have h2:T w2 (bp p L*(aa b #[.pointer (C (O sp 0 I)),.slice yA ybs.length yc,E F f,.slice yG since.length yd,E F 0,E F 0,E F yz] 82*(dA (.slice yA ybs.length yc) ybs*(ao (.slice yG since.length yd) since*(Q*(aa w.heap.size #[E F kx,E F cx,E F mx.page,E F mx.size,E F mx.frame,E F mx.rights,E F ax.page,E F ax.kind,vB ax.user] 43*R)))))):=(h0.below b2).eq (by rw[HB.out];ac_rfl);clear h0 x0 b2 HLW k0 kl;go_wp2_with fail
 refine(HCP.out _ _ h2).mono ?_;rintro e w3 ⟨q,rfl,h3,x3⟩;have x4:=x2.trans x3;have h4:T w3 (bp q L*(aa b #[.pointer (C (O sp 0 I)),.slice yA ybs.length yc,E F f,.slice yG since.length yd,E F 0,E F 0,E F yz] 82*(dA (.slice yA ybs.length yc) ybs*(ao (.slice yG since.length yd) since*(ba ybs H*(aa w.heap.size #[E F kx,E F cx,E F mx.page,E F mx.size,E F mx.frame,E F mx.rights,E F ax.page,E F ax.kind,vB ax.user] 43*R)))))):=h3.eq (by rw[HB.out];ac_rfl);clear h2 x2 h3 x3 HCP HB;obtain⟨k0,-,k2,k3,k4,k5,-,-,-⟩:=h4.right.right.r3.cells9;have kl:=h4.right.right.r3.lt;go_upto_block 0 with fail
 go_cut [] from 10 to 32 (fun wx=>T wx (bp q L2*(aa b #[.pointer (C (O sp 0 I)),.slice yA ybs.length yc,E F f,.slice yG since.length yd,E F 0,E F 0,E F yz] 82*(dA (.slice yA ybs.length yc) ybs*(ao (.slice yG since.length yd) since*(ba ybs H*(aa w.heap.size #[E F kx,E F cx,E F mx.page,E F mx.size,E F mx.frame,E F mx.rights,E F ax.page,E F ax.kind,vB ax.user] 43*R))))))∧b8 w wx)
 case first=>
  clear HSN HY;by_cases k1:kx=1
  ·have HA:=J (fun R w h=>HAD.out q k1 R w h)
   subst k1;clear HAD HDR HPR;go_wp2_with fail
   refine(HA.out _ _ h4).mono ?_;rintro e w5 ⟨rfl,h5,x5⟩;go_wp2_with fail
   go_meet
   case rel=>exact⟨h5,x4.trans x5⟩
  by_cases k2':kx=2
  ·have HA:=J (fun R w h=>HDR.out q k2' R w h)
   subst k2';clear HAD HDR HPR;go_wp2_with fail
   refine(HA.out _ _ h4).mono ?_;rintro e w5 ⟨rfl,h5,x5⟩;go_wp2_with fail
   go_meet
   case rel=>exact⟨h5,x4.trans x5⟩
  ·have k3':kx=3:=by omega
   have HA:=J (fun R w h=>HPR.out q k3' R w h);subst k3';clear HAD HDR HPR;go_wp2_with fail
   refine(HA.out _ _ h4).mono ?_;rintro e w5 ⟨rfl,h5,x5⟩;go_wp2_with fail
   go_meet
   case rel=>exact⟨h5,x4.trans x5⟩
 case rest=>
  obtain⟨h5,x5⟩:=hcut;clear h4 x4 k0 k2 k3 k4 k5 kl HAD HDR HPR;have c1:=h5.right.cell 1;have cl:=h5.right.lt;have h6:T _ (dA (.slice yA ybs.length yc) ybs*(aa b #[.pointer (C (O sp 0 I)),.slice yA ybs.length yc,E F f,.slice yG since.length yd,E F 0,E F 0,E F yz] 82*(ao (.slice yG since.length yd) since*((bp q L2*ba ybs H)*(aa w.heap.size #[E F kx,E F cx,E F mx.page,E F mx.size,E F mx.frame,E F mx.rights,E F ax.page,E F ax.kind,vB ax.user] 43*R))))):=h5.eq (by ac_rfl);clear h5;go_wp2_with(at_builtin;(refine aV rfl _ _ 80 rfl underlying80 xX _ _ _ rfl (h6.alloc _) (O wc.heap.size 0 I) 1 1 [.pointer (C (O q 0 I))] rfl rfl (dU _ _ _) ?c1 ?c2 ?c3 ?_))
  case c1=>exact uf _
  case c2=>unfold maxLen;omega
  case c3=>omega
  intro v9 w9 h9 x9;obtain⟨A',c',rfl⟩:=Has.rowForm (e:=150) (size:=1) h9;have y2:=h9.right.cell 1;have yf:=h9.right.free 1;have yl:=h9.right.lt;have h10:T (w9.setCell (O b 1 I) (.slice A' (ybs.length+1) c')) (aC b sp (H++[L2]) f since*R):=by
   have h12:=(h9.p2.set 1 (.slice A' (ybs.length+1) c'));have h13:T _ (aa b #[.pointer (C (O sp 0 I)),.slice A' (ybs.length+1) c',E F f,.slice yG since.length yd,E F 0,E F 0,E F yz] 82*(dA (.slice A' (ybs++[q]).length c') (ybs++[q])*(ao (.slice yG since.length yd) since*(ba (ybs++[q]) (H++[L2])*(aa w.heap.size #[E F kx,E F cx,E F mx.page,E F mx.size,E F mx.frame,E F mx.rights,E F ax.page,E F ax.kind,vB ax.user] 43*R))))):=h12.eq (by
    rw[HSN.out q];unfold dA;rw[Y,List.map_append];show _*(ct 150 1 (.slice A' (ybs.length+1) c') (ybs.length+1) (ybs.map uX++[.pointer (C (O q 0 I))])*_)=_*(ct 150 1 (.slice A' (ybs.length+1) c') (ybs.length+1) (ybs.map uX++[.pointer (C (O q 0 I))])*_);ac_rfl)
   have h14:=eO (b:=b) (sp:=sp) (H:=H++[L2]) (f:=f) (since:=since) (y:=⟨A',c',ybs++[q],yG,yd,yz⟩) (R:=aa w.heap.size #[E F kx,E F cx,E F mx.page,E F mx.size,E F mx.frame,E F mx.rights,E F ax.page,E F ax.kind,vB ax.user] 43*R) (by simp[HY.out]) (by
    unfold cQ;dsimp only;rw[Y] at h13⊢;exact h13)
   exact(h14.eq (show _=aa w.heap.size #[E F kx,E F cx,E F mx.page,E F mx.size,E F mx.frame,E F mx.rights,E F ax.page,E F ax.kind,vB ax.user] 43*(aC b sp (H++[L2]) f since*R) by ac_rfl)).right
  have x10:=((x5.alloc (.cells #[.pointer (C (O q 0 I))] 150)).trans x9).set (O b 1 I) (.slice A' (ybs.length+1) c');clear h9 h6 x9 x5 c1 cl HSN HY;go_wp2_with fail
  exact N (v:= .tuple #[]) (by simp[results,results82]) rfl ⟨rfl,h10,x10⟩
end Go.Proofs.YtmfheghbgihdmaaGreat
