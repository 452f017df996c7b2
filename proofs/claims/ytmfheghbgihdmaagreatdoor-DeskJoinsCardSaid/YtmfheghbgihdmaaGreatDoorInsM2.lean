/- More on Insert's words: the tables and places all in all; plain law. -/
import Derived.Test.YtmfheghbgihdmaaGreatDoorEntBits
import Derived.Test.YtmfheghbgihdmaaGreatDoorWkr3
import Derived.Test.YtmfheghbgihdmaaGreatDoorSep
import Derived.Test.YtmfheghbgihdmaaGreatDoorPage
import Derived.Deep.RegionHeld3
import Derived.Deep.LoopGhost
import Derived.Deep.DeepCutAuto
import Derived.Deep.CutBlock
import Derived.Test.YtmfheghbgihdmaaGreatDoorTblM3
import Derived.Test.YtmfheghbgihdmaaGreatDoorWalkM2
import Derived.Test.YtmfheghbgihdmaaGreatDoorWkr
import Derived.Lib.Hide
import Derived.WalkSpells
import Derived.Outline
namespace Go.Proofs.YtmfheghbgihdmaaGreatDoor
open Bool renaming true→B,false→C
open Option renaming some→D,none→F
open List renaming getElem?_eq_some_iff→E,getElem?_eq_getElem→Q
open Go.Proofs.YtmfheghbgihdmaaGreatDoor.Ms renaming has_iff→G,takeS→T,giveS→Y
open Go.Lib renaming hid→H
open Go.Value renaming int→I,bool→O
open Go.IntKind renaming i64→J
open Go renaming World→M,bodyPost_ret→U,Calls→V,Value→W,Addr→Z
open Go.Addr renaming mk→N
open Int renaming eq_ofNat_of_zero_le→S
open Tryz
open Go.RowKit
theorem rK(s:Ms)(p lw:Int)(sz:Nat)(u:Int):∀l:List Int,(nE s p lw sz l).has u=s.has u
 | []=>rfl
 | [_]=>rfl
 |_::k::ks=>rK s p lw sz u (k::ks)
theorem uI{s:Ms}(hs:s.Ok)(p:Int){lw:Int}(hlw:0≤lw∧lw<18446744073709551616)(sz:Nat):∀l:List Int,(nE s p lw sz l).Ok
 | []=>hs
 | [_]=>hs.setW _ _ hlw
 |_::k::ks=>(uI hs p hlw sz (k::ks)).setW _ _ (by unfold iT;exact ju _ _)
structure InsAt (s:Ms) (r:Int) (x:Mp) (n m sz:Nat):Prop where
 code:(bo s r x.page).code =0
 hp:cN x.page=B
 len:(bo s r x.page).tabs.length =n+1
 lev:(bo s r x.page).lev =3 - (n:Int)
 size:x.size=(sz:Int)
 sum:n+m+sz=3
 fr:m≤s.frees.length
def gU(s:Ms)(r:Int)(x:Mp)(m:Nat):List Int:=(bo s r x.page).tabs ++ep s m
section
variable {s:Ms} {r:Int} {x:Mp} {n m sz:Nat}
theorem InsAt.all_len(h:InsAt s r x n m sz):(gU s r x m).length =n+1+m:=by
 unfold gU;rw[List.length_append,h.len,jm]
theorem InsAt.all_has(h:InsAt s r x n m sz)(hs:s.Ok):∀t∈gU s r x m,(aM s m).has t=B:=fun t ht=>by
 obtain⟨_,n',hn,_,_,hu⟩:=gE h.code;rcases List.mem_append.1 ht with ht|ht
 ·exact nG hs (hu t ht) m h.fr
 ·have hl:0< (bo s r x.page).tabs.length :=by rw[h.len];omega
  have:=hu _ (List.getElem_mem hl);exact(mw hs (G.1 this).2.2 m h.fr t ht).2
theorem InsAt.store(h:InsAt s r x n m sz)(hs:s.Ok){σ:Ms}(hσ:∀u,σ.has u=(aM s m).has u){j:Nat}{t:Int}(hj:(gU s r x m)[j]? =D t)(v:Int):
  eL σ t (ai x.page (3 - (j:Int))) v=σ.setW t.toNat (ai x.page (3 - (j:Int))).toNat v:=by
 obtain⟨hl,e⟩:=E.1 hj;have hlen:=h.all_len;have:=h.sum;unfold eL;rw[if_pos (by rw[dJ h.hp (by omega) (by omega),hσ];exact h.all_has hs t (e▸List.getElem_mem hl))]
theorem InsAt.last(h:InsAt s r x n m sz){t:Int}(ht:(gU s r x m)[n+m]? =D t)(σ:Ms)(lw:Int):nE σ x.page lw sz ((gU s r x m).drop (n+m))=σ.setW t.toNat (ai x.page (3 - ((n+m:Nat):Int))).toNat lw:=by
 obtain⟨hl,e⟩:=E.1 ht;rw[List.drop_eq_getElem_cons hl,e,List.drop_eq_nil_of_le (by rw[h.all_len];omega)];show σ.setW t.toNat (ai x.page sz).toNat lw=_;have:=h.sum;rw[show(3:Int) - ((n+m:Nat):Int)=(sz:Int) by omega]
theorem InsAt.step(h:InsAt s r x n m sz){j:Nat}{t k:Int}(ht:(gU s r x m)[j]? =D t)(hk:(gU s r x m)[j+1]? =D k)(σ:Ms)(lw:Int):
  nE σ x.page lw sz ((gU s r x m).drop j)=(nE σ x.page lw sz ((gU s r x m).drop (j+1))).setW t.toNat (ai x.page (3 - (j:Int))).toNat (bF ⟨B,C,7,C,C,k⟩ (3 - (j:Int))):=by
 obtain⟨hl,e⟩:=E.1 ht;obtain⟨hl2,e2⟩:=E.1 hk;have hlen:=h.all_len;have:=h.sum;have hd:(gU s r x m).drop j=t::(gU s r x m).drop (j+1):=by rw[List.drop_eq_getElem_cons hl,e]
 have hd2:(gU s r x m).drop (j+1)=k::(gU s r x m).drop (j+2):=by rw[List.drop_eq_getElem_cons hl2,e2]
 rw[hd,hd2];show(nE σ x.page lw sz (k::(gU s r x m).drop (j+2))).setW t.toNat (ai x.page (sz+((gU s r x m).drop (j+2)).length +1:Nat)).toNat (iT k (sz+((gU s r x m).drop (j+2)).length +1))=_;have hz:sz+((gU s r x m).drop (j+2)).length +1=3 - j:=by rw[List.length_drop];omega
 rw[hz];unfold iT vS;rw[show((3 - j:Nat):Int)=3 - (j:Int) by omega]
theorem InsAt.fin(h:InsAt s r x n m sz)(hs:s.Ok)(hc:dm s r x=0):nE (aM s m) x.page (bF (dU x) x.size) sz ((gU s r x m).drop n)=eB s r x:=by
 have:=h.sum;obtain⟨_,n',hn',_,_,hu⟩:=gE h.code;obtain⟨t,ht⟩:∃t,(bo s r x.page).tabs[n]? =D t:=⟨_,Q (by rw[h.len];omega)⟩;have hlast:=nD h.len ht;obtain⟨hl,e⟩:=E.1 ht;unfold eB;rw[if_pos hc,hlast,h.size,h.lev];have e1:((3:Int) - (n:Int) - (sz:Int)).toNat =m:=by omega
 have e2:((sz:Nat):Int).toNat =sz:=by omega
 rw[e1,e2,pK h.hp (by omega) m s t hs h.fr (hu t (e▸List.getElem_mem hl)) (by omega)];congr 1
 unfold gU;rw[List.drop_append_of_le_length (by rw[h.len];omega),List.drop_eq_getElem_cons (by rw[h.len];omega),e,List.drop_eq_nil_of_le (by rw[h.len];omega)];rfl
end
theorem qW{x:Mp}(h:bp x=0):cN x.page=B∧∃z:Nat,x.size=z∧z≤2:=by
 have hx:=dL h;have h0:=hx.p0;have h1:=hx.p1;have h2:=hx.sp;refine⟨by unfold cN;simp;omega,?_⟩;rcases hx.size with ⟨e,_⟩|⟨e,_⟩|⟨e,_⟩
 ·exact⟨0,e,by omega⟩
 ·exact⟨1,e,by omega⟩
 ·exact⟨2,e,by omega⟩
set_option maxRecDepth 100000
theorem fg{w:M}{R:ab}{A:Option Z}{n c:Nat}{l:List Int}(h:Has w (aq (.slice A n c) l*R)){k:Nat}(hk:k<l.length):
  ∃b,A=D (N b 0 F)∧b<w.heap.size∧w.cell? (N b k F)=D (I J l[k]):=by
 have hf:=(Has.rowCases (e:=3) (size:=1) h);have hn:n=l.length:=by
  rcases hf with ⟨hv,h0,_⟩|⟨g,cap,cur,hv,_⟩
  ·injection hv with a b
   omega
  ·injection hv
 subst hn;obtain⟨b,e,hb,hc,_⟩:=Has.rowGet (e:=3) (size:=1) h (i:=k) (u:=I J l[k]) (by simp[hk]);exact⟨b,e,hb,hc⟩
theorem fh{w:M}{R:ab}{A:Option Z}{n c:Nat}{l:List Int}(h:Has w (aq (.slice A n c) l*R)):n=l.length:=by
 rcases(Has.rowCases (e:=3) (size:=1) h) with ⟨hv,h0,_⟩|⟨g,cap,cur,hv,_⟩
 ·injection hv with a b
  omega
 ·injection hv
theorem qX{w:M}{R:ab}{A:Option Z}{n c:Nat}{l:List Int}(h:Has w (aq (.slice A n c) l*R)):n≤9223372036854775807:=by
 obtain rfl:=fh h;exact(Has.rowLens (e:=3) (size:=1) h).2
section
variable {P:Program} {fn:Func} {tmps:Array W} {w:M}
theorem eT{a b c:Nat}{t t':TypeId}{p p':Z}{v u x:W}(hr:fn.results= #[.cell a t,.cell b t',.tmp c])(ha:tmps.getD a undef= .pointer (D p))(hb:tmps.getD b undef= .pointer (D p'))(hc:tmps.getD c undef=x)(hl:(loadVar t p).run P w= .ok v w)(hl':(loadVar t' p').run P w= .ok u w):
  (results fn tmps).run P w= .ok (.tuple #[v,u,x]) w:=by
 unfold results;rw[hr];simp only[Array.getD_eq_getD_getElem?] at ha hb hc;simp[asAddr,ha,hb,hc,hl,hl']
end
def zX(e:En):W:= .agg #[O e.there,O e.leaf,I J e.rights,O e.used,O e.dirty,I J e.frame]
theorem zY(b f:Nat)(t i l:Int)(v:W)(e:En)(s:Ms)(R:ab)(w:M)(h:Has w (aa b #[.pointer (D (N f 0 F)),v] 293*(ae f s*R))):
  V prog 210 #[.pointer (D (N b 0 F)),I J t,I J i,I J l,.agg #[O e.there,O e.leaf,I J e.rights,O e.used,O e.dirty,I J e.frame]] w (cF (.tuple #[]) (aa b #[.pointer (D (N f 0 F)),v] 293*(ae f (eL s t i (bF e l))*R)) w):=by
 have h1:=h.new #[O e.there,O e.leaf,I J e.rights,O e.used,O e.dirty,I J e.frame] 81;have x1:=(Ext.refl w).alloc (.cells #[O e.there,O e.leaf,I J e.rights,O e.used,O e.dirty,I J e.frame] 81);have HE:=H (j9 e l);have HS:=H (fun R w h=>q7 f s t i (bF e l) R w h);generalize eL s t i (bF e l)=s' at*
 generalize s.hasW t i=ok at*
 generalize bF e l=wd at*
 generalize ao e l=ff at*
 clear h;obtain⟨c0,c1,c2,c3,c4,c5⟩:=h1.cells6;go_enter func210,ntmps210;go_wp2_with fail
 refine(HE.out _).mono ?_;rintro e2 w2 ⟨rfl,b2⟩;have h2:=h1.below b2;have x2:=x1.below b2;clear h1 x1 c0 c1 c2 c3 c4 c5;obtain⟨b0,b1⟩:=h2.right.cells2;have bl:=h2.right.lt;go_wp2_with fail
 refine(HS.out _ _ (h2.eq (show _=ae f s*(aa b #[.pointer (D (N f 0 F)),v] 293*(aa w.heap.size #[O e.there,O e.leaf,I J e.rights,O e.used,O e.dirty,I J e.frame] 81*R)) by ac_rfl))).mono ?_;rintro e3 w3 ⟨rfl,h3,x3⟩;have h4:=h3.eq (show _=aa w.heap.size #[O e.there,O e.leaf,I J e.rights,O e.used,O e.dirty,I J e.frame] 81*(aa b #[.pointer (D (N f 0 F)),v] 293*(ae f s'*R)) by ac_rfl);go_wp2_with fail
 exact U (v:= .tuple #[]) (by simp[results,results210]) rfl ⟨rfl,h4.right,x2.trans x3⟩
def ii(s:Ms)(t:Int):Bool:=(List.range 8).all fun(i:Nat)=>dw s t i==0
theorem sS{s:Ms}{t:Int}(h:s.has t=B):ii s t=i7 s t:=by
 unfold ii i7;have e:∀i∈List.range 8,(dw s t ((i:Nat):Int)==0)=(ar s t ((i:Nat):Int)==0):=fun i hi=>by
  have hi:=List.mem_range.1 hi;have hw:s.hasW t ((i:Nat):Int)=B:=iB.2 ⟨h,by omega,by omega⟩;unfold dw ar;rw[if_pos hw]
 rw[Bool.eq_iff_iff,List.all_eq_true,List.all_eq_true];constructor
 ·intro hh x hx
  rw[←e x hx];exact hh x hx
 ·intro hh x hx
  rw[e x hx];exact hh x hx
theorem yR(f:Nat)(t:Int)(s:Ms)(R:ab)(w:M)(h:Has w (ae f s*R)):V prog 212 #[.pointer (D (N f 0 F)),I J t] w (Same (O (ii s t)) w):=by
 have HL:=H (fun(i:Int)=>rM f s t i R w h);have hyy:∀i:Nat,i<8→ii s t=B→dw s t i=0:=fun i hi he=>by
  unfold ii at he;rw[List.all_eq_true] at he;simpa using he i (List.mem_range.2 hi)
 have hnn:∀i:Nat,i<8→dw s t i≠0→ii s t=C:=fun i hi hn=>by
  cases he:ii s t with
  |false=>rfl
  |true=>exact absurd (hyy i hi he) hn
 have hall:(∀i:Nat,i<8→dw s t i=0)→ii s t=B:=fun hh=>by
  unfold ii;rw[List.all_eq_true];intro x hx;simpa using hh x (List.mem_range.1 hx)
 have HNN:=H hnn;have HALL:=H hall;have HW:=H h;clear hyy hnn hall h;generalize ii s t=ev at*
 go_enter func212,ntmps212;go_wp2_with fail
 go_loopw [8] (fun t8 wr=>∃i:Nat,i≤8∧t8=I J i∧Hid (∀j:Nat,j<i→dw s t j=0)∧w=wr) (fun t8 _=>8 - (intOf t8).toNat)
 case atStart=>exact⟨0,by omega,rfl,H (fun j hj=>by omega),rfl⟩
 case round=>
  obtain⟨i,hi,rfl,HZ,rfl⟩:=hrel;by_cases hlt:i<8
  ·have hL:=H (HL.out (i:Int))
   have hlt':(i:Int)<8:=by omega
   by_cases hz:dw s t (i:Int)=0
   ·rw[hz] at hL
    have HZ':=H (show∀j:Nat,j<i+1→dw s t j=0 from fun j hj=>by
     by_cases e:j=i
     ·subst e;exact hz
     ·exact HZ.out j (by omega))
    clear hz;generalize s.hasW t (i:Int)=hw at*
    go_wp2_with fail
    refine hL.out.mono ?_;rintro e2 w2 ⟨rfl,rfl⟩;go_wp2_with fail
    go_roundw
    case rel=>exact⟨i+1,by omega,by go_num,HZ',trivial⟩
    case measure=>simp[intOf];omega
   ·have hev:=HNN.out i hlt hz
    have hne:(dw s t (i:Int) !=0)=B:=by simpa using hz
    subst hev;clear hz;generalize s.hasW t (i:Int)=hw at*
    generalize dw s t (i:Int)=lv at*
    go_wp2_with fail
    refine hL.out.mono ?_;rintro e2 w2 ⟨rfl,rfl⟩;go_wp2_with fail
    go_ret;exact⟨rfl,rfl⟩
  ·obtain rfl:i=8:=by omega
   have hev:=HALL.out HZ.out;subst hev;go_wp2_with fail
   go_ret;exact⟨rfl,rfl⟩
def j4(p:Int)(tabs:List Int):Nat→Ms→Ms×List Int
 |0,s=>(s,[])
 |k+1,s=>
  if i7 s (tabs.getD (k+1) 0)=B then
   ((j4 p tabs k (s.setW (tabs.getD k 0).toNat (ai p (3 - k:Nat)).toNat 0)).1,tabs.getD (k+1) 0::(j4 p tabs k (s.setW (tabs.getD k 0).toNat (ai p (3 - k:Nat)).toNat 0)).2)
  else(s,[])
theorem qY(p:Int)(tabs:List Int):∀(k:Nat) (s:Ms),fy p tabs k s=j4 p tabs k (s.setW (tabs.getD k 0).toNat (ai p (3 - k:Nat)).toNat 0)
 |0,s=>rfl
 |k+1,s=>by
  show(if i7 (s.setW (tabs.getD (k+1) 0).toNat (ai p (3 - (k+1):Nat)).toNat 0) (tabs.getD (k+1) 0)=B then _ else _)=(if _ then _ else _);rw[qY p tabs k]
theorem rL(p:Int)(tabs:List Int){k:Nat}{s:Ms}(h:k=0∨i7 s (tabs.getD k 0)=C):j4 p tabs k s=(s,[]):=by
 cases k with
 |zero=>rfl
 |succ k=>
  rcases h with h|h
  ·cases h
  ·unfold j4
   rw[if_neg (by rw[h];simp)]
theorem uJ(p:Int)(tabs:List Int){k j:Nat}{s:Ms}(hk:k=j+1)(h:i7 s (tabs.getD k 0)=B):
  j4 p tabs k s=((j4 p tabs j (s.setW (tabs.getD j 0).toNat (ai p (3 - j:Nat)).toNat 0)).1,tabs.getD k 0::(j4 p tabs j (s.setW (tabs.getD j 0).toNat (ai p (3 - j:Nat)).toNat 0)).2):=by
 subst hk;conv=>lhs;unfold j4
 rw[if_pos h]
theorem Agree.takeS{s s':Ms}(h:Agree s s'):Agree s.takeS s'.takeS:=by
 have ht:=h.top;cases hk:s.top with
 |none=>
  have e1:s.takeS=s:=by unfold T;rw[hk]
  have e2:s'.takeS=s':=by unfold T;rw[←ht,hk]
  rw[e1,e2];exact h
 |some k=>
  have hk':s'.top=D k:=by rw[←ht];exact hk
  have e1:s.takeS=s.take k:=by unfold T;rw[hk]
  have e2:s'.takeS=s'.take k:=by unfold T;rw[hk']
  have f1:=fU hk;have f2:=fU hk';rw[h.fr] at f1;rw[e1] at f1⊢;rw[e2] at f2⊢;refine⟨h.n,fun j=> ?_,List.append_cancel_right (f1.trans f2.symm),fun j i hj=> ?_⟩
  ·show ch s.tk k B j=ch s'.tk k B j
   unfold ch;rw[h.tk]
  ·show(if j=k then(0:Int) else s.wd j i)=(if j=k then(0:Int) else s'.wd j i)
   by_cases e:j=k
   ·rw[if_pos e,if_pos e]
   ·rw[if_neg e,if_neg e]
    have hj:ch s.tk k B j=B:=hj;rw[g9 _ _ e] at hj;exact h.wd j i hj
theorem Agree.chain{p lw:Int}{sz:Nat}:∀(m:Nat) (s s':Ms) (t:Int),Agree s s'→Agree (dS s p lw sz m t) (dS s' p lw sz m t)
 |0,_,_,_,h=>h.setW _ _ _
 |m+1,s,s',t,h=>by
  have ht:=h.top;unfold Go.Proofs.YtmfheghbgihdmaaGreatDoor.dS;rw[←ht];cases hk:s.top with
  |none=>exact h
  |some k=>
   have hk':s'.top=D k:=by rw[←ht];exact hk
   have e1:s.takeS=s.take k:=by unfold T;rw[hk]
   have e2:s'.takeS=s'.take k:=by unfold T;rw[hk']
   have h2:=h.takeS;rw[e1,e2] at h2;exact Agree.chain m _ _ _ (h2.setW _ _ _)
section
variable {s s':Ms}
theorem Agree.insS(h:Agree s s')(r:Int)(x:Mp):Agree (eB s r x) (eB s' r x):=by
 unfold Go.Proofs.YtmfheghbgihdmaaGreatDoor.eB;rw[←h.insC r x,←h.way r x.page];split
 ·exact Agree.chain _ _ _ _ h
 ·exact h
theorem Agree.allZ(h:Agree s s'){t:Int}(ht:s.has t=B):i7 s t=i7 s' t:=by
 have e:∀i:Nat,ar s t i=ar s' t i:=fun i=>h.word ht i;unfold Go.Proofs.YtmfheghbgihdmaaGreatDoor.i7;simp only[e]
theorem Agree.cutR{p:Int}{tabs:List Int}:∀(k:Nat) (s s':Ms),Agree s s'→(∀j,j≤k→s.has (tabs.getD j 0)=B)→Agree (fy p tabs k s).1 (fy p tabs k s').1∧(fy p tabs k s).2=(fy p tabs k s').2
 |0,_,_,h,_=>⟨h.setW _ _ _,rfl⟩
 |k+1,s,s',h,hu=>by
  have h1:Agree (s.setW (tabs.getD (k+1) 0).toNat (ai p (3 - (k+1):Nat)).toNat 0) (s'.setW (tabs.getD (k+1) 0).toNat (ai p (3 - (k+1):Nat)).toNat 0):=h.setW _ _ _;have hz:=h1.allZ (t:=tabs.getD (k+1) 0) (hu _ (Nat.le_refl _));obtain⟨i1,i2⟩:=Agree.cutR (p:=p) (tabs:=tabs) k _ _ h1 (fun j hj=>hu j (by omega));unfold Go.Proofs.YtmfheghbgihdmaaGreatDoor.fy;rw[←hz];split
  ·exact⟨i1,by rw[i2]⟩
  ·exact⟨h1,rfl⟩
theorem Agree.rem(h:Agree s s')(r p:Int):Agree (dn s r p) (dn s' r p)∧gR s r p=gR s' r p:=by
 unfold dn gR;rw[←h.findC r p,←h.way r p];by_cases hf:Go.Proofs.YtmfheghbgihdmaaGreatDoor.bm s r p=0
 ·rw[if_pos hf,if_pos hf,if_pos hf,if_pos hf]
  have hcode:(Go.Proofs.YtmfheghbgihdmaaGreatDoor.bo s r p).code =0:=by
   unfold Go.Proofs.YtmfheghbgihdmaaGreatDoor.bm at hf;split at hf
   ·rename_i hn;exact absurd hf hn
   ·rename_i hn;simpa using hn
  obtain⟨_,n,hn,_,_,hu⟩:=gE hcode;rw[hn,Nat.add_sub_cancel];refine Agree.cutR n s s' h fun j hj=> ?_;rw[List.getD_eq_getElem?_getD,Q (by omega)];exact hu _ (List.getElem_mem _)
 ·rw[if_neg hf,if_neg hf,if_neg hf,if_neg hf]
  exact⟨h,rfl⟩
theorem Agree.pr(h:Agree s s')(r p ri:Int):Agree (iH s r p ri) (iH s' r p ri)∧iV s r p ri=iV s' r p ri∧nu s r p ri=nu s' r p ri:=by
 have hc:iV s r p ri=iV s' r p ri:=by unfold iV;rw[h.findC]
 refine⟨?_,hc,?_⟩
 ·unfold iH
  rw[←hc,←h.way r p];split
  ·exact h.setW _ _ _
  ·exact h
 ·unfold nu
  rw[←hc,←h.findM r p]
end
theorem pL{p:Int}{tabs:List Int}:∀(k:Nat) {s:Ms},s.Ok→(fy p tabs k s).1.Ok
 |0,_,h=>h.setW _ _ ⟨by omega,by omega⟩
 |k+1,_,h=>by
  unfold Go.Proofs.YtmfheghbgihdmaaGreatDoor.fy;split
  ·exact pL k (h.setW _ _ ⟨by omega,by omega⟩)
  ·exact h.setW _ _ ⟨by omega,by omega⟩
theorem wP{s:Ms}(h:s.Ok)(r p:Int):(dn s r p).Ok :=by
 unfold dn;split
 ·exact pL _ h
 ·exact h
theorem yS{s:Ms}(h:s.Ok)(r p ri:Int):(iH s r p ri).Ok :=by
 unfold iH;split
 ·exact h.setW _ _ (ju _ _)
 ·exact h
def aD(p:Nat)(m:Mp)(ws:Nat→Bool):ab:=
 aa p #[I J m.page,I J m.size,I J m.frame,I J m.rights,O (ws 0),O (ws 1),O (ws 2),O (ws 3)] 234
def ga(ws:Nat→Bool):Bool:= !ws 0&&(!ws 1&&(!ws 2&& !ws 3))
theorem pM(p:Nat)(m:Mp)(ws:Nat→Bool)(R:ab)(w:M)(h:Has w (aD p m ws*R)):
  V prog 188 #[.pointer (D (N p 0 F))] w fun e w'=>e= .returned (O (ga ws))∧w=w':=by
 have c4:w.cell? (N p 4 F)=D (O (ws 0)):=h.cell 4;have c5:w.cell? (N p 5 F)=D (O (ws 1)):=h.cell 5;have c6:w.cell? (N p 6 F)=D (O (ws 2)):=h.cell 6;have c7:w.cell? (N p 7 F)=D (O (ws 3)):=h.cell 7;go_enter func188,ntmps188;go_wp2;go_ret;exact⟨rfl,rfl⟩
def iM(ws:Nat→Bool)(k:Int):Bool:=decide (0≤k)&&(decide (k<4)&&ws k.toNat)
theorem j5{p:Nat}{m:Mp}{ws:Nat→Bool}{R:ab}{w:M}(h:Has w (aD p m ws*R))(k:Nat)(hk:k<4):w.cell? ⟨p,4+k,F⟩=D (O (ws k)):=by
 rw[h.cell (4+k)];match k,hk with
 |0,_|1,_|2,_|3,_=>rfl
theorem mz{ws:Nat→Bool}{k:Int}(h:¬(0≤k∧k<4)):iM ws k=C:=by
 unfold iM;by_cases h0:0≤k<;>by_cases h4:k<4<;>simp[h0,h4]
 omega
theorem nH{ws:Nat→Bool}{k:Nat}(h:k<4):iM ws k=ws k:=by
 unfold iM;have h4:(k:Int)<4:=by omega
 simp[h4]
theorem kG(p:Nat)(m:Mp)(ws:Nat→Bool)(k:Int)(R:ab)(w:M)(h:Has w (aD p m ws*R)):
  V prog 164 #[.pointer (D (N p 0 F)),.int .i64 k] w fun e w'=>e= .returned (O (iM ws k))∧w=w':=by
 by_cases h0:0≤k
 ·by_cases h4:k<4
  ·obtain⟨k,rfl⟩:=S h0
   have hc:=j5 h k (by omega);have hy:=H (nH (ws:=ws) (k:=k) (by omega));go_enter func164,ntmps164;go_wp2;go_ret;exact⟨by rw[hy.out];rfl,rfl⟩
  ·have hy:=H (mz (ws:=ws) (k:=k) (by omega))
   go_enter func164,ntmps164;go_wp2;go_ret;exact⟨by rw[hy.out];rfl,rfl⟩
 ·have hy:=H (mz (ws:=ws) (k:=k) (by omega))
  go_enter func164,ntmps164;go_wp2;go_ret;exact⟨by rw[hy.out];rfl,rfl⟩
theorem sU(R:ab)(w:M)(h:Has w R):
  V prog 112 #[] w fun e w'=>∃p,e= .returned (.pointer (D (N p 0 F)))∧Has w' (aD p Mp.zero (fun _=>C)*R)∧Ext w w':=by
 have h1:=h.new #[I J 0,I J 0,I J 0,I J 0,O C,O C,O C,O C] 234;go_enter func112,ntmps112;go_wp2;go_ret;exact⟨_,rfl,h1,(Ext.refl w).alloc _⟩
def fv(ws:Nat→Bool)(k:Nat):Nat→Bool:=fun i=>if i=k then C else ws i
theorem nI{p:Nat}{m:Mp}{ws:Nat→Bool}{R:ab}{w:M}(h:Has w (aD p m ws*R))(k:Nat)(hk:k<4)(b:Bool):
  Has (w.setCell ⟨p,4+k,F⟩ (O b)) (aD p m (fun i=>if i=k then b else ws i)*R):=by
 have h1:=h.set (4+k) (O b);match k,hk,h1 with
 |0,_,h1|1,_,h1|2,_,h1|3,_,h1=>exact h1
theorem wQ(p:Nat)(m:Mp)(ws:Nat→Bool)(k:Int)(R:ab)(w:M)(h:Has w (aD p m ws*R))(hw:iM ws k=B):
  V prog 186 #[.pointer (D (N p 0 F)),.int .i64 k] w (cF (.tuple #[m.val,O B]) (aD p m (fv ws k.toNat)*R) w):=by
 have c0:w.cell? (N p 0 F)=D (I J m.page):=h.cell 0;have c1:w.cell? (N p 1 F)=D (I J m.size):=h.cell 1;have c2:w.cell? (N p 2 F)=D (I J m.frame):=h.cell 2;have c3:w.cell? (N p 3 F)=D (I J m.rights):=h.cell 3;have hlt:p<w.heap.size:=h.lt;have ha:=h.alloc (.cells #[I J 0,I J 0,I J 0,I J 0] 75);have hk:0≤k∧k<4:=by
  by_cases hk:0≤k∧k<4
  ·exact hk
  ·rw[mz hk] at hw;cases hw
 obtain⟨hk0,hk4⟩:=hk;obtain⟨k,rfl⟩:=S hk0;have hf:=h.free (4+k);have hc:=j5 h k (by omega);have hs:=nI h k (by omega) C;go_enter func186,ntmps186;go_wp2_with(go_at_call 164;refine(kG p m ws _ _ _ ha).mono ?_;rintro e w' ⟨rfl,rfl⟩)
 exact U (v:= .tuple #[m.val,O B]) (by simp[results,results186,go_sem]) rfl ⟨rfl,hs.alloc _,((Ext.refl w).set _ _).alloc _⟩
theorem yT(p:Nat)(m:Mp)(ws:Nat→Bool)(k:Int)(R:ab)(w:M)(h:Has w (aD p m ws*R))(hw:iM ws k=C):
  V prog 186 #[.pointer (D (N p 0 F)),.int .i64 k] w (cF (.tuple #[.agg #[I J 0,I J 0,I J 0,I J 0],O C]) (aD p m ws*R) w):=by
 have ha:=h.alloc (.cells #[I J 0,I J 0,I J 0,I J 0] 75);go_enter func186,ntmps186;go_wp2_with(go_at_call 164;refine(kG p m ws _ _ _ ha).mono ?_;rintro e w' ⟨rfl,rfl⟩)
 exact U (v:= .tuple #[.agg #[I J 0,I J 0,I J 0,I J 0],O C]) (by simp[results,results186,go_sem]) rfl ⟨rfl,ha,(Ext.refl w).alloc _⟩
def fA(n:Nat):Nat→Bool:=fun i=>decide (i<n)
theorem nJ{ws:Nat→Bool}(h:ga ws=B):ws 0=C∧ws 1=C∧ws 2=C∧ws 3=C:=by
 unfold ga at h;simpa using h
theorem sV{p:Nat}{x:Mp}{j:Nat}{R:ab}{w:M}(h:Has w (aD p x (fA j)*R))(hj:j<4):Has (w.setCell ⟨p,4+j,F⟩ (O B)) (aD p x (fA (j+1))*R):=by
 have h1:=nI h j hj B;have e:(fun i=>if i=j then B else fA j i)=fA (j+1):=by
  funext i
  unfold fA;by_cases hi:i=j
  ·simp[hi]
  ·simp only[hi,if_false]
   by_cases h2:i<j<;>simp[h2]<;>omega
 rwa [e] at h1
theorem qZ{p:Nat}{m x:Mp}{ws:Nat→Bool}{R:ab}{w:M}(h:Has w (aD p m ws*R))(ho:ga ws=B):
  Has ((((w.setCell (N p 0 F) (I J x.page)).setCell (N p 1 F) (I J x.size)).setCell (N p 2 F) (I J x.frame)).setCell (N p 3 F) (I J x.rights)) (aD p x (fA 0)*R):=by
 obtain⟨h0,h1,h2,h3⟩:=nJ ho;have:=(((h.set 0 (I J x.page)).set 1 (I J x.size)).set 2 (I J x.frame)).set 3 (I J x.rights);rw[h0,h1,h2,h3] at this;exact this
theorem uK(p:Nat)(m x:Mp)(ws:Nat→Bool)(k:Nat)(R:ab)(w:M)(h:Has w (aD p m ws*R))(ho:ga ws=B)(hk1:1≤k)(hk4:k≤4):
  V prog 213 #[.pointer (D (N p 0 F)),.agg #[I J x.page,I J x.size,I J x.frame,I J x.rights],.int .i64 k] w
   (cF (O B) (aD p x (fA k)*R) w):=by
 have hlt:p<w.heap.size:=h.lt;have ha:=h.alloc (.cells #[I J x.page,I J x.size,I J x.frame,I J x.rights] 75);have hb:=qZ (x:=x) h ho;have f0:=h.free 0;have f1:=h.free 1;have f2:=h.free 2;have f3:=h.free 3;have c0:w.cell? (N p 0 F)=D (I J m.page):=h.cell 0;have c1:w.cell? (N p 1 F)=D (I J m.size):=h.cell 1;have c2:w.cell? (N p 2 F)=D (I J m.frame):=h.cell 2;have c3:w.cell? (N p 3 F)=D (I J m.rights):=h.cell 3;go_enter func213,ntmps213;go_wp2_with(go_at_call 188;refine(pM p m ws _ _ ha).mono ?_;rintro e w' ⟨rfl,rfl⟩)
 go_loopw [7,24,25,26,27,28,29,30,31,32] (fun _ t _ _ _ _ _ _ _ _ wr=>∃j:Nat,j≤k∧t=I J j∧Has wr (aD p x (fA j)*R)∧Ext w wr) (fun _ t _ _ _ _ _ _ _ _ _=>k - (intOf t).toNat)
 case atStart=>exact⟨0,Nat.zero_le _,rfl,hb.alloc _,((((Ext.refl w).set _ _).set _ _).set _ _).set _ _ |>.alloc _⟩
 case round=>
  obtain⟨j,hj,rfl,hr,hx⟩:=hrel;clear hb ha c0 c1 c2 c3 f0 f1 f2 f3 hlt;by_cases hlt:j<k
  ·have hf:=hr.free (4+j)
   have hc:=j5 hr j (by omega);have hs:=sV hr (by omega);go_wp2;go_roundw
   case rel=>exact⟨j+1,by omega,by go_num,hs,hx.set _ _⟩
   case measure=>simp[intOf];omega
  ·obtain rfl:j=k:=by omega
   go_wp2;go_ret;exact⟨rfl,hr,hx⟩
structure Ev where
 code:Int
 fin:Bool
 an:An
 back:Bool
 deriving DecidableEq
def Ev.no(c:Int):Ev:=⟨c,C,An.zero,C⟩
structure Cr where
 l:List Ln
 k:Ck
def Cr.zero:Cr:=⟨[],Ck.zero⟩
structure Sc where
 s:Ms
 cs:List Cr
 told:Mp
 wait:Nat→Bool
 busy:Bool
 gone:List Int
namespace Sc
def new(cores n:Nat):Sc:=⟨(Ms.new n).takeS,List.replicate cores Cr.zero,Mp.zero,fun _=>C,C,[]⟩
def core(σ:Sc)(k:Nat):Cr:=σ.cs.getD k Cr.zero
def post(σ:Sc)(s:Ms)(m:Mp)(g:List Int):Sc:={σ with s:=s,told:=m,wait:=fA σ.cs.length,busy:=B,gone:=g}
def change(σ:Sc)(x:Stp):Sc×Ev:=
 if σ.busy=B then(σ,.no 8)
 else if x.kind=1 then({σ with s:=eB σ.s 0 x.m},⟨dm σ.s 0 x.m,C,An.zero,decide (dm σ.s 0 x.m=0)⟩)
 else if x.kind=2 then
  if bm σ.s 0 x.m.page=0 then(σ.post (dn σ.s 0 x.m.page) (bJ σ.s 0 x.m.page) (gR σ.s 0 x.m.page),.no 0) else(σ,.no (bm σ.s 0 x.m.page))
 else if iV σ.s 0 x.m.page x.m.rights=0 then(σ.post (iH σ.s 0 x.m.page x.m.rights) (nu σ.s 0 x.m.page x.m.rights) [],.no 0)
 else(σ,.no (iV σ.s 0 x.m.page x.m.rights))
def put(σ:Sc)(k:Nat)(c:Cr):Sc:={σ with cs:=σ.cs.set k c}
def heed(σ:Sc)(k:Nat):Sc:={σ with cs:=σ.cs.set k ⟨Tl.drop (σ.core k).l σ.told,(σ.core k).k.again 0⟩,wait:=fv σ.wait k}
def over(σ:Sc):Sc:={σ with s:=bK σ.s σ.gone,busy:=C,gone:=[]}
def ack(σ:Sc)(k:Nat):Sc×Ev:=
 if σ.wait k=C then(σ,.no 9)
 else if ga (σ.heed k).wait =B then((σ.heed k).over,⟨0,C,An.zero,B⟩)
 else(σ.heed k,.no 0)
def access(σ:Sc)(k:Nat)(a:Ac):Sc×Ev:=
 (σ.put k ⟨(σ.core k).l,(dv (σ.core k).l 0 (σ.core k).k a).c⟩,⟨(dv (σ.core k).l 0 (σ.core k).k a).code,(dv (σ.core k).l 0 (σ.core k).k a).fin,(dv (σ.core k).l 0 (σ.core k).k a).an,C⟩)
def walk(σ:Sc)(k:Nat):Sc×Ev:=
 ({σ.put k ⟨iz (σ.core k).l (be σ.s 0 (σ.core k).k).r,(be σ.s 0 (σ.core k).k).c⟩ with s:=(be σ.s 0 (σ.core k).k).s},
  ⟨(be σ.s 0 (σ.core k).k).code,(be σ.s 0 (σ.core k).k).r.fin,(be σ.s 0 (σ.core k).k).r.an,C⟩)
def evict(σ:Sc)(k:Nat):Sc×Ev:=
 if(σ.core k).l =[] then(σ,.no 9) else(σ.put k ⟨Tl.evict (σ.core k).l,(σ.core k).k⟩,.no 0)
def act(σ:Sc)(x:Stp):Sc×Ev:=
 if 1≤x.kind∧x.kind≤3 then σ.change x
 else if x.kind<1∨7<x.kind then(σ,.no 2)
 else if x.core<0∨(σ.cs.length:Int)≤x.core then(σ,.no 1)
 else if x.kind=4 then σ.access x.core.toNat x.a
 else if x.kind=5 then σ.walk x.core.toNat
 else if x.kind=6 then σ.ack x.core.toNat
 else σ.evict x.core.toNat
def on(σ:Sc)(k:Int):Bool:=decide (0≤k)&&(decide (k<σ.cs.length)&&(σ.core k.toNat).k.on)
def acc(σ:Sc)(k:Int):Ac:=if σ.on k=B then(σ.core k.toNat).k.a else Ac.zero
def kept(σ:Sc)(k:Int):List Ln:=if 0≤k∧k<σ.cs.length then(σ.core k.toNat).l else []
def waits(σ:Sc)(k:Int):Bool:=iM σ.wait k
structure Ok (σ:Sc):Prop where
 s:σ.s.Ok
 c:∀c∈σ.cs,Tl.Ok c.l∧c.k.Ok
 few:σ.cs.length≤4
 one:1≤σ.cs.length
 w:∀i,σ.cs.length≤i→σ.wait i=C
 told:σ.told.ok
theorem core_ok{σ:Sc}(h:σ.Ok)(k:Nat):Tl.Ok (σ.core k).l ∧(σ.core k).k.Ok :=by
 unfold core;rw[List.getD_eq_getElem?_getD];cases hk:σ.cs[k]? with
 |none=>exact⟨Tl.Ok.nil,Ck.Ok.zero⟩
 |some c=>exact h.c c (List.mem_of_getElem? hk)
theorem put_len(σ:Sc)(k:Nat)(c:Cr):(σ.put k c).cs.length =σ.cs.length:=List.length_set ..
theorem mem_set{cs:List Cr}{k:Nat}{c x:Cr}(h:x∈cs.set k c):x=c∨x∈cs:=(List.mem_or_eq_of_mem_set h).symm
theorem Ok.put{σ:Sc}(h:σ.Ok)(k:Nat){c:Cr}(h1:Tl.Ok c.l)(h2:c.k.Ok):(σ.put k c).Ok :=
 ⟨h.s,fun x hx=>by rcases mem_set hx with rfl|hx;exact⟨h1,h2⟩;exact h.c x hx,by rw[put_len];exact h.few,by rw[put_len];exact h.one,fun i hi=>h.w i (by rw[put_len] at hi;exact hi),h.told⟩
theorem mp_ok_zero:Mp.zero.ok:=by
 refine⟨?_,?_,?_,?_⟩<;>(show bX 0;unfold bX;omega)
end Sc
section
variable {s:Ms} {r:Int} {gone:List Int} {X:Int→Prop}
theorem nK(s:Ms)(L:Nat)(t a:Int):∀is:List Nat,(∀i∈is,bv (ar s t i) L=0∧((aC (ar s t i) L).there =B∧(aC (ar s t i) L).leaf =C→(gj s L (aC (ar s t i) L).frame (a*8+i)).code =0))→(cK s L t a (gj s L) is).code =0
 | [],_=>rfl
 |i::is,h=>by
  obtain⟨h1,h2⟩:=h i (List.mem_cons_self ..);have ih:=nK s L t a is fun j hj=>h j (List.mem_cons_of_mem _ hj);unfold cK;rw[if_neg (by rw[h1];simp)];dsimp only;by_cases he:(aC (ar s t i) L).there =B∧(aC (ar s t i) L).leaf =C
  ·rw[if_pos he,if_neg (by rw[h2 he];simp)]
   exact ih
  ·rw[if_neg he,if_neg (by simp)]
   exact ih
structure pN (s:Ms) (r:Int) (L:Nat) (t a:Int):Prop where
 code:(bV s L t a).code =0
 maps:∀m∈bH (bV s L t a).vs,MapOk m∧a*az (L+1)≤m.page∧m.page+bE m.size≤(a+1)*az (L+1)
 up:(bH (bV s L t a).vs).Pairwise fun x y=>x.page+bE x.size≤y.page
 tabs:∀u,u∈bL (bV s L t a).vs ↔∃q e,cH q∧q / az (L+1)=a∧3 - L<e∧e≤3∧aW s r q e=D u
 nd:(bL (bV s L t a).vs).Nodup
theorem uL{q a:Int}{L i:Nat}(hq:cH q)(hL:L≤3)(h:q / az (L+1)=a)(hi:ai q L=i):q / az L=a*8+i:=by
 have h0:=eG L;rw[dD,Int.mul_comm,←Int.ediv_ediv_of_nonneg (by omega)] at h;unfold ai at hi;rw[if_pos ⟨hq.1,hq.2,by omega,by omega⟩,Int.toNat_natCast] at hi;omega
structure zZ (s:Ms) (r:Int) (L:Nat) (t a:Int) (i:Nat):Prop where
 code:bv (ar s t i) L=0∧((aC (ar s t i) L).there =B∧(aC (ar s t i) L).leaf =C→(gj s L (aC (ar s t i) L).frame (a*8+i)).code =0)
 maps:∀m∈fX s L t a i,MapOk m∧(a*8+i)*az L≤m.page∧m.page+bE m.size≤(a*8+i+1)*az L
 up:(fX s L t a i).Pairwise fun x y=>x.page+bE x.size≤y.page
 tabs:∀u,u∈dQ s L t a i↔∃q e,cH q∧q / az L=a*8+i∧3 - L<e∧e≤3∧aW s r q e=D u
 nd:(dQ s L t a i).Nodup
theorem q5{w:Int}{L:Nat}{p:Int}(hp:cH p)(hc:bv w L=0)(hl:(aC w L).leaf =B):MapOk (aK (aC w L) L p)∧aK (aC w L) L p=⟨p / az L*az L,L,(aC w L).frame,(aC w L).rights⟩∧L<3:=by
 obtain⟨ht,_,h3,_,hf⟩:=gO hc hl;have h3':L<3:=by omega
 have hs:=dR h3';have e1:=fL hp hf hl hs;have hk:=dB hf ht;have hL:=(hk.leaf hl).2;rw[hs] at hL;have k1:=hk.r0;have k2:=hk.r7;have k3:=hk.f0;have k4:=hk.f1;have hp':0≤p∧p<4096:=hp;refine⟨?_,e1,h3'⟩;rw[e1];refine dL ?_;unfold bp;dsimp only;rw[hs];have h8:=eG L;have hd:L=0∨L=1∨L=2:=by omega
 rw[if_neg (by omega),if_neg,if_neg]
 ·rw[Int.mul_emod_left];omega
 ·generalize (aC w L).rights =ri at*
  generalize (aC w L).frame =fr at*
  clear e1 ht hl hf hk hL hs h8 hc;rcases hd with h|h|h<;>rw[h]<;>simp only[az]<;>omega
theorem yU(hw:Wf s r gone X){L:Nat}(hL:L≤3){p t a:Int}(hp:cH p)(ht:aW s r p (3 - L)=D t)(ha:p / az (L+1)=a)(i:Nat)(hi:i<8)
  (ih:∀K,L=K+1→∀{q u:Int},cH q→aW s r q (3 - K)=D u→pN s r K u (q / az (K+1))):zZ s r L t a i:=by
 obtain⟨q,hq,hpre,hix,hmod⟩:=ly hp hL i hi;rw[ha] at hpre;have hq8:=uL hq hL hpre hix;have e33:3 - (3 - L)=L:=by omega
 have hqt:aW s r q (3 - L)=D t:=by
  rw[←ht];refine bI s r hq hp (3 - L) (by omega) ?_;rw[show 4 - (3 - L)=L+1 by omega,hpre,ha]
 have hdec:bv (ar s t i) L=0:=by
  have:=hw.dec hq (show 3 - L≤3 by omega) hqt i hi;rw[e33] at this;exact this
 have h0:=eG L;have hqe:q=(a*8+i)*az L:=by
  have:=Int.mul_ediv_add_emod q (az L);rw[hq8,hmod] at this;rw[Int.mul_comm];omega
 by_cases hl:(aC (ar s t i) L).leaf =B
 ·obtain⟨m1,m2,h3⟩:=q5 hq hdec hl
  have hc:fX s L t a i=[aK (aC (ar s t i) L) L q]:=by
   unfold fX;dsimp only;rw[if_pos hl,hqe]
  have hT:dQ s L t a i=[]:=by
   unfold dQ;dsimp only;rw[if_neg (by rw[hl];simp)]
  refine⟨⟨hdec,fun h=>by rw[hl] at h;cases h.2⟩,fun m hm=> ?_,?_,fun u=> ?_,by rw[hT];exact List.nodup_nil⟩
  ·rw[hc,List.mem_singleton] at hm
   subst hm;refine⟨m1,?_,?_⟩
   ·rw[m2,hq8];exact Int.le_refl _
   ·rw[m2,hq8]
    dsimp only;rw[dR h3];have:(a*8+(i:Int)+1)*az L=(a*8+i)*az L+az L:=by rw[Int.add_mul (a*8+i) 1,Int.one_mul]
    omega
  ·rw[hc];exact List.pairwise_singleton _ _
  ·rw[hT]
   constructor
   ·intro h;cases h
   ·rintro⟨x,e,hx,hx8,h1,h2,h3⟩
    exfalso;have hxt:aW s r x (3 - L)=D t:=by
     rw[←hqt];refine bI s r hx hq (3 - L) (by omega) ?_;rw[show 4 - (3 - L)=L+1 by omega];exact gQ (by omega) (hx8.trans hq8.symm)
    have hxi:ai x L=i:=by rw[gu hx hq (hx8.trans hq8.symm)];exact hix
    have hg:gP s x t (3 - (3 - L))=C:=by
     rw[e33];unfold gP cq;rw[hxi,hl];simp
    rw[bj (cR hxt hg) e (by omega)] at h3;cases h3
 ·have hl':(aC (ar s t i) L).leaf =C:=by simpa using hl
  by_cases hth:(aC (ar s t i) L).there =B
  ·
   have hg:gP s q t L=B:=by
    refine iS.2 ⟨(hw.at_ hq (show 3 - L≤3 by omega) hqt).1,by rw[hix];exact hdec,?_,?_⟩
    ·unfold cq;rw[hix];exact hth
    ·unfold cq;rw[hix];exact hl'
   cases L with
   |zero=>
    exfalso;rcases d9 hdec with h|h
    ·have h':(aC (ar s t i) (0:Nat)).there =C:=h
     rw[h'] at hth;cases hth
    ·exact hl h
   |succ K=>
    have hv:aW s r q (3 - K)=D (aC (ar s t i) (K+1:Nat)).frame :=by
     rw[show 3 - K=3 - (K+1)+1 by omega];refine eX.2 ⟨t,hqt,by rw[e33];exact hg,?_⟩;rw[e33];unfold cq;rw[hix]
    have hA:=ih K rfl hq hv;rw[hq8] at hA;have hc:fX s (K+1) t a i=bH (bV s K (aC (ar s t i) (K+1:Nat)).frame (a*8+i)).vs :=by
     unfold fX;dsimp only;rw[if_neg hl,if_pos hth];rfl
    have hT:dQ s (K+1) t a i=(aC (ar s t i) (K+1:Nat)).frame ::bL (bV s K (aC (ar s t i) (K+1:Nat)).frame (a*8+i)).vs :=by
     unfold dQ;dsimp only;rw[if_pos ⟨hth,hl'⟩];rfl
    refine⟨⟨hdec,fun _=>hA.code⟩,fun m hm=> ?_,by rw[hc];exact hA.up,fun u=> ?_,?_⟩
    ·rw[hc] at hm
     exact hA.maps m hm
    ·rw[hT,List.mem_cons,hA.tabs u]
     constructor
     ·rintro(rfl|⟨x,e,hx,hx8,h1,h2,h3⟩)
      ·exact⟨q,3 - K,hq,hq8,by omega,by omega,hv⟩
      ·exact⟨x,e,hx,hx8,by omega,h2,h3⟩
     ·rintro⟨x,e,hx,hx8,h1,h2,h3⟩
      by_cases he:e=3 - K
      ·subst he
       have:aW s r x (3 - K)=aW s r q (3 - K):=by
        refine bI s r hx hq (3 - K) (by omega) ?_;rw[show 4 - (3 - K)=K+1 by omega];exact hx8.trans hq8.symm
       rw[h3,hv] at this;injection this with this
       exact .inl this
      ·exact .inr ⟨x,e,hx,hx8,by omega,h2,h3⟩
    ·rw[hT,List.nodup_cons]
     refine⟨fun hm=> ?_,hA.nd⟩;obtain⟨x,e,hx,hx8,h1,h2,h3⟩:=(hA.tabs _).1 hm;have:=(hw.inj x q e (3 - K) _ hx hq h2 (by omega) h3 hv).1;omega
  ·
   have hc:fX s L t a i=[]:=by
    unfold fX;dsimp only;rw[if_neg hl,if_neg hth]
   have hT:dQ s L t a i=[]:=by
    unfold dQ;dsimp only;rw[if_neg (fun h=>hth h.1)]
   refine⟨⟨hdec,fun h=>absurd h.1 hth⟩,fun m hm=>(by rw[hc] at hm;cases hm),(by rw[hc];exact List.Pairwise.nil),fun u=> ?_,(by rw[hT];exact List.nodup_nil)⟩;rw[hT];constructor
   ·intro h;cases h
   ·rintro⟨x,e,hx,hx8,h1,h2,h3⟩
    exfalso;have hxt:aW s r x (3 - L)=D t:=by
     rw[←hqt];refine bI s r hx hq (3 - L) (by omega) ?_;rw[show 4 - (3 - L)=L+1 by omega];exact gQ (by omega) (hx8.trans hq8.symm)
    have hxi:ai x L=i:=by rw[gu hx hq (hx8.trans hq8.symm)];exact hix
    have hth':(aC (ar s t i) L).there =C:=by simpa using hth
    have hg:gP s x t (3 - (3 - L))=C:=by
     rw[e33];unfold gP cq;rw[hxi,hth'];simp
    rw[bj (cR hxt hg) e (by omega)] at h3;cases h3
theorem pO(hw:Wf s r gone X){L:Nat}(hL:L≤3){p t:Int}(hp:cH p)(ht:aW s r p (3 - L)=D t)
  (ih:∀K,L=K+1→∀{q u:Int},cH q→aW s r q (3 - K)=D u→pN s r K u (q / az (K+1))):pN s r L t (p / az (L+1)):=by
 have hone:=fun i hi=>yU hw hL hp ht rfl i hi ih;generalize hpa:p / az (L+1)=a at*
 have hhas:=(hw.at_ hp (show 3 - L≤3 by omega) ht).1;have hcode:(cK s L t a (gj s L) (List.range 8)).code =0:=nK s L t a _ fun i hi=>(hone i (List.mem_range.1 hi)).code;obtain⟨_,hm,hT⟩:=lx s L t a (List.range 8) hcode;have ee:bV s L t a=cK s L t a (gj s L) (List.range 8):=by rw[iy,hhas];rfl
 have h8:=eG L;have hexp:a*az (L+1)=a*8*az L:=by rw[dD,Int.mul_assoc]
 have hexp1:(a+1)*az (L+1)=a*8*az L+8*az L:=by rw[Int.add_mul,Int.one_mul,hexp,dD]
 have hrg:∀i:Nat,(a*8+(i:Int))*az L=a*8*az L+i*az L:=fun i=>Int.add_mul _ _ _;have hrg1:∀i:Nat,(a*8+(i:Int)+1)*az L=a*8*az L+i*az L+az L:=fun i=>by rw[Int.add_mul,Int.add_mul,Int.one_mul]
 have hmul:∀i j:Nat,i≤j→(i:Int)*az L≤j*az L:=fun i j h=>Int.mul_le_mul_of_nonneg_right (by omega) (by omega);refine⟨by rw[ee];exact hcode,fun m hmm=> ?_,?_,fun u=> ?_,?_⟩
 ·rw[ee,hm] at hmm
  obtain⟨i,hi,hmi⟩:=List.mem_flatMap.1 hmm;have hi8:=List.mem_range.1 hi;obtain⟨c1,c2,c3⟩:=(hone i hi8).maps m hmi;rw[hrg] at c2;rw[hrg1] at c3;have a1:=hmul 0 i (by omega);have a2:=hmul (i+1) 8 (by omega);refine⟨c1,by rw[hexp];simp at a1;omega,?_⟩;rw[hexp1];have e2:((i+1:Nat):Int)*az L=i*az L+az L:=by rw[Int.natCast_add,Int.add_mul];simp
  have e3:((8:Nat):Int)*az L=8*az L:=rfl;omega
 ·rw[ee,hm,List.pairwise_flatMap]
  refine⟨fun i hi=>(hone i (List.mem_range.1 hi)).up,?_⟩;rw[List.pairwise_iff_getElem];intro i j hi hj hij x hx y hy;simp only[List.length_range] at hi hj;simp only[List.getElem_range] at hx hy;obtain⟨_,_,c3⟩:=(hone i hi).maps x hx;obtain⟨_,d2,_⟩:=(hone j hj).maps y hy;rw[hrg1] at c3;rw[hrg] at d2;have a2:=hmul (i+1) j (by omega);have e2:((i+1:Nat):Int)*az L=i*az L+az L:=by rw[Int.natCast_add,Int.add_mul];simp
  omega
 ·rw[ee,hT,List.mem_flatMap]
  constructor
  ·rintro⟨i,hi,hu⟩
   obtain⟨q,e,hq,hq8,h1,h2,h3⟩:=((hone i (List.mem_range.1 hi)).tabs u).1 hu;refine⟨q,e,hq,?_,h1,h2,h3⟩;rw[dD,Int.mul_comm,←Int.ediv_ediv_of_nonneg (by omega),hq8];have:=List.mem_range.1 hi;omega
  ·rintro⟨q,e,hq,hq8,h1,h2,h3⟩
   have hi:=bR hq hL;refine⟨(ai q L).toNat,List.mem_range.2 (by omega),((hone _ (by omega)).tabs u).2 ⟨q,e,hq,?_,h1,h2,h3⟩⟩;exact uL hq hL hq8 (by omega)
 ·rw[ee,hT]
  unfold List.Nodup;rw[List.pairwise_flatMap];refine⟨fun i hi=>(hone i (List.mem_range.1 hi)).nd,?_⟩;rw[List.pairwise_iff_getElem];intro i j hi hj hij x hx y hy hxy;simp only[List.length_range] at hi hj;simp only[List.getElem_range] at hx hy;subst hxy;obtain⟨q,e,hq,hq8,h1,h2,h3⟩:=((hone i hi).tabs x).1 hx;obtain⟨q',e',hq',hq8',h1',h2',h3'⟩:=((hone j hj).tabs x).1 hy;obtain⟨rfl,hpre⟩:=hw.inj q q' e e' x hq hq' h2 h2' h3 h3';have:=gQ (show 4 - e≤L by omega) hpre;omega
theorem yV(hw:Wf s r gone X):∀L,L≤3→∀{p t:Int},cH p→aW s r p (3 - L)=D t→pN s r L t (p / az (L+1)):=by
 intro L;induction L with
 |zero=>intro hL p t hp ht;exact pO hw hL hp ht fun K hK=>by omega
 |succ L ih=>
  intro hL p t hp ht;refine pO hw hL hp ht fun K hK=> ?_;obtain rfl:L=K:=by omega
  exact ih (by omega)
def cJ(s:Ms)(r:Int):List Mp:=bH (bV s 3 r 0).vs
def fi(s:Ms)(r:Int):List Int:=r::bL (bV s 3 r 0).vs
theorem fE(hw:Wf s r gone X):(bV s 3 r 0).code =0∧Lk s r (cJ s r)∧(fi s r).Nodup ∧∀t,t∈fi s r↔rZ s r t:=by
 have hA:pN s r 3 r ((0:Int) / az (3+1)):=yV hw 3 (by omega) (show cH 0 from⟨by omega,by omega⟩) rfl;have e0:(0:Int) / az (3+1)=0:=by decide
 rw[e0] at hA;have htop:∀q,cH q→q / az (3+1)=0:=fun q hq=>by
  have h4:az (3+1)=4096:=rfl;rw[h4];have:=hq.1;have:=hq.2;omega
 refine⟨hA.code,⟨⟨fun m hm=>(hA.maps m hm).1,hA.up⟩,fun q hq=> ?_⟩,?_,fun t=> ?_⟩
 ·have hl:=(vR s q hq.1 hq.2 3 (by omega) r 0 [] hA.code (by omega) (by decide)).2 (htop q hq)
  have hwy:bo s r q=cQ s q 3 r []:=by
   unfold bo;rw[if_pos (by unfold cN;rw[decide_eq_true hq.1,decide_eq_true hq.2];rfl)]
  show(bH (bV s 3 r 0).vs).find? (fun m=>over m q)=ba s r q;rw[←List.head?_filter,hl.2.1,←hwy];unfold ba;split<;>rfl
 ·unfold fi
  rw[List.nodup_cons];refine⟨fun hm=> ?_,hA.nd⟩;obtain⟨q,e,hq,_,h1,h2,h3⟩:=(hA.tabs r).1 hm;have:=(hw.inj q q e 0 r hq hq h2 (by omega) h3 rfl).1;omega
 ·unfold fi
  rw[List.mem_cons,hA.tabs t];constructor
  ·rintro(rfl|⟨q,e,hq,_,h1,h2,h3⟩)
   ·exact⟨0,0,⟨by omega,by omega⟩,by omega,rfl⟩
   ·exact⟨q,e,hq,h2,h3⟩
  ·rintro⟨q,e,hq,h2,h3⟩
   cases e with
   |zero=>injection h3 with h3;exact .inl h3.symm
   |succ e=>exact .inr ⟨q,e+1,hq,htop q hq,by omega,h2,h3⟩
end
section
variable {s s':Ms} {r:Int} {gone:List Int} {X:Int→Prop}
theorem sW(hw:∀a b,s'.wd a b=s.wd a b∨s'.wd a b=0)(hh:∀u,s'.has u=s.has u){q:Int}:∀(d:Nat) (t:Int),d≤4→aW s' r q d=D t→aW s r q d=D t:=by
 intro d;induction d with
 |zero=>intro t _ h;exact h
 |succ d ih=>
  intro t hd h;obtain⟨u,hu,hg,hf⟩:=eX.1 h;refine eX.2 ⟨u,ih u (by omega) hu,?_⟩;have g3:=(iS.1 hg).2.2.1;have e:ar s' u (ai q (3 - d:Nat))=ar s u (ai q (3 - d:Nat)):=by
   rcases hw u.toNat (ai q (3 - d:Nat)).toNat with e|e
   ·exact e
   ·have e:ar s' u (ai q (3 - d:Nat))=0:=e
    unfold cq at g3;rw[e,(dC (by omega)).2] at g3;cases g3
  unfold gP cq at hg;unfold cq at hf;rw[e,hh] at hg;rw[e] at hf;unfold gP cq;exact⟨hg,hf⟩
theorem sX(hu:∀u i,s.has u=B→0≤i→s'.has u=B∧(ar s u i=0∨ar s' u i=ar s u i)){q:Int}(hq:cH q):∀(d:Nat) (t:Int),d≤4→aW s r q d=D t→aW s' r q d=D t:=by
 intro d;induction d with
 |zero=>intro t _ h;exact h
 |succ d ih=>
  intro t hd h;obtain⟨u,hu',hg,hf⟩:=eX.1 h;refine eX.2 ⟨u,ih u (by omega) hu',?_⟩;obtain⟨g1,_,g3,_⟩:=iS.1 hg;have hi:=bR hq (show 3 - d≤3 by omega);obtain⟨k1,k2⟩:=hu u (ai q (3 - d:Nat)) g1 hi.1;have e:ar s' u (ai q (3 - d:Nat))=ar s u (ai q (3 - d:Nat)):=by
   rcases k2 with e|e
   ·unfold cq at g3
    rw[e,(dC (by omega)).2] at g3;cases g3
   ·exact e
  unfold gP cq at hg;unfold cq at hf;unfold gP cq;rw[e,k1];rw[g1] at hg;exact⟨hg,hf⟩
theorem kH(s:Ms)(t i:Nat)(a b:Nat):(s.setW t i 0).wd a b=s.wd a b∨(s.setW t i 0).wd a b=0:=by
 show(if a=t∧b=i then(0:Int) else s.wd a b)=_∨(if a=t∧b=i then(0:Int) else s.wd a b)=0;split
 ·exact .inr rfl
 ·exact .inl rfl
theorem sY{p:Int}{tabs:List Int}:∀(k:Nat) (s:Ms) (a b:Nat),(fy p tabs k s).1.wd a b=s.wd a b∨(fy p tabs k s).1.wd a b=0:=by
 intro k;induction k with
 |zero=>intro s a b;exact kH _ _ _ _ _
 |succ k ih=>
  intro s a b;unfold fy;split
  ·rcases ih (s.setW (tabs.getD (k+1) 0).toNat (ai p (3 - (k+1):Nat)).toNat 0) a b with e|e
   ·rw[e]
    exact kH _ _ _ _ _
   ·exact .inr e
  ·exact kH _ _ _ _ _
theorem sZ(s:Ms)(r p:Int)(a b:Nat):(dn s r p).wd a b=s.wd a b∨(dn s r p).wd a b=0:=by
 unfold dn;split
 ·exact sY _ _ _ _
 ·exact .inl rfl
theorem uM(hw:Wf s r gone (fun _=>False))(hi:s.Inv){p:Int}(hf:bm s r p=0){q t:Int}{d:Nat}(hq:cH q)(hd:d≤3)(ht:aW s r q d=D t):
  aW (dn s r p) r q d=D t∨(t∈gR s r p∧ba (dn s r p) r q=F):=by
 obtain⟨w1,_,w3,_,w5,w6⟩:=mQ hw hi hf;have hh:∀u,(dn s r p).has u=s.has u:=fun u=>by unfold Ms.has;rw[w3,w5]
 have htu:=hw.nat hq hd ht;have hu:(dn s r p).tk t.toNat=B:=by rw[w5];exact htu.2.2
 rcases(w1.use t.toNat).1 hu with hT|hG
 ·rw[Int.toNat_of_nonneg htu.1] at hT
  obtain⟨q',d',hq',hd',ht'⟩:=hT;have h1:=sW (sZ s r p) hh d' t (by omega) ht';obtain⟨e,hpre⟩:=hw.inj q' q d' d t hq' hq hd' hd h1 ht;subst e;left;rw[←ht'];exact bI _ r hq hq' d' (by omega) hpre.symm
 ·rw[Int.toNat_of_nonneg htu.1] at hG
  have hng:t ∉ gone:=fun h=>hw.gt t h ⟨q,d,hq,hd,ht⟩;have hr:t∈gR s r p:=by
   rw[List.mem_append,List.mem_reverse] at hG;exact hG.resolve_right hng
  refine .inr ⟨hr,?_⟩;obtain⟨m1,m2⟩:=w6 q hq;by_cases ho:over (bJ s r p) q=B
  ·rw[m1,if_pos ho]
  ·rw[m1,if_neg ho]
   cases hm:ba s r q with
   |none=>rfl
   |some m=>
    exfalso;have hway:=m2 (by simpa using ho) (by rw[hm];simp);obtain⟨e,u,he⟩:=hw.ends q hq;obtain⟨e',u',he'⟩:=w1.ends q hq;rw[bM hq.1 hq.2 he',bM hq.1 hq.2 he] at hway;injection hway with _ htabs _ _
    have hl:=congrArg List.length htabs;rw[kR,kR] at hl;obtain rfl:e'=e:=by omega
    have hde:d≤e':=by
     rcases Nat.lt_or_ge e' d with h|h
     ·have:=bj (cR he.tab he.no) d h
      rw[ht] at this;cases this
     ·exact h
    obtain⟨v,hv⟩:=du he'.tab hde;have hg:=congrArg (fun l=>l.getD d 0) htabs;rw[iF hv (by omega),iF ht (by omega)] at hg;subst hg;exact w1.gt v (by rw[List.mem_append,List.mem_reverse];exact .inl hr) ⟨q,d,hq,hd,hv⟩
theorem tb{p lw:Int}{sz:Nat}:∀(n:Nat) (t:Int) (s:Ms),s.Inv→s.n≤128→sz+n≤3→(dS s p lw sz n t).n =s.n∧∀a b,s.tk a=B→(dS s p lw sz n t).tk a=B∧((a=t.toNat∧b=(ai p (sz+n:Nat)).toNat)∨(dS s p lw sz n t).wd a b=s.wd a b):=by
 intro n;induction n with
 |zero=>
  intro t s _ _ _;refine⟨rfl,fun a b ha=>⟨ha,?_⟩⟩;show _∨(if a=t.toNat∧b=(ai p sz).toNat then lw else s.wd a b)=s.wd a b;by_cases h:a=t.toNat∧b=(ai p sz).toNat
  ·exact .inl h
  ·right;rw[if_neg h]
 |succ n ih=>
  intro t s hi hn hs;unfold dS;cases hk:s.top with
  |none=>exact⟨rfl,fun a b ha=>⟨ha,.inr rfl⟩⟩
  |some k=>
   dsimp only;obtain⟨k1,k2⟩:=Ms.top_lt hi hk;have hI:((s.take k).setW t.toNat (ai p (sz+n+1:Nat)).toNat (iT k (sz+n+1))).Inv :=(hi.take hk).setW _ _ (m9 (by omega) (by omega) (by omega) (by omega));obtain⟨i1,i2⟩:=ih k _ hI hn (by omega);refine⟨i1,fun a b ha=> ?_⟩;have hak:a≠k:=by rintro rfl;rw[k2] at ha;cases ha
   have ha':((s.take k).setW t.toNat (ai p (sz+n+1:Nat)).toNat (iT k (sz+n+1))).tk a=B:=by
    show ch s.tk k B a=B;rw[g9 _ _ hak];exact ha
   obtain⟨j1,j2⟩:=i2 a b ha';refine⟨j1,?_⟩;rcases j2 with j2|j2
   ·have:=j2.1
    simp at this;exact absurd this hak
   ·rw[j2]
    show _∨(if a=t.toNat∧b=(ai p (sz+n+1:Nat)).toNat then iT k (sz+n+1) else(if a=k then 0 else s.wd a b))=s.wd a b;by_cases h:a=t.toNat∧b=(ai p (sz+n+1:Nat)).toNat
    ·exact .inl h
    ·right;rw[if_neg h,if_neg hak]
theorem uN(hw:Wf s r gone (fun _=>False))(hi:s.Inv)(hn:s.n≤128)(x:Mp){q t:Int}{d:Nat}(hq:cH q)(hd:d≤3)(ht:aW s r q d=D t):aW (eB s r x) r q d=D t:=by
 unfold eB;by_cases hc:dm s r x=0
 ·rw[if_pos hc]
  unfold dm at hc;by_cases hk:bp x=0
  ·have hx:=dL hk
   have hp:=hx.inP;have hwc:=(jx hw hp).1;rw[if_neg (by omega),if_neg (by rw[hwc];simp)] at hc;by_cases h:(bo s r x.page).e.there =B∨(bo s r x.page).lev <x.size
   ·rw[if_pos h] at hc;cases hc
   rw[not_or] at h;obtain⟨d0,t0,he⟩:=hw.ends _ hp;have hle:=he.le;rw[bM hp.1 hp.2 he] at h⊢;dsimp only at h⊢;obtain⟨z,hz,hz3⟩:∃z:Nat,x.size=z∧z<3:=by
    rcases hx.size with ⟨a,_⟩|⟨a,_⟩|⟨a,_⟩
    ·exact⟨0,a,by omega⟩
    ·exact⟨1,a,by omega⟩
    ·exact⟨2,a,by omega⟩
   rw[iW he.tab];rw[hz] at h⊢;have ht0:(cq s x.page t0 (3 - d0)).there =C:=by simpa using h.1
   have hz0:=(he.not ht0).2;have e1:(z:Int).toNat =z:=by omega
   have e2:(((3 - d0:Nat):Int) - (z:Int)).toNat =3 - d0 - z:=by omega
   rw[e1,e2];have hzd:z≤3 - d0:=by have:=h.2;omega
   have hsum:z+(3 - d0 - z)=3 - d0:=by omega
   obtain⟨c1,c2⟩:=tb (p:=x.page) (lw:=bF (dU x) z) (sz:=z) (3 - d0 - z) t0 s hi hn (by omega);rw[hsum] at c2;have hpi:=bR hp (show 3 - d0≤3 by omega);refine sX (fun u i hu hi0=> ?_) hq d t (by omega) ht;obtain⟨u0,u1,u2⟩:=G.1 hu;obtain⟨j1,j2⟩:=c2 u.toNat i.toNat u2;refine⟨G.2 ⟨u0,by rw[c1];exact u1,j1⟩,?_⟩;rcases j2 with ⟨a,b⟩|j2
   ·left
    have htu:=(hw.nat hp he.le he.tab).1;obtain rfl:u=t0:=by omega
    obtain rfl:i=ai x.page (3 - d0:Nat):=by omega
    exact hz0
   ·exact .inr j2
  ·rw[if_pos hk] at hc;exact absurd hc hk
 ·rw[if_neg hc];exact ht
theorem iu:∀(l:List Int) (s:Ms),s.Inv→(bK s l).Inv ∧(bK s l).n =s.n∧(bK s l).wd =s.wd∧∀a:Nat,(bK s l).tk a=B↔s.tk a=B∧(a:Int) ∉ l:=by
 intro l;induction l with
 |nil=>intro s hi;exact⟨hi,rfl,rfl,fun a=>by simp[bK]⟩
 |cons k l ih=>
  intro s hi;show(bK (s.giveS k) l).Inv ∧_;cases hk:s.has k with
  |true=>
   have e:s.giveS k=s.give k.toNat:=by unfold Y;rw[if_pos hk]
   rw[show bK s (k::l)=bK (s.give k.toNat) l by rw[←e];rfl,e];obtain⟨k0,k1,k2⟩:=G.1 hk;obtain⟨i1,i2,i3,i4⟩:=ih (s.give k.toNat) (hi.give k2);refine⟨i1,i2,i3,fun a=> ?_⟩;rw[i4 a];show ch s.tk k.toNat C a=B∧_↔_;by_cases h:a=k.toNat
   ·subst h
    rw[kM];have:((k.toNat:Nat):Int)=k:=by omega
    rw[this];simp
   ·rw[g9 _ _ h]
    have:(a:Int)≠k:=by omega
    simp[this]
  |false=>
   have e:s.giveS k=s:=by unfold Y;rw[if_neg (by rw[hk];simp)]
   rw[e,show bK s (k::l)=bK s l from(congrArg (fun x=>bK x l) e:bK (s.giveS k) l=bK s l)];obtain⟨i1,i2,i3,i4⟩:=ih s hi;refine⟨i1,i2,i3,fun a=> ?_⟩;rw[i4 a];constructor
   ·rintro⟨a1,a2⟩
    refine⟨a1,fun hm=> ?_⟩;rcases List.mem_cons.1 hm with h|h
    ·have hl:=hi.tkl a a1
     have hle:=hi.le;rw[←h] at hk;rw[Ms.has_nat hi,a1] at hk;cases hk
    ·exact a2 h
   ·rintro⟨a1,a2⟩
    exact⟨a1,fun hm=>a2 (List.mem_cons_of_mem _ hm)⟩
theorem fS(hw:Wf s r gone X)(hi:s.Inv){q:Int}(hq:cH q):∀d,d≤4→aW (bK s gone) r q d=aW s r q d:=by
 obtain⟨_,g2,g3,g4⟩:=iu gone s hi;intro d;induction d with
 |zero=>intro _;rfl
 |succ d ih=>
  intro hd;show(aW (bK s gone) r q d).bind _=(aW s r q d).bind _;rw[ih (by omega)];cases hu:aW s r q d with
  |none=>rfl
  |some u=>
   simp only[Option.bind_some];have hh:(bK s gone).has u=s.has u:=by
    rw[Bool.eq_iff_iff,G,G,g2,g4];constructor
    ·rintro⟨a,b,c,_⟩;exact⟨a,b,c⟩
    ·rintro⟨a,b,c⟩
     refine⟨a,b,c,fun hm=> ?_⟩;rw[Int.toNat_of_nonneg a] at hm;exact hw.gt u hm ⟨q,d,hq,by omega,hu⟩
   unfold gP cq ar;rw[hh,g3]
theorem nL(hw:Wf s r gone X)(hi:s.Inv){q t:Int}{d:Nat}(hq:cH q)(he:Ends s r q d t):Ends (bK s gone) r q d t∧cq (bK s gone) q t (3 - d)=cq s q t (3 - d):=by
 obtain⟨_,g2,g3,g4⟩:=iu gone s hi;have hw':∀i,ar (bK s gone) t i=ar s t i:=fun i=>by unfold ar;rw[g3]
 have hh:(bK s gone).has t=B:=by
  obtain⟨a,b,c⟩:=G.1 he.use;refine G.2 ⟨a,by rw[g2];exact b,(g4 _).2 ⟨c,fun hm=> ?_⟩⟩;rw[Int.toNat_of_nonneg a] at hm;exact hw.gt t hm ⟨q,d,hq,he.le,he.tab⟩
 refine⟨⟨he.le,(fS hw hi hq d (by have:=he.le;omega)).trans he.tab,hh,by rw[hw'];exact he.dec,?_⟩,by unfold cq;rw[hw']⟩;have:=he.no;unfold gP cq at this⊢;rw[hw',hh];rw[he.use] at this;exact this
theorem pP(hw:Wf s r gone X)(hi:s.Inv){q:Int}(hq:cH q):bo (bK s gone) r q=bo s r q:=by
 obtain⟨d,t,he⟩:=hw.ends q hq;obtain⟨h1,h2⟩:=nL hw hi hq he;rw[bM hq.1 hq.2 h1,bM hq.1 hq.2 he,h2];have:ct (bK s gone) r q (d+1)=ct s r q (d+1):=by
  unfold ct;refine List.map_congr_left fun x hx=> ?_;rw[fS hw hi hq x (by have:=List.mem_range.1 hx;have:=he.le;omega)]
 rw[this]
theorem uO(hw:Wf s r gone X)(hi:s.Inv)(t:Int):rZ (bK s gone) r t↔rZ s r t:=by
 constructor
 ·rintro⟨q,d,hq,hd,h⟩;exact⟨q,d,hq,hd,by rw[←fS hw hi hq d (by omega)];exact h⟩
 ·rintro⟨q,d,hq,hd,h⟩;exact⟨q,d,hq,hd,by rw[fS hw hi hq d (by omega)];exact h⟩
theorem Wf.give(hw:Wf s r gone X)(hi:s.Inv):Wf (bK s gone) r [] X:=by
 obtain⟨_,g2,g3,g4⟩:=iu gone s hi;refine⟨fun p hp=> ?_,fun p q d e t hp hq hd he h1 h2=> ?_,fun p d t hp hd h=> ?_,fun k=> ?_,List.nodup_nil,fun g hg=>(by cases hg),fun g hg=>(by cases hg)⟩
 ·obtain⟨d,t,he⟩:=hw.ends p hp
  exact⟨d,t,(nL hw hi hp he).1⟩
 ·rw[fS hw hi hp d (by omega)] at h1
  rw[fS hw hi hq e (by omega)] at h2;exact hw.inj p q d e t hp hq hd he h1 h2
 ·rw[fS hw hi hp (d+1) (by omega)] at h
  have:=hw.full p d t hp hd h;unfold ar at this⊢;rw[g3];exact this
 ·rw[g4 k,hw.use k,uO hw hi]
  constructor
  ·rintro⟨a|a,b⟩
   ·exact .inl a
   ·exact absurd a b
  ·rintro(a|a)
   ·exact⟨.inl a,fun hm=>hw.gt _ hm a⟩
   ·cases a
end
def yW(o:Option Mp)(a:Ac):An:=match o with|none=>⟨1,0,0⟩|some m=>cv m a
def OnTree(s:Ms)(r:Int)(k:Ck):Prop:=∃d:Nat,d≤3∧k.level=((3 - d:Nat):Int)∧aW s r k.a.page d=D k.t
def Lost(s:Ms)(r:Int)(gone:List Int)(k:Ck):Prop:=k.t∈gone∧ba s r k.a.page=F
structure Marked (s s':Ms) (r:Int):Prop where
 n:s'.n=s.n
 tk:∀u,s'.tk u=s.tk u
 fr:s'.frees=s.frees
 tab:∀q,cH q→∀d,d≤4→aW s' r q d=aW s r q d
 map:∀q,cH q→ba s' r q=ba s r q
 lev:∀q,cH q→(bo s' r q).lev =(bo s r q).lev
 used:∀q,cH q→(bo s r q).e.used =B→(bo s' r q).e.used =B
 dirty:∀q,cH q→(bo s r q).e.dirty =B→(bo s' r q).e.dirty =B
theorem Marked.refl(s:Ms)(r:Int):Marked s s r:=⟨rfl,fun _=>rfl,rfl,fun _ _ _ _=>rfl,fun _ _=>rfl,fun _ _=>rfl,fun _ _ h=>h,fun _ _ h=>h⟩
structure Kept (s:Ms) (r:Int) (x:Ln):Prop where
 inP:cH x.m.page
 map:ba s r x.m.page=D x.m
 used:(bo s r x.m.page).e.used =B
 dirty:x.dirty=B→(bo s r x.m.page).e.dirty =B
theorem Kept.mark{s s':Ms}{r:Int}{x:Ln}(h:Kept s r x)(m:Marked s s' r):Kept s' r x:=
 ⟨h.inP,(m.map _ h.inP).trans h.map,m.used _ h.inP h.used,fun d=>m.dirty _ h.inP (h.dirty d)⟩
theorem OnTree.mark{s s':Ms}{r:Int}{k:Ck}(hp:cH k.a.page)(h:OnTree s r k)(m:Marked s s' r):OnTree s' r k:=by
 obtain⟨d,hd,hl,ht⟩:=h;exact⟨d,hd,hl,(m.tab _ hp d (by omega)).trans ht⟩
theorem Lost.mark{s s':Ms}{r:Int}{gone:List Int}{k:Ck}(hp:cH k.a.page)(h:Lost s r gone k)(m:Marked s s' r):Lost s' r gone k:=⟨h.1,(m.map _ hp).trans h.2⟩
theorem dY{a:Ac}(h:aH a=0):cH a.page:=by
 have:=jJ h;unfold cN at this;simp at this;exact this
section
variable {s:Ms} {r:Int} {gone:List Int} {X:Int→Prop}
theorem q6(hw:Wf s r gone X){p q:Int}{m:Mp}(hp:cH p)(hq:cH q)(hm:ba s r p=D m)(ho:over m q=B):(bo s r q).e =(bo s r p).e ∧(bo s r q).lev =(bo s r p).lev :=by
 obtain⟨d,t,he⟩:=hw.ends p hp;rw[aT hp he] at hm;split at hm
 ·rename_i hl
  injection hm with hm
  obtain⟨h3,_,hov⟩:=he.map hp hl;rw[←hm,hov q] at ho;obtain⟨hs,hse⟩:=he.same hp hq (of_decide_eq_true ho);rw[bM hq.1 hq.2 hs,bM hp.1 hp.2 he,hse];exact⟨rfl,rfl⟩
 ·cases hm
theorem uP(hw:Wf s r gone X){p:Int}{m:Mp}(hp:cH p)(hm:ba s r p=D m):cH m.page∧over m m.page=B∧ba s r m.page=D m:=by
 obtain⟨h1,h2⟩:=hw.self hp hm;have hi:=h2.inP;have ho:over m m.page=B:=dr.2 ⟨by omega,by have:=h2.sp;omega⟩;exact⟨hi,ho,Wf.overMap hw hp hi hm ho hw⟩
theorem mA(s:Ms)(r:Int){k:Ck}(hon:k.on=B):OnTree s r (k.again r)∧(k.again r).a =k.a∧(k.again r).on =B:=by
 unfold Ck.again;rw[if_pos hon];exact⟨⟨0,by omega,rfl,rfl⟩,rfl,hon⟩
theorem tc(hw:Wf s r gone (fun _=>False))(hi:s.Inv){p t:Int}{d:Nat}(hp:cH p)(he:Ends s r p d t)(hl:(cq s p t (3 - d)).leaf =B)(a:Ac):
  Wf (cm s p t d (bF (b8 (cq s p t (3 - d)) a) (3 - d:Nat))) r gone (fun _=>False)∧(cm s p t d (bF (b8 (cq s p t (3 - d)) a) (3 - d:Nat))).Inv ∧
   Marked s (cm s p t d (bF (b8 (cq s p t (3 - d)) a) (3 - d:Nat))) r∧(bo (cm s p t d (bF (b8 (cq s p t (3 - d)) a) (3 - d:Nat))) r p).e =b8 (cq s p t (3 - d)) a:=by
 have hef:=(gh he.dec).1;have hef:ao (cq s p t (3 - d)) ((3 - d:Nat):Int)=0:=hef;obtain⟨hf',hl'⟩:=rW a hef hl;obtain⟨w1,w2,w3⟩:=rV hw hi hp he hf' hl';obtain⟨k1,k2,_⟩:=ky hf';have hv:jS (bF (b8 (cq s p t (3 - d)) a) (3 - d:Nat)) (3 - d):=⟨k1,by rw[k2,hl'];simp⟩;refine⟨w1,w2,⟨rfl,fun _=>rfl,rfl,fun q hq e hle=>fp hw hp he.le he.tab he.no hv hq e hle,fun q hq=> ?_,fun q hq=> ?_,fun q hq=> ?_,fun q hq=> ?_⟩,?_⟩
 ·have:=w3 q hq
  split at this
  ·unfold ba
   rw[this.1,this.2];dsimp only;rw[hl',hl,iO a hef hl]
  ·exact eh this
 ·have:=w3 q hq
  split at this
  ·rw[this.1,this.2]
  ·rw[this]
 ·have:=w3 q hq
  split at this
  ·rw[this.1,this.2]
   intro _;rfl
  ·rw[this];exact id
 ·have:=w3 q hq
  split at this
  ·rw[this.1,this.2]
   dsimp only;intro h;unfold b8;dsimp only;rw[h];rfl
  ·rw[this];exact id
 ·have:=w3 p hp
  rw[if_pos rfl] at this;rw[this.1]
end
section
variable {s:Ms} {r:Int} {gone:List Int} {X:Int→Prop}
theorem Wf.perm{g:List Int}(hw:Wf s r gone X)(h:∀t,t∈g↔t∈gone)(nd:g.Nodup):Wf s r g X:=
 ⟨hw.ends,hw.inj,hw.full,fun k=>by rw[hw.use k,h],nd,fun t ht=>hw.gz t ((h t).1 ht),fun t ht=>hw.gt t ((h t).1 ht)⟩
theorem wR(hw:Wf s r gone (fun _=>False)){p ri:Int}(hf:iV s r p ri=0){q:Int}(hq:cH q):∀e,e≤4→aW (iH s r p ri) r q e=aW s r q e:=by
 have hr:0≤ri∧ri≤7:=by
  unfold iV at hf;split at hf
  ·cases hf
  ·omega
 have hf0:bm s r p=0:=by
  unfold iV at hf;rw[if_neg (by omega)] at hf;exact hf
 have hp:=fJ hf0;obtain⟨d,t,he,hl,hwe,hm,h3,ho⟩:=hw.found hf0;have hef:ao (cq s p t (3 - d)) ((3 - d:Nat):Int)=0:=(gh he.dec).1;have hf':ao {cq s p t (3 - d) with rights:=ri} (3 - d:Nat)=0:=nX hef hl hr.1 hr.2;have es:iH s r p ri=cm s p t d (bF {cq s p t (3 - d) with rights:=ri} (3 - d:Nat)):=by
  unfold iH;rw[if_pos hf,hwe];dsimp only;rw[iW he.tab]
 obtain⟨k1,k2,_⟩:=ky hf';have hv:jS (bF {cq s p t (3 - d) with rights:=ri} (3 - d:Nat)) (3 - d):=⟨k1,by rw[k2];dsimp only;rw[hl];simp⟩;rw[es];exact fun e he'=>fp hw hp he.le he.tab he.no hv hq e he'
end
section
variable {s:Ms} {r:Int} {gone:List Int} {X:Int→Prop}
structure wT (s:Ms) (r:Int) (k:Ck) (p:Sp):Prop where
 fin:p.r.fin=B
 off:p.c=k.idle
 an:p.r.an=yW (ba s r k.a.page) k.a
 kept:p.r.an.fin=0→Kept p.s r p.r.ln∧over p.r.ln.m k.a.page=B∧(k.a.kind=1→p.r.ln.dirty=B)
structure yX (s:Ms) (r:Int) (k:Ck) (p:Sp):Prop where
 z:p.r=Rs.zero
 same:p.s=s
 on:p.c.on=B
 a:p.c.a=k.a
 tree:OnTree s r p.c
structure oH (s:Ms) (r:Int) (gone:List Int) (k:Ck) (p:Sp):Prop where
 code:p.code=0
 mark:Marked s p.s r
 wf:Wf p.s r gone (fun _=>False)
 inv:p.s.Inv
 fin:wT s r k p∨yX s r k p
theorem pQ{k:Ck}{d:Nat}{s':Ms}{e':En}(hp:cH k.a.page)(he:Ends s r k.a.page d k.t)(hlev:k.level=((3 - d:Nat):Int))(hl:(cq s k.a.page k.t (3 - d)).leaf =B)
  (hwf:Wf s' r gone (fun _=>False)) (hinv:s'.Inv) (hm:Marked s s' r) (hway:(bo s' r k.a.page).e =e') (hmp:aK e' ((3 - d:Nat):Int) k.a.page=aK (cq s k.a.page k.t (3 - d)) ((3 - d:Nat):Int) k.a.page)
  (hready:fI e' k.a=B):oH s r gone k (k.leafEnd s' e'):=by
 have hmap:ba s r k.a.page=D (aK e' ((3 - d:Nat):Int) k.a.page):=by
  rw[aT hp he,if_pos hl,hmp]
 have hu:e'.used=B∧(e'.dirty||k.a.kind !=1)=B:=by
  unfold fI at hready;rw[Bool.and_eq_true] at hready;exact hready
 refine⟨rfl,hm,hwf,hinv,.inl ⟨rfl,rfl,?_,fun _=> ?_⟩⟩
 ·rw[hmap,←hlev];rfl
 ·have hmap':ba s' r k.a.page=D (aK e' ((3 - d:Nat):Int) k.a.page):=(hm.map _ hp).trans hmap
  obtain⟨q1,q2,q3⟩:=uP hwf hp hmap';obtain⟨o1,_⟩:=hwf.self hp hmap';have hent:=(q6 hwf hp q1 hmap' q2).1;have hln:(k.leafEnd s' e').r.ln =⟨aK e' ((3 - d:Nat):Int) k.a.page,e'.dirty⟩:=by unfold Ck.leafEnd;rw[hlev]
  rw[hln];refine⟨⟨q1,q3,by show(bo s' r _).e.used =B;rw[hent,hway];exact hu.1,fun h=>by show(bo s' r _).e.dirty =B;rw[hent,hway];exact h⟩,o1,fun h1=> ?_⟩;have:=hu.2;rw[h1] at this;simpa using this
theorem tf(hw:Wf s r gone (fun _=>False))(hi:s.Inv){k:Ck}(hk:k.Ok)(hon:k.on=B)(ht:OnTree s r k∨Lost s r gone k):oH s r gone k (be s r k):=by
 have hp:=dY (hk.acc hon);have hag:=mA s r hon;have hAgain:oH s r gone k ⟨k.again r,s,Rs.zero,0⟩:=⟨rfl,Marked.refl s r,hw,hi,.inr ⟨rfl,rfl,hag.2.2,hag.2.1,hag.1⟩⟩;unfold be;rw[if_neg (by rw[hon];simp)];rcases ht with ⟨d,hd,hlev,htab⟩|⟨hg,hnone⟩
 ·obtain⟨u1,u2⟩:=hw.at_ hp hd htab
  rw[if_neg (by rw[u1];simp)];have ew:k.word s=ar s k.t (ai k.a.page (3 - d:Nat)):=by unfold Ck.word;rw[hlev]
  by_cases hmk:k.mark=B∧k.word s≠k.w
  ·rw[if_pos hmk];exact hAgain
  rw[if_neg hmk,ew,hlev,if_neg (by rw[u2];simp)];have eE:aC (ar s k.t (ai k.a.page (3 - d:Nat))) ((3 - d:Nat):Int)=cq s k.a.page k.t (3 - d):=rfl;rw[eE];by_cases hth:(cq s k.a.page k.t (3 - d)).there =C
  ·rw[if_pos hth]
   have hgo:gP s k.a.page k.t (3 - d)=C:=by unfold gP;rw[hth];simp
   have he:Ends s r k.a.page d k.t:=⟨hd,htab,u1,u2,hgo⟩;have hz:=(he.not hth).1;refine⟨rfl,Marked.refl s r,hw,hi,.inl ⟨rfl,rfl,?_,fun h=>(by cases h)⟩⟩;rw[aT hp he,hz];rfl
  rw[if_neg hth];by_cases hlf:(cq s k.a.page k.t (3 - d)).leaf =C
  ·rw[if_pos hlf]
   have hgo:gP s k.a.page k.t (3 - d)=B:=iS.2 ⟨u1,u2,by simpa using hth,hlf⟩;have hd3:d<3:=by
    refine Decidable.byContradiction fun hn=> ?_;obtain rfl:d=3:=by omega
    have u2':bv (ar s k.t (ai k.a.page (0:Nat))) (0:Nat)=0:=u2;rcases d9 u2' with h|h
    ·exact hth h
    ·have hlf':(aC (ar s k.t (ai k.a.page (0:Nat))) (0:Nat)).leaf =C:=hlf
     exact absurd (h.symm.trans hlf') (by simp)
   refine⟨rfl,Marked.refl s r,hw,hi,.inr ⟨rfl,rfl,hon,rfl,d+1,by omega,?_,eX.2 ⟨k.t,htab,hgo,rfl⟩⟩⟩;show((3 - d:Nat):Int) - 1=_;omega
  rw[if_neg hlf];have hl:(cq s k.a.page k.t (3 - d)).leaf =B:=by simpa using hlf
  have hgo:gP s k.a.page k.t (3 - d)=C:=by unfold gP;rw[hl];simp
  have he:Ends s r k.a.page d k.t:=⟨hd,htab,u1,u2,hgo⟩;have hef:ao (cq s k.a.page k.t (3 - d)) ((3 - d:Nat):Int)=0:=(gh he.dec).1;have hmap:ba s r k.a.page=D (aK (cq s k.a.page k.t (3 - d)) ((3 - d:Nat):Int) k.a.page):=by rw[aT hp he,if_pos hl]
  by_cases hmay:may (cq s k.a.page k.t (3 - d)).rights k.a=C
  ·rw[if_pos hmay]
   refine⟨rfl,Marked.refl s r,hw,hi,.inl ⟨rfl,rfl,?_,fun h=>(by cases h)⟩⟩;rw[hmap];show _=cv _ k.a;unfold cv;rw[mR hef hl (jJ (hk.acc hon)),hmay];rfl
  rw[if_neg hmay];by_cases hm1:k.mark=B
  ·rw[if_pos hm1]
   obtain⟨m1,m2,m3,m4⟩:=tc hw hi hp he hl k.a;exact pQ hp he hlev hl m1 m2 m3 m4 (iO k.a hef hl) (rq _ _)
  rw[if_neg hm1];by_cases hrd:fI (cq s k.a.page k.t (3 - d)) k.a=B
  ·rw[if_pos hrd]
   exact pQ hp he hlev hl hw hi (Marked.refl s r) (by rw[bM hp.1 hp.2 he]) rfl hrd
  rw[if_neg hrd];exact⟨rfl,Marked.refl s r,hw,hi,.inr ⟨rfl,rfl,hon,rfl,d,hd,rfl,htab⟩⟩
 ·obtain⟨g0,gz⟩:=hw.gz _ hg
  have htk:s.tk k.t.toNat=B:=(hw.use _).2 (.inr (by rw[Int.toNat_of_nonneg g0];exact hg));have hhas:s.has k.t=B:=G.2 ⟨g0,by have:=hi.tkl _ htk;have:=hi.le;omega,htk⟩;rw[if_neg (by rw[hhas];simp)];obtain⟨L,hL,hL3⟩:∃L:Nat,k.level=L∧L≤3:=⟨k.level.toNat,by have:=hk.l0 hon;omega,by have:=hk.l3 hon;omega⟩;have hix:=bR hp hL3;have ew:k.word s=0:=by
   unfold Ck.word;rw[hL];have:=gz (ai k.a.page L).toNat (by omega);rwa [Int.toNat_of_nonneg hix.1] at this
  obtain⟨z1,z2⟩:=dC hL3;by_cases hm:k.mark=B
  ·have hne:k.word s≠k.w:=by
    rw[ew];intro h;have:=(hk.leaf hm).1;rw[←h,hL,z2] at this;cases this
   rw[if_pos ⟨hm,hne⟩];exact hAgain
  ·rw[if_neg (fun h=>hm h.1),ew,hL,if_neg (by rw[z1];simp),z2,if_pos (show En.zero.there=C from rfl)]
   refine⟨rfl,Marked.refl s r,hw,hi,.inl ⟨rfl,rfl,?_,fun h=>(by cases h)⟩⟩;rw[hnone];rfl
end
end Go.Proofs.YtmfheghbgihdmaaGreatDoor
