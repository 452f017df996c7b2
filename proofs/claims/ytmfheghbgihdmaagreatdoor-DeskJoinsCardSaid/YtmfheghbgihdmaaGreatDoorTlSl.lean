/- Contracts of package slices at lines: IndexFunc, DeleteFunc, Delete, Clone. -/
import Derived.Test.YtmfheghbgihdmaaGreatDoorPage
import Derived.Test.YtmfheghbgihdmaaGreatDoorTblM3
import Derived.Lib.Hide
import Derived.Lib.SliceRun
import Derived.Outline
import Derived.BigQuiet
import Derived.Deep.LoopGhost
import Derived.Shelf.Abstract
import Derived.Test.YtmfheghbgihdmaaGreatDoorEntBits
import Derived.Test.YtmfheghbgihdmaaGreatDoorWkr3
import Derived.Test.YtmfheghbgihdmaaGreatDoorWkr
import Derived.Deep.RegionHeld3
import Derived.Deep.DeepCutAuto
namespace Go.Proofs.YtmfheghbgihdmaaGreatDoor
open Option renaming none→y,some→z
open Go.Value renaming int→B,bool→O
open Go.IntKind renaming i64→C
open Go.Addr renaming mk→D
open Go.Lib renaming hid→E
open Go renaming World→F,Calls→J,bodyPost_ret→N,Value→S,Addr→Y
open Bool renaming false→G,true→U
open Go.Proofs.YtmfheghbgihdmaaGreatDoor renaming Has→H,Ln→T,Ext→ad,Pure→ag
open List renaming getElem?_eq_getElem→I
open Go.Proofs.YtmfheghbgihdmaaGreatDoor.Ext renaming refl→K
open Go.Proofs.YtmfheghbgihdmaaGreatDoor.Tl renaming drop→M,room→Z,Ok→ak,put→al,evict→ap
open Tryz
open Go.RowKit
set_option maxRecDepth 100000
@[go_sem] def Ln.val (x:T):S:= .agg #[B C x.m.page,B C x.m.size,B C x.m.frame,B C x.m.rights,O x.dirty]
def lnZero:S:= .agg #[B C 0,B C 0,B C 0,B C 0,O G]
theorem rv:kL prog 150 lnZero 5 40:=⟨by kernel_rfl,rfl,by omega⟩
theorem iP(x:T):x.cells.length=5:=rfl
def dM(v:S)(l:List T):ab:=bt 150 5 v l.length (bW l)
section
variable {w:F} {R:ab} {A:Option Y} {n c:Nat} {l:List T}
theorem dN(h:H w (dM (.slice A n c) l*R)):n=l.length:=by
 rcases Has.rowCases (e:=150) (size:=5) h with ⟨hv,h0,_⟩|⟨g,cap,cur,hv,_⟩
 ·injection hv with a b
  omega
 ·injection hv
theorem dO(h:H w (dM (.slice A n c) l*R)):n≤9223372036854775807∧n≤c:=by
 obtain rfl:=dN h;refine⟨(Has.rowLens (e:=150) (size:=5) h).2,?_⟩;rcases Has.rowCases (e:=150) (size:=5) h with ⟨hv,h0,_⟩|⟨g,cap,cur,hv,h1,_⟩
 ·injection hv with a b
  omega
 ·injection hv with a b d
  omega
theorem iQ(h:H w (dM (.slice A n c) l*R)){k:Nat}(hk:k<l.length):
  ∃b,A=z (D b 0 y)∧b<w.heap.size∧
   (w.cell? ⟨b,k*5,y⟩=z (B C l[k].m.page)∧w.cell? ⟨b,k*5+1,y⟩=z (B C l[k].m.size)∧w.cell? ⟨b,k*5+2,y⟩=z (B C l[k].m.frame)∧w.cell? ⟨b,k*5+3,y⟩=z (B C l[k].m.rights)∧w.cell? ⟨b,k*5+4,y⟩=z (O l[k].dirty))∧
   (w.frozen? ⟨b,k*5,y⟩=G∧w.frozen? ⟨b,k*5+1,y⟩=G∧w.frozen? ⟨b,k*5+2,y⟩=G∧w.frozen? ⟨b,k*5+3,y⟩=G∧w.frozen? ⟨b,k*5+4,y⟩=G):=by
 obtain rfl:=dN h;have g:=fun t (ht:t<5)=>Has.rowGet (e:=150) (size:=5) h (i:=k*5+t) (u:=(l[k].cells[t]'(by rw[iP];exact ht))) (by
  have:=mB (cells:=Ln.cells) iP hk ht;rw[I (l:=l[k].cells) (by rw[iP];exact ht)] at this;exact this)
 obtain⟨b,rfl,hb,c0,f0⟩:=g 0 (by omega);obtain⟨b1,e1,_,c1,f1⟩:=g 1 (by omega);obtain⟨b2,e2,_,c2,f2⟩:=g 2 (by omega);obtain⟨b3,e3,_,c3,f3⟩:=g 3 (by omega);obtain⟨b4,e4,_,c4,f4⟩:=g 4 (by omega);injection e1 with e1;injection e1 with e1;subst e1
 injection e2 with e2;injection e2 with e2;subst e2
 injection e3 with e3;injection e3 with e3;subst e3
 injection e4 with e4;injection e4 with e4;subst e4
 exact⟨b,rfl,hb,⟨c0,c1,c2,c3,c4⟩,f0,f1,f2,f3,f4⟩
theorem vL{g:Nat}(h:H w (dM (.slice (z (D g 0 y)) n c) l*R)){k:Nat}(hk:k<l.length)(x:T):
  H (((((w.setCell ⟨g,k*5,y⟩ (B C x.m.page)).setCell ⟨g,k*5+1,y⟩ (B C x.m.size)).setCell ⟨g,k*5+2,y⟩ (B C x.m.frame)).setCell ⟨g,k*5+3,y⟩ (B C x.m.rights)).setCell ⟨g,k*5+4,y⟩ (O x.dirty))
   (dM (.slice (z (D g 0 y)) n c) (l.set k x)*R):=by
 obtain rfl:=dN h;have h1:=Has.rowSetCells (e:=150) (size:=5) x.cells (k*5) h (by rw[iP];omega);rw[iP] at h1;have e1:=uV (cells:=Ln.cells) iP hk x;have e2:(bW l).take (k*5)++(x.cells++(bW l).drop (k*5+5))=bW (l.set k x):=e1;rw[e2] at h1;unfold dM;rw[List.length_set];exact h1
end
def qk(p:T→Bool)(l:List T):Int:=match l.findIdx? p with|some k=>(k:Int)|none=> -1
theorem qm{p:T→Bool}{l:List T}{k:Nat}(hk:k<l.length)(h:p l[k]=U)(ha:∀j (hj:j<l.length),j<k→p l[j]=G):qk p l=k:=by
 unfold qk;rw[List.findIdx?_eq_some_iff_getElem.2 ⟨hk,h,fun j hj=>by rw[ha j (by omega) hj];decide⟩]
theorem nY{p:T→Bool}{l:List T}(ha:∀j (hj:j<l.length),p l[j]=G):qk p l= -1:=by
 unfold qk;rw[List.findIdx?_eq_none_iff.2 fun x hx=>by
  obtain⟨j,hj,rfl⟩:=List.getElem_of_mem hx;exact ha j hj]
theorem rx(p:T→Bool)(l:List T):(qk p l= -1∧∀j (hj:j<l.length),p l[j]=G)∨∃(k:Nat) (h:k<l.length),qk p l=k∧p l[k]=U∧∀j (hj:j<l.length),j<k→p l[j]=G:=by
 cases hf:l.findIdx? p with
 |none=>
  have ha:∀j (hj:j<l.length),p l[j]=G:=fun j hj=>by simpa using List.findIdx?_eq_none_iff.1 hf _ (List.getElem_mem hj)
  exact .inl ⟨nY ha,ha⟩
 |some k=>
  obtain⟨hk,h1,h2⟩:=List.findIdx?_eq_some_iff_getElem.1 hf;have ha:∀j (hj:j<l.length),j<k→p l[j]=G:=fun j hj hjk=>by simpa using h2 j hjk
  exact .inr ⟨k,hk,qm hk h1 ha,h1,ha⟩
theorem kC(l:List T)(p:T→Bool)(g:Nat)(cap:Array S)(A:Option Y)(n c:Nat)(R:ab)(w:F)(h:H w (dM (.slice A n c) l*R))
  (eg:∀args w,(callFunc g args).run prog w= .ok (.enter g args) w)
  (hp:∀x∈l,∀W,H W R→J prog g (#[x.val]++cap) W (ag (O (p x)) W)):
  J prog 215 #[.slice A n c,.func (.func g) #[] cap] w (ag (B C (qk p l)) w):=by
 obtain rfl:=dN h;obtain⟨hbig,_⟩:=dO h;have HP:=E hp;clear hp;go_enter func215,ntmps215;go_wp2_with fail
 go_loopw [5,8] (fun _ s8 wr=>∃k:Nat,k≤l.length∧s8=B C k∧Below w.heap.size w wr∧Hid (∀j (hj:j<l.length),j<k→p l[j]=G)) (fun _ s8 _=>l.length - (intOf s8).toNat)
 case atStart=>exact⟨0,Nat.zero_le _,rfl,Below.refl _ _,E fun j _ h=>absurd h (Nat.not_lt_zero _)⟩
 case round=>
  obtain⟨k,hk,rfl,BW,HA⟩:=hrel;by_cases hlt:k<l.length
  ·have h':=h.below BW
   obtain⟨b,rfl,hb,⟨c0,c1,c2,c3,c4⟩,_⟩:=iQ h' hlt;have hc:=HP.out l[k] (List.getElem_mem hlt) wr h'.right;have hz:=E (show(l[k]=l[k]) from rfl);generalize hx:l[k]=x at c0 c1 c2 c3 c4 hc;have HX:=E hx;clear hx hz h';have BW':=E BW;clear BW h;cases hq:p x with
   |true=>
    rw[hq] at hc;go_wp2_with(go_at_fn g;refine hc.mono ?_;rintro e w' ⟨rfl,hb'⟩)
    go_ret;exact⟨by rw[qm hlt (by rw[HX.out];exact hq) HA.out];rfl,BW'.out.trans (hb'.mono BW'.out.size)⟩
   |false=>
    rw[hq] at hc;go_wp2_with(go_at_fn g;refine hc.mono ?_;rintro e w' ⟨rfl,hb'⟩)
    go_roundw
    case rel=>
     refine⟨k+1,by omega,by go_num,BW'.out.trans (hb'.mono BW'.out.size),E fun j hj hjk=> ?_⟩;by_cases e:j=k
     ·subst e;rw[HX.out];exact hq
     ·exact HA.out j hj (by omega)
    case measure=>simp[intOf];omega
  ·have:k=l.length:=by omega
   subst this;go_wp2_with fail
   go_ret;exact⟨by rw[nY fun j hj=>HA.out j hj hj];rfl,BW⟩
theorem rY:∀w,(zeroValue 150).run prog w= .ok lnZero w:=Tryz.zeroValue150
section
variable {w:F} {R:ab} {n c:Nat} {l:List T}
theorem ry{g i:Nat}(h:H w (dM (.slice (z (D g 0 y)) n c) l*R))(hi:i<n):∀ty,(Builtin.clear_ #[148] ty #[.slice (z ⟨g,i*5,y⟩) (n - i) (c - i)]).run prog w= .ok (.tuple #[]) (w.setCells g (i*5) (Builtin.zeroCells lnZero.cells (n - i)).toList):=by
 intro ty;have hl:=dN h;subst hl;have hg:∀j,j< (l.length - i)*5→(w.cell? ⟨g,i*5+j,y⟩).isSome =U∧w.frozen? ⟨g,i*5+j,y⟩=G:=fun j hj=>by
  obtain⟨b,hb,_,hc,hf⟩:=Has.rowGet (e:=150) (size:=5) h (i:=i*5+j) (u:=(bW l)[i*5+j]'(by rw[gI];omega)) (I _);injection hb with hb
  injection hb with hb
  subst hb;exact⟨by rw[hc];rfl,hf⟩
 exact fY w _ _ ty lnZero 5 underlying148 rY rfl (by intro v hv;simp[lnZero,Value.cells] at hv;rcases hv with rfl|rfl<;>rfl) g (i*5) _ _ (by omega) (by omega) (fun j hj=>(hg j hj).1) (fun j hj=>(hg j hj).2)
theorem vM{g i:Nat}(h:H w (dM (.slice (z (D g 0 y)) n c) l*R))(hi:i≤n)(zs:List S):H (w.setCells g (i*5) zs) (dM (.slice (z (D g 0 y)) i c) (l.take i)*R):=by
 have hl:=dN h;subst hl;have h1:=Has.rowCut (e:=150) (size:=5) h hi;have h2:=Has.rowSpareCells zs (i*5) h1 (Nat.le_refl _);unfold dM;rw[List.length_take,Nat.min_eq_left hi];rw[show(bW l).take (i*5)=bW (l.take i) from fG iP l i] at h2;exact h2
end
theorem Ext.setCells{w0:F}(b:Nat):∀(vs:List S) (o:Nat) {w:F},ad w0 w→ad w0 (w.setCells b o vs)
 | [],_,_,h=>h
 |_::r,o,_,h=>Ext.setCells b r (o+1) (h.set _ _)
theorem la{p:T→Bool}{l:List T}{j:Nat}(hj:j<l.length):(l.take (j+1)).filter p=(l.take j).filter p++(if p l[j] then [l[j]] else []):=by
 rw[List.take_succ_eq_append_getElem hj,List.filter_append];cases hq:p l[j]<;>simp[hq]
theorem nr(l:List T)(p:T→Bool)(g:Nat)(cap:Array S)(A:Option Y)(n c:Nat)(R:ab)(w:F)(h:H w (dM (.slice A n c) l*R))
  (eg:∀args w,(callFunc g args).run prog w= .ok (.enter g args) w)
  (hp:∀x∈l,∀W,H W R→J prog g (#[x.val]++cap) W (ag (O (p x)) W)):
  J prog 236 #[.slice A n c,.func (.func g) #[] cap] w
   (cF (.slice A (l.filter fun x=> !p x).length c) (dM (.slice A (l.filter fun x=> !p x).length c) (l.filter fun x=> !p x)*R) w):=by
 have hI:=kC l p g cap A n c R w h eg hp;obtain rfl:=dN h;obtain⟨hbig,hnc⟩:=dO h;have HP:=E hp;clear hp;rcases rx p l with ⟨e1,hall⟩|⟨k0,hk0,e1,ht,hall⟩
 ·rw[e1] at hI
  have hf:(l.filter fun x=> !p x)=l:=List.filter_eq_self.2 fun x hx=>by
   obtain⟨j,hj,rfl⟩:=List.getElem_of_mem hx;rw[hall j hj];rfl
  rw[hf];clear hall e1 hf;go_enter func236,ntmps236;go_wp2_with(refine hI.mono ?_;rintro e w2 ⟨rfl,b2⟩)
  go_ret;exact⟨rfl,h.below b2,(K w).below b2⟩
 ·rw[e1] at hI
  have hne:((k0:Int)== -1)=G:=beq_eq_false_iff_ne.2 (by omega);have hA:=h;obtain⟨b,rfl,_⟩:=iQ hA hk0;clear hA;have HK:=E (show l.take k0=(l.take (k0+1)).filter fun x=> !p x by
   rw[la hk0,ht];simp only[Bool.not_true,Bool.false_eq_true,if_false,List.append_nil];exact(List.filter_eq_self.2 fun x hx=>by
    obtain⟨j,hj,rfl⟩:=List.getElem_of_mem hx;rw[List.length_take] at hj;rw[List.getElem_take,hall j (by omega) (by omega)];rfl).symm)
  clear hall ht e1;go_enter func236,ntmps236;go_wp2_with(refine hI.mono ?_;rintro e w2 ⟨rfl,b2⟩)
  have h2:=h.below b2;have x2:=(K w).below b2;clear h hI;go_loopw [5,6,7] (fun s5 s6 _ wr=>∃(i j:Nat) (dk:List T),s5=B C i∧s6=B C j∧i<j∧j≤l.length∧dk.length=l.length∧Hid (dk.take i=(l.take j).filter fun x=> !p x)∧Hid (dk.drop j=l.drop j)∧H wr (dM (.slice (z (D b 0 y)) l.length c) dk*R)∧ad w wr) (fun _ s6 _ _=>l.length - (intOf s6).toNat)
  case atStart=>exact⟨k0,k0+1,l,rfl,by go_num,by omega,by omega,rfl,HK,E rfl,h2,x2⟩
  case round=>
   clear h2 x2 b2 HK;obtain⟨i,j,dk,rfl,rfl,hij,hjl,hdl,HT,HD,hr,hx⟩:=hrel;by_cases hlt:j<l.length
   ·have hj:j<dk.length:=by omega
    have hxj:dk[j]=l[j]:=by
     have e1:(dk.drop j)[0]? =(l.drop j)[0]? :=by rw[HD.out]
     simp only[List.getElem?_drop,Nat.add_zero] at e1;rw[I hj,I hlt] at e1;injection e1
    obtain⟨b',hb',hb,⟨c0,c1,c2,c3,c4⟩,_⟩:=iQ hr hj;injection hb' with hb'
    injection hb' with hb'
    subst hb';rw[hxj] at c0 c1 c2 c3 c4;have HX:=E (show l[j]∈l from List.getElem_mem hlt);have HN:=E (la (p:=fun x=> !p x) hlt);have HDN:=E (show dk.drop (j+1)=l.drop (j+1) by
     have:=HD.out;rw[←List.drop_drop (j:=j) (i:=1),←List.drop_drop (j:=j) (i:=1),this])
    clear hxj;generalize l[j]=x at c0 c1 c2 c3 c4 HX HN;have h3:=hr.new #[B C x.m.page,B C x.m.size,B C x.m.frame,B C x.m.rights,O x.dirty] 150;have x3:=hx.alloc (.cells #[B C x.m.page,B C x.m.size,B C x.m.frame,B C x.m.rights,O x.dirty] 150);have hc:=HP.out x HX.out _ h3.right.right;clear hr hx;cases hq:p x with
    |true=>
     rw[hq] at hc;go_wp2_with(refine hc.mono ?_;rintro e w' ⟨rfl,b4⟩)
     have h4:=(h3.below b4).right;have x4:=x3.below b4;go_roundw
     case rel=>exact⟨i,j+1,dk,rfl,by go_num,by omega,by omega,hdl,E (by rw[HT.out,HN.out,hq];simp),HDN,h4,x4⟩
     case measure=>simp[intOf];omega
    |false=>
     rw[hq] at hc;have hi:i<dk.length:=by omega
     go_wp2_with(refine hc.mono ?_;rintro e w' ⟨rfl,b4⟩;have h4:=h3.below b4;obtain⟨a0,a1,a2,a3,a4⟩:=h4.cells5;obtain⟨b',hb',gb,⟨g0,g1,g2,g3,g4⟩,f0,f1,f2,f3,f4⟩:=iQ h4.right hi;injection hb' with hb';injection hb' with hb';subst hb')
     have h5:=vL h4.right hi x;go_roundw
     case rel=>
      refine⟨i+1,j+1,dk.set i x,by go_num,by go_num,by omega,by omega,by rw[List.length_set];exact hdl,E ?_,E ?_,h5,((((((x3.below b4).set _ _).set _ _).set _ _).set _ _).set _ _)⟩
      ·rw[HN.out,hq,←HT.out,List.take_succ_eq_append_getElem (by rw[List.length_set];exact hi),List.getElem_set_self,List.take_set_of_le (Nat.le_refl i)]
       simp
      ·rw[List.drop_set_of_lt (by omega),HDN.out]
     case measure=>simp[intOf];omega
   ·have hje:j=l.length:=by omega
    subst hje;obtain⟨zs,hcl⟩:∃zs,∀ty,(Builtin.clear_ #[148] ty #[.slice (z ⟨b,i*5,y⟩) (l.length - i) (c - i)]).run prog wr= .ok (.tuple #[]) (wr.setCells b (i*5) zs):=⟨_,ry hr hij⟩;have hci:¬l.length≤i:=by omega
    have hfin:=vM hr (Nat.le_of_lt hij) zs;have hf:dk.take i=l.filter fun x=> !p x:=by rw[HT.out,List.take_length]
    have hfl:(l.filter fun x=> !p x).length =i:=by rw[←hf,List.length_take];omega
    have hF:=E hf;have hFL:=E hfl;clear hf hfl hr;go_wp2_with fail
    go_ret;rw[hFL.out,←hF.out];exact⟨rfl,hfin,Ext.setCells _ _ _ hx⟩
theorem xo:(prog.info? 150).map (fun i=>(i.zero,i.size,i.bytes))=z (z lnZero,5,40):=by kernel_rfl
theorem qn{l:List T}:∀u∈bW l,u.oneCell'=U:=by
 intro u hu;obtain⟨x,_,hx⟩:=List.mem_flatMap.1 hu;simp[Ln.cells] at hx;rcases hx with rfl|rfl|rfl|rfl|rfl<;>rfl
theorem nZ{w:F}{R:ab}{g n c:Nat}{l:List T}(h:H w (dM (.slice (z (D g 0 y)) n c) l*R))(k:Nat):
  ∀j u,((bW l).drop (k*5))[j]? =z u→w.cell? ⟨g,k*5+j,y⟩=z u:=by
 intro j u hu;rw[List.getElem?_drop] at hu;obtain rfl:=dN h;obtain⟨b,hb,_,hc,_⟩:=Has.rowGet (e:=150) (size:=5) h hu;injection hb with hb
 injection hb with hb
 subst hb;exact hc
theorem tJ(l:List T)(i j g n c:Nat)(R:ab)(w:F)(hij:i<j)(hj:j≤n)(h:H w (dM (.slice (z (D g 0 y)) n c) l*R)):
  J prog 190 #[.slice (z (D g 0 y)) n c,.int .i64 i,.int .i64 j] w
   (cF (.slice (z (D g 0 y)) (i+(n - j)) c) (dM (.slice (z (D g 0 y)) (i+(n - j)) c) (l.take i++l.drop j)*R) w):=by
 obtain rfl:=dN h;obtain⟨hbig,hnc⟩:=dO h;obtain⟨i0,hi0,hz0,hz1,hz2⟩:=info_parts xo;obtain⟨A,hA,hnews⟩:∃A:Y,(if c=j then z ((D g 0 y):Y) else z ⟨g,j*5,y⟩)=z A∧Hid (∀t u,((bW l).drop (j*5))[t]? =z u→w.drew.cell? (A.add t)=z u):=by
  by_cases hc:c=j
  ·refine⟨(D g 0 y),by simp[hc],fun t u hu=> ?_⟩
   rw[List.drop_eq_nil_of_le (by rw[gI];omega)] at hu;simp at hu
  ·refine⟨⟨g,j*5,y⟩,by simp[hc],fun t u hu=> ?_⟩
   rw[Addr.add_lit];exact nZ h j t u hu
 have s1:Hid (((bW l).drop (j*5)).length =(l.length - j)*5):=by rw[List.length_drop,gI];show _=_;omega
 have s2:Hid (∀u∈(bW l).drop (j*5),u.oneCell'=U):=fun u hu=>qn u (List.mem_of_mem_drop hu);have s3:Hid (∀t,t< ((bW l).drop (j*5)).length →(w.drew.cell? ⟨g,0+i*5+t,y⟩).isSome =U∧w.drew.frozen? ⟨g,0+i*5+t,y⟩=G):=by
  intro t ht;rw[s1.out] at ht;obtain⟨b,hb,_,hc,hf⟩:=Has.rowGet (e:=150) (size:=5) h (i:=i*5+t) (u:=(bW l)[i*5+t]'(by rw[gI];omega)) (I _);injection hb with hb
  injection hb with hb
  subst hb;rw[Nat.zero_add];exact⟨by show(w.cell? _).isSome =U;rw[hc];rfl,hf⟩
 have hic:i≤c:=by omega
 have hne:((i:Int)==(j:Int))=G:=beq_eq_false_iff_ne.2 (by omega);go_enter func190,ntmps190;go_wp2_with fail
 go_region_law (refine step_append_room rfl (.tmp 22) (.tmp 25) 148 rfl 150 i0 5 underlying148 hi0 hz1 g 0 i c (by simp[Act.eval,Act.put]) A (l.length - j) (c - j) ((bW l).drop (j*5)) (by simp[Act.eval,Act.put]) s1.out hnews.out s2.out (by omega) s3.out ?_)
 have hn':i+(l.length - j)<l.length:=by omega
 have h1:=Has.rowSetCells (e:=150) (size:=5) ((bW l).drop (j*5)) (i*5) h.drew (by rw[s1.out];omega);have hz:(l.take i++l.drop j).length =i+(l.length - j):=by simp;omega
 obtain⟨zs,hcl⟩:∃zs,∀ty,(Builtin.clear_ #[148] ty #[.slice (z ⟨g,(i+(l.length - j))*5,y⟩) (l.length - (i+(l.length - j))) (c - (i+(l.length - j)))]).run prog (w.drew.setCells g (i*5) ((bW l).drop (j*5)))= .ok (.tuple #[]) ((w.drew.setCells g (i*5) ((bW l).drop (j*5))).setCells g ((i+(l.length - j))*5) zs):=by
  refine⟨_,fun ty=>fY _ _ _ ty lnZero 5 underlying148 rY rfl (by intro v hv;simp[lnZero,Value.cells] at hv;rcases hv with rfl|rfl<;>rfl) g _ _ _ (by omega) (by omega) (fun t ht=> ?_) (fun t ht=> ?_)⟩
  all_goals
   obtain⟨b,hb,_,hc,hf⟩:=Has.rowGet (e:=150) (size:=5) h1 (i:=(i+(l.length - j))*5+t) (I (by rw[h1.rowLens.1];omega));injection hb with hb
   injection hb with hb
   subst hb
  ·rw[hc];rfl
  ·exact hf
 have hfin:H ((w.drew.setCells g (i*5) ((bW l).drop (j*5))).setCells g ((i+(l.length - j))*5) zs) (dM (.slice (z (D g 0 y)) (i+(l.length - j)) c) (l.take i++l.drop j)*R):=by
  have:=Has.rowDelete (e:=150) (size:=5) (i:=i) (j:=j) h.drew (by omega) hj zs;unfold dM;rw[hz,jQ];have e1:(bW l).take (i*5)=bW (l.take i):=fG iP l i;have e2:(bW l).drop (j*5)=bW (l.drop j):=fF iP l j;rw[←e1,←e2];exact this
 have hx:ad w ((w.drew.setCells g (i*5) ((bW l).drop (j*5))).setCells g ((i+(l.length - j))*5) zs):=Ext.setCells _ _ _ (Ext.setCells _ _ _ (K w).drew);clear h1 s1 s2 s3 hnews hA h hz;generalize (w.drew.setCells g (i*5) ((bW l).drop (j*5)))=w1 at*
 generalize i+(l.length - j)=n' at*
 have hcn:¬c≤n':=by omega
 have hnn:(n':Int)≤(l.length:Int):=by omega
 go_wp2_with fail
 go_ret;exact⟨rfl,hfin,hx⟩
def vN(l:List T)(w:F)(e:Ending)(w':F):Prop:=∃A n c,e= .returned (.slice A n c)∧H w' (dM (.slice A n c) l*cr w w.heap.size)∧ad w w'
theorem vO(l:List T)(A:Option Y)(n c:Nat)(R:ab)(w:F)(hs:l.length≤1000000)(h:H w (dM (.slice A n c) l*R)):
  J prog 160 #[.slice A n c] w (vN l w):=by
 have q22:∀(w:F) (a:Option Y) (n c n' c':Nat),(binOp .eql 148 (.slice a n c) (.slice y n' c')).run prog w= .ok (.bool a.isNone) w:=fun w a n c n' c'=>Lib.run_eql_slice_nil w _ _ a n c n' c' underlying148;have hl0:=dN h;subst hl0;cases A with
 |none=>
  have h0:l=[]∧c=0:=by
   rcases Has.rowCases (e:=150) (size:=5) h with ⟨hv,h0,_⟩|⟨g,cap,cur,hv,_⟩
   ·injection hv with a b d
    exact⟨List.eq_nil_of_length_eq_zero h0,d⟩
   ·injection hv with a
    cases a
  obtain⟨rfl,rfl⟩:=h0;go_enter func160,ntmps160;go_wp2_with fail
  go_ret;exact⟨y,0,0,rfl,Has.rowNil (bc w),K _⟩
 |some a=>
  have h0:∃g,a=(D g 0 y):=by
   rcases Has.rowCases (e:=150) (size:=5) h with ⟨hv,h0,_⟩|⟨g,cap,cur,hv,_⟩
   ·injection hv with a b d
    cases a
   ·injection hv with a
    injection a with a
    exact⟨g,a⟩
  obtain⟨g,rfl⟩:=h0;have h1:=(bc w).new #[] 150;have hrow:H (w.alloc (.cells #[] 150)) (bt 150 5 (.slice (z (D w.heap.size 0 y)) 0 0) 0 []*cr w w.heap.size):=h1.rowOf rfl (Nat.le_refl _) (by unfold maxLen;omega) rfl rfl;have hn:=nZ (h.alloc (.cells #[] 150)) 0;have hne:Hid (∀j u,(bW l)[j]? =z u→(w.alloc (.cells #[] 150)).cell? (((D g 0 y):Y).add j)=z u):=fun j u hu=>by
   rw[Addr.add_lit];exact hn j u (by simpa using hu)
  have x1:=(K w).alloc (.cells #[] 150);clear hn h1 h;go_enter func160,ntmps160;go_wp2_with(at_builtin;refine a8 rfl _ _ 148 rfl underlying148 rv _ _ _ rfl hrow (D g 0 y) l.length c (bW l) rfl (gI l) hne.out qn ?c2 ?c3 ?_)
  case c2=>unfold maxLen;omega
  case c3=>omega
  intro v' w2 h' x';obtain⟨A',c',rfl⟩:=h'.rowForm;go_wp2_with fail
  go_ret;exact⟨A',_,c',rfl,h',x1.trans x'⟩
theorem n5{w:F}{R:ab}{b:Nat}{v0 v1 v2 v3 v4:S}(h:H w (aa b #[v0,v1,v2,v3,v4] 150*R)):(loadVar 150 (D b 0 y)).run prog w= .ok (.agg #[v0,v1,v2,v3,v4]) w:=
 run_loadVar_row w b 150 150 _ _ _ h.heap underlying150 rfl (by kernel_rfl)
theorem Has.set5{w:F}{R:ab}{b:Nat}{v0 v1 v2 v3 v4:S}{t:TypeId}(h:H w (aa b #[v0,v1,v2,v3,v4] t*R))(u0 u1 u2 u3 u4:S):
  H (((((w.setCell (D b 0 y) u0).setCell (D b 1 y) u1).setCell (D b 2 y) u2).setCell (D b 3 y) u3).setCell (D b 4 y) u4) (aa b #[u0,u1,u2,u3,u4] t*R):=
 ((((h.set 0 u0).set 1 u1).set 2 u2).set 3 u3).set 4 u4
theorem Has.frees5{w:F}{R:ab}{b:Nat}{v0 v1 v2 v3 v4:S}{t:TypeId}(h:H w (aa b #[v0,v1,v2,v3,v4] t*R)):
  w.frozen? (D b 0 y)=G∧w.frozen? (D b 1 y)=G∧w.frozen? (D b 2 y)=G∧w.frozen? (D b 3 y)=G∧w.frozen? (D b 4 y)=G:=
 ⟨h.free 0,h.free 1,h.free 2,h.free 3,h.free 4⟩
def kD(p:Nat)(A:Option Y)(c:Nat)(l:List T)(R:ab):ab:=aa p #[.slice A l.length c] 253*(dM (.slice A l.length c) l*R)
def bQ(p:Nat)(l:List T):ab:=ex fun A=>ex fun c=>kD p A c l (eZ True)
theorem n6(R:ab):eZ True*R=R:=by
 funext h
 apply propext;constructor
 ·rintro⟨h1,h2,d,rfl,⟨_,rfl⟩,q⟩
  have:Hpm.union Hpm.emp h2=h2:=by funext b;simp[Hpm.union,Hpm.emp]
  rw[this];exact q
 ·intro q
  exact⟨Hpm.emp,h,fun b=> .inl rfl,by funext b;simp[Hpm.union,Hpm.emp],⟨trivial,rfl⟩,q⟩
theorem dP{p:Nat}{l:List T}{R:ab}{w:F}(h:H w (bQ p l*R)):∃A c,H w (kD p A c l R):=by
 unfold bQ at h;obtain⟨g,h⟩:=aw.1 h;obtain⟨vf,h⟩:=aw.1 h;refine⟨g,vf,?_⟩;unfold kD at h⊢;simpa only[aN,n6] using h
theorem gN{p c:Nat}{A:Option Y}{l:List T}{R:ab}{w:F}(h:H w (kD p A c l R)):H w (bQ p l*R):=by
 unfold bQ;refine aw.2 ⟨A,aw.2 ⟨c,?_⟩⟩;unfold kD at h⊢;simpa only[aN,n6] using h
def AE(l:List T):Prop:=∀x∈l,bX x.m.page
theorem A7(R:ab)(w:F)(h:H w R):J prog 140 #[] w fun e w'=>∃p,cF (.pointer (z (D p 0 y))) (bQ p []*R) w e w':=by
 have h1:=h.new #[.slice y 0 0] 253;have h2:H (w.alloc (.cells #[.slice y 0 0] 253)) (kD w.heap.size y 0 [] R):=(Has.rowNil h1).p2;go_enter func140,ntmps140;go_wp2;go_ret;exact⟨_,rfl,gN h2,(K w).alloc _⟩
theorem oO(x:T)(k:Int)(X:Nat)(R:ab)(w:F)(hx:bX x.m.page)(hk:bX k)(h:H w (aa X #[B C k] 3*R)):
  J prog 216 #[x.val,.pointer (z (D X 0 y))] w (ag (O (over x.m k)) w):=by
 have h1:=h.new #[B C x.m.page,B C x.m.size,B C x.m.frame,B C x.m.rights,O x.dirty] 150;have bl:=(Below.refl w.heap.size w).alloc (Nat.le_refl _) (.cells #[B C x.m.page,B C x.m.size,B C x.m.frame,B C x.m.rights,O x.dirty] 150);have c0:=h1.right.cell 0;have hX:=h1.right.lt;obtain⟨d0,d1,d2,d3,d4⟩:=h1.cells5;go_enter func216,ntmps216;go_wp2_with(refine(jC x.m k _ hx hk).mono ?_;rintro e w2 ⟨rfl,b2⟩)
 go_ret;exact⟨rfl,bl.trans (b2.mono bl.size)⟩
theorem oP(x:T)(m:Mp)(X:Nat)(R:ab)(w:F)(hx:bX x.m.page)(hm:bX m.page)(h:H w (aa X #[B C m.page,B C m.size,B C m.frame,B C m.rights] 75*R)):
  J prog 237 #[x.val,.pointer (z (D X 0 y))] w (ag (O (ey x.m m)) w):=by
 have h1:=h.new #[B C x.m.page,B C x.m.size,B C x.m.frame,B C x.m.rights,O x.dirty] 150;have bl:=(Below.refl w.heap.size w).alloc (Nat.le_refl _) (.cells #[B C x.m.page,B C x.m.size,B C x.m.frame,B C x.m.rights,O x.dirty] 150);obtain⟨c0,c1,c2,c3⟩:=h1.right.cells4;have hX:=h1.right.lt;obtain⟨d0,d1,d2,d3,d4⟩:=h1.cells5;go_enter func237,ntmps237;go_wp2_with(refine(pR x.m m _ hx hm).mono ?_;rintro e w2 ⟨rfl,b2⟩)
 go_ret;exact⟨rfl,bl.trans (b2.mono bl.size)⟩
theorem Ar(p:Nat)(l:List T)(R:ab)(w:F)(hs:l.length≤1000000)(h:H w (bQ p l*R)):
  J prog 122 #[.pointer (z (D p 0 y))] w (vN l w):=by
 obtain⟨A,c,h⟩:=dP h;have hC:=vO l A l.length c _ w hs h.p2;have c0:=h.cell 0;have hp:=h.lt;go_enter func122,ntmps122;go_wp2_with(refine hC.mono ?_;rintro e w2 ⟨A',n',c',rfl,h2,x2⟩)
 go_ret;exact⟨A',n',c',rfl,h2,x2⟩
theorem vP(p:Nat)(R:ab)(w:F)(h:H w (bQ p []*R)):
  J prog 150 #[.pointer (z (D p 0 y))] w (cF (O G) (bQ p []*R) w):=by
 obtain⟨A,c,h⟩:=dP h;have c0:w.cell? (D p 0 y)=z (.slice A 0 c):=h.cell 0;have hp:=h.lt;go_enter func150,ntmps150;go_wp2_with fail
 go_ret;exact⟨rfl,gN h,K _⟩
theorem n7(p:Nat)(l:List T)(R:ab)(w:F)(hl:0<l.length)(h:H w (bQ p l*R)):
  J prog 150 #[.pointer (z (D p 0 y))] w (cF (O U) (bQ p l.tail*R) w):=by
 obtain⟨A,c,h⟩:=dP h;obtain⟨g,rfl,_⟩:=iQ (k:=0) h.right hl;have hC:=tJ l 0 1 g l.length c _ w (by omega) (by omega) h.p2;have hne:((l.length:Int)==0)=G:=beq_eq_false_iff_ne.2 (by omega);have e1:l.take 0++l.drop 1=l.tail:=by simp
 have e2:0+(l.length - 1)=l.tail.length:=by simp
 rw[e1,e2] at hC;clear e1 e2;have c0:w.cell? (D p 0 y)=z (.slice (z (D g 0 y)) l.length c):=h.cell 0;have hp:=h.lt;have hbig:=(dO h.right).1;clear h;generalize l.tail=l' at*
 go_enter func150,ntmps150;go_wp2_with(refine hC.mono ?_;rintro e w2 ⟨rfl,h2,x2⟩;have d0:=h2.right.lt;have d1:=h2.right.free 0;have d2:=h2.right.cell 0)
 go_ret;exact⟨rfl,gN (h2.p2.set 0 _),x2.set _ _⟩
theorem yn(p:Nat)(l:List T)(m:Mp)(R:ab)(w:F)(hok:AE l)(hm:bX m.page)(h:H w (bQ p l*R)):
  J prog 224 #[.pointer (z (D p 0 y)),.agg #[B C m.page,B C m.size,B C m.frame,B C m.rights]] w (cF (B C ((l.length:Int) - (M l m).length)) (bQ p (M l m)*R) w):=by
 have hmf:∀(fn:Fn) (first cap:Array S) (w:F),(Instr.makeFunc fn first cap).run prog w= .ok (.func fn first cap) w:=fun _ _ _ _=>rfl;obtain⟨A,c,h⟩:=dP h;have h1:=h.new #[B C m.page,B C m.size,B C m.frame,B C m.rights] 75;have x1:=(K w).alloc (.cells #[B C m.page,B C m.size,B C m.frame,B C m.rights] 75);have hbig:=(dO h.right).1;have c0:=h1.right.cell 0;have hp:=h1.right.lt;have h2:H (w.alloc (.cells #[B C m.page,B C m.size,B C m.frame,B C m.rights] 75)) (dM (.slice A l.length c) l*(aa w.heap.size #[B C m.page,B C m.size,B C m.frame,B C m.rights] 75*(aa p #[.slice A l.length c] 253*R))):=h1.eq (by unfold kD;(simp only[aN,av,cy]));have hC:=nr l (fun x=>ey x.m m) 237 #[.pointer (z (D w.heap.size 0 y))] A l.length c _ _ h2 (enters_of func237 (by kernel_rfl) rfl) (fun x hx W hW=>oP x m _ _ W (hok x hx) hm hW);have hle:(M l m).length ≤l.length:=List.length_filter_le _ _;have hC2:J prog 236 #[.slice A l.length c,.func (.func 237) #[] #[.pointer (z (D w.heap.size 0 y))]] (w.alloc (.cells #[B C m.page,B C m.size,B C m.frame,B C m.rights] 75))
   (cF (.slice A (M l m).length c) (dM (.slice A (M l m).length c) (M l m)*(aa w.heap.size #[B C m.page,B C m.size,B C m.frame,B C m.rights] 75*(aa p #[.slice A l.length c] 253*R))) (w.alloc (.cells #[B C m.page,B C m.size,B C m.frame,B C m.rights] 75))):=hC
 clear hC h2 h1 h;generalize M l m=l' at*
 go_enter func224,ntmps224;go_wp2_with(refine hC2.mono ?_;rintro e w2 ⟨rfl,h2,x2⟩;have d0:=h2.right.right.lt;have d1:=h2.right.right.free 0;have d2:=h2.right.right.cell 0)
 have h3:H w2 (aa p #[.slice A l.length c] 253*(dM (.slice A l'.length c) l'*R)):=h2.p2.right.p2;go_ret;exact⟨by go_num,gN (h3.set 0 _),(x1.trans x2).set _ _⟩
def As:Option T→S
 |none=>lnZero
 |some x=>x.val
theorem At(p:Nat)(l:List T)(k:Int)(R:ab)(w:F)(hok:AE l)(hk:bX k)(h:H w (bQ p l*R)):
  J prog 180 #[.pointer (z (D p 0 y)),.int .i64 k] w (ag (.tuple #[As (Tl.find l k),O (Tl.find l k).isSome]) w):=by
 have hmf:∀(fn:Fn) (first cap:Array S) (w:F),(Instr.makeFunc fn first cap).run prog w= .ok (.func fn first cap) w:=fun _ _ _ _=>rfl;obtain⟨A,c,h⟩:=dP h;have h1:=h.new #[B C k] 3;have h2:=h1.new #[B C 0,B C 0,B C 0,B C 0,O G] 150;have H2:=((bc w).new #[B C k] 3).new #[B C 0,B C 0,B C 0,B C 0,O G] 150;have x2:=((K w).alloc (.cells #[B C k] 3)).alloc (.cells #[B C 0,B C 0,B C 0,B C 0,O G] 150);simp only[World.size_alloc] at h2 H2;have hbig:=(dO h.right).1;have hL:H ((w.alloc (.cells #[B C k] 3)).alloc (.cells #[B C 0,B C 0,B C 0,B C 0,O G] 150)) (dM (.slice A l.length c) l*(aa w.heap.size #[B C k] 3*(aa (w.heap.size+1) #[B C 0,B C 0,B C 0,B C 0,O G] 150*(aa p #[.slice A l.length c] 253*R)))):=h2.eq (by unfold kD;(simp only[aN,av,cy]));have hC:=kC l (fun x=>over x.m k) 216 #[.pointer (z (D w.heap.size 0 y))] A l.length c _ _ hL (enters_of func216 (by kernel_rfl) rfl) (fun x hx W hW=>oO x k _ _ W (hok x hx) hk hW);have c0:=h2.right.right.cell 0;have hp:=h2.right.right.lt;have he:qk (fun x=>over x.m k) l=Tl.idx l k:=rfl;rw[he] at hC;clear he h h1 h2;rcases Tl.idx_find l k with ⟨e1,e2⟩|⟨j,hj,e1,e2,_⟩
 ·rw[e1]
  rw[e2] at hC;clear e1 e2;go_enter func180,ntmps180;go_wp2_with(refine hC.mono ?_;rintro e w2 ⟨rfl,b2⟩;have H3:=H2.below b2;have x3:=x2.below b2;obtain⟨d0,d1,d2,d3,d4⟩:=H3.cells5;obtain⟨f0,f1,f2,f3,f4⟩:=H3.frees5;have fl:=H3.lt)
  refine ay (fun wz=>H wz (aa (w.heap.size+1) #[B C 0,B C 0,B C 0,B C 0,O G] 150*(aa w.heap.size #[B C k] 3*cr w w.heap.size))∧ad w wz) ⟨H3.set5 _ _ _ _ _,aj⟩ ?_;rintro wz ⟨hz,xz⟩;exact N (aF results180 rfl rfl (n5 hz)) rfl ⟨rfl,aA hz.right.right xz⟩
 ·rw[e2]
  rw[e1] at hC;clear e1 e2;go_enter func180,ntmps180;go_wp2_with(refine hC.mono ?_;rintro e w2 ⟨rfl,b2⟩;have H3:=H2.below b2;have x3:=x2.below b2;obtain⟨d0,d1,d2,d3,d4⟩:=H3.cells5;obtain⟨f0,f1,f2,f3,f4⟩:=H3.frees5;have fl:=H3.lt;have k0:=(hL.below b2).right.right.right.cell 0;have kp:=(hL.below b2).right.right.right.lt;obtain⟨g,rfl,gb,⟨g0,g1,g2,g3,g4⟩,_⟩:=iQ (hL.below b2) hj)
  generalize l[j]=x at*
  refine ay (fun wz=>H wz (aa (w.heap.size+1) #[B C x.m.page,B C x.m.size,B C x.m.frame,B C x.m.rights,O x.dirty] 150*(aa w.heap.size #[B C k] 3*cr w w.heap.size))∧ad w wz) ⟨H3.set5 _ _ _ _ _,aj⟩ ?_;rintro wz ⟨hz,xz⟩;exact N (aF results180 rfl rfl (n5 hz)) rfl ⟨rfl,aA hz.right.right xz⟩
theorem qo(x:T):∀u∈x.cells,u.oneCell'=U:=by
 intro u hx;simp[Ln.cells] at hx;rcases hx with rfl|rfl|rfl|rfl|rfl<;>rfl
theorem qp{p c X:Nat}{A:Option Y}{l:List T}{x:T}{cs:Array S}{t:TypeId}{R:ab}{w:F}(h:H w (aa p #[.slice A (l.length+1) c] 253*(bt 150 5 (.slice A (l.length+1) c) (l.length+1) (bW l++x.cells)*(aa X cs t*R)))):
  H w (bQ p (l++[x])*R):=by
 have h1:=h.drop3;refine gN (A:=A) (c:=c) ?_;unfold kD dM;rw[show(l++[x]).length =l.length+1 by simp,jQ,show bW [x]=x.cells by simp[bW]];exact h1
theorem zo(p:Nat)(l:List T)(x:T)(R:ab)(w:F)(hc:bp x.m≠0)(h:H w (bQ p l*R)):
  J prog 185 #[.pointer (z (D p 0 y)),.agg #[B C x.m.page,B C x.m.size,B C x.m.frame,B C x.m.rights,O x.dirty]] w (cF (O G) (bQ p l*R) w):=by
 have h1:=h.new #[B C x.m.page,B C x.m.size,B C x.m.frame,B C x.m.rights,O x.dirty] 150;have x1:=(K w).alloc (.cells #[B C x.m.page,B C x.m.size,B C x.m.frame,B C x.m.rights,O x.dirty] 150);obtain⟨d0,d1,d2,d3,d4⟩:=h1.cells5;have hn:(bp x.m !=0)=U:=by simpa using hc
 have HC:=E (jD x.m);generalize bp x.m=k at*
 go_enter func185,ntmps185;go_wp2_with(refine(HC.out _).mono ?_;rintro e w2 ⟨rfl,b2⟩)
 go_ret;exact⟨rfl,h1.right.below b2,x1.below b2⟩
theorem xq(p:Nat)(l:List T)(x:T)(R:ab)(w:F)(hok:AE l)(hx:bX x.m.page)(hl:l.length≤1000)(hc:bp x.m=0)(h:H w (bQ p l*R)):
  J prog 185 #[.pointer (z (D p 0 y)),.agg #[B C x.m.page,B C x.m.size,B C x.m.frame,B C x.m.rights,O x.dirty]] w (cF (O U) (bQ p (Z (M l x.m)++[x])*R) w):=by
 have h1:=h.new #[B C x.m.page,B C x.m.size,B C x.m.frame,B C x.m.rights,O x.dirty] 150;have x1:=(K w).alloc (.cells #[B C x.m.page,B C x.m.size,B C x.m.frame,B C x.m.rights,O x.dirty] 150);obtain⟨d0,d1,d2,d3,d4⟩:=h1.cells5;have HC:=E (jD x.m);rw[hc] at HC;have HD:=E (fun R w h=>yn p l x.m R w hok hx h);have hle:(M l x.m).length ≤l.length:=List.length_filter_le _ _;clear hc;generalize M l x.m=l1 at*
 by_cases h6:l1.length=6
 ·have hr:Z l1=l1.tail:=by unfold Z;rw[if_pos h6]
  rw[hr];go_enter func185,ntmps185;go_wp2_with fail
  refine(HC.out _).mono ?_;rintro e w2 ⟨rfl,b2⟩;have h2:=h1.below b2;have x2:=x1.below b2;clear d0 d1 d2 d3 d4;obtain⟨d0,d1,d2,d3,d4⟩:=h2.cells5;go_wp2_with fail
  refine(HD.out _ _ h2.p2).mono ?_;rintro e w3 ⟨rfl,h3,x3⟩;have x3:=x2.trans x3;obtain⟨A,c,h3o⟩:=dP h3;have c0:w3.cell? (D p 0 y)=z (.slice A l1.length c):=h3o.cell 0;rw[h6] at c0;have cp:=h3o.lt;clear d0 d1 d2 d3 d4 h1 h2 x1 x2 h HC HD;go_wp2_with fail
  refine(n7 p l1 _ _ (by omega) h3).mono ?_;rintro e wz ⟨rfl,h4,x4⟩;have hl':l1.tail.length≤1000:=by simp[h6]
  generalize l1.tail=l2 at*
  have x4:=x3.trans x4;obtain⟨A,c,h4⟩:=dP h4;clear c0 cp h3o h3 hle h6 hr x3;go_wp2_with fail
  have hsm:=(dO h4.right).1;have c0:=h4.cell 0;have cp:=h4.lt;have cf:=h4.free 0;obtain⟨d0,d1,d2,d3,d4⟩:=h4.right.right.cells5;have dl:=h4.right.right.lt;have hrow:=(h4.drew.p2).alloc (.cells #[B C x.m.page,B C x.m.size,B C x.m.frame,B C x.m.rights,O x.dirty] 150);go_region_law (refine bU rfl (.tmp 25) (.tmp 27) 148 rfl underlying148 rv _ _ _ (by simp[Act.eval]) hrow (D wz.heap.size 0 y) 1 1 x.cells (by simp[Act.eval]) rfl (jH wz.drew x.cells 150) (qo x) (by unfold maxLen;omega) (by omega) ?_;intro A' c' w5 h5 x5;have g0:=h5.right.lt;have g1:=h5.right.free 0;have g2:=h5.right.cell 0)
  all_goals
   go_wp2_with fail
   go_ret;exact⟨rfl,qp (h5.p2.set 0 _),((x4.drew.alloc _).trans x5).set _ _⟩
 ·have hr:Z l1=l1:=by unfold Z;rw[if_neg h6]
  rw[hr];have h6':((l1.length:Int)==6)=G:=beq_eq_false_iff_ne.2 (by omega);clear hr h6;go_enter func185,ntmps185;go_wp2_with fail
  refine(HC.out _).mono ?_;rintro e w2 ⟨rfl,b2⟩;have h2:=h1.below b2;have x2:=x1.below b2;clear d0 d1 d2 d3 d4;obtain⟨d0,d1,d2,d3,d4⟩:=h2.cells5;go_wp2_with fail
  refine(HD.out _ _ h2.p2).mono ?_;rintro e wz ⟨rfl,h3,x3⟩;have x4:=x2.trans x3;obtain⟨A,c,h4⟩:=dP h3;clear d0 d1 d2 d3 d4 h1 h2 x1 x2 h HC HD h3;have hl':l1.length≤1000:=by omega
  clear hle;have c0:wz.cell? (D p 0 y)=z (.slice A l1.length c):=h4.cell 0;have cp:=h4.lt;go_wp2_with fail
  have hsm:=(dO h4.right).1;have c0:=h4.cell 0;have cp:=h4.lt;have cf:=h4.free 0;obtain⟨d0,d1,d2,d3,d4⟩:=h4.right.right.cells5;have dl:=h4.right.right.lt;have hrow:=(h4.drew.p2).alloc (.cells #[B C x.m.page,B C x.m.size,B C x.m.frame,B C x.m.rights,O x.dirty] 150);go_region_law (refine bU rfl (.tmp 25) (.tmp 27) 148 rfl underlying148 rv _ _ _ (by simp[Act.eval]) hrow (D wz.heap.size 0 y) 1 1 x.cells (by simp[Act.eval]) rfl (jH wz.drew x.cells 150) (qo x) (by unfold maxLen;omega) (by omega) ?_;intro A' c' w5 h5 x5;have g0:=h5.right.lt;have g1:=h5.right.free 0;have g2:=h5.right.cell 0)
  all_goals
   go_wp2_with fail
   go_ret;exact⟨rfl,qp (h5.p2.set 0 _),((x4.drew.alloc _).trans x5).set _ _⟩
theorem Tl.Ok.lok{l:List T}(h:ak l):AE l:=fun x hx=>by
 have hm:=dL (h.chk x hx);have:=hm.p0;have:=hm.p1;have:=hm.sp;exact⟨by omega,by omega⟩
theorem A8(p:Nat)(l:List T)(x:T)(R:ab)(w:F)(hl:ak l)(hx:bX x.m.page)(h:H w (bQ p l*R)):
  J prog 185 #[.pointer (z (D p 0 y)),.agg #[B C x.m.page,B C x.m.size,B C x.m.frame,B C x.m.rights,O x.dirty]] w (cF (O (decide (bp x.m=0))) (bQ p (al l x)*R) w):=by
 unfold al;by_cases hc:bp x.m=0
 ·rw[if_pos hc,decide_eq_true hc]
  exact xq p l x R w hl.lok hx (Nat.le_trans hl.len (by omega)) hc h
 ·rw[if_neg hc,decide_eq_false hc]
  exact zo p l x R w hc h
theorem zp(p:Nat)(l:List T)(R:ab)(w:F)(h:H w (bQ p l*R)):
  J prog 150 #[.pointer (z (D p 0 y))] w (cF (O (decide (0<l.length))) (bQ p (ap l)*R) w):=by
 unfold ap;cases l with
 |nil=>exact vP p R w h
 |cons x l=>exact n7 p (x::l) R w (by simp) h
def cg(b:Nat)(l:List T)(root:Int)(k:Ck):ab:=ex fun t=>ex fun v=>aa b #[.pointer (z (D t 0 y)),.pointer (z (D v 0 y))] 207*(bQ t l*aO v root k)
theorem eW{b:Nat}{l:List T}{root:Int}{k:Ck}{R:ab}{w:F}(h:H w (cg b l root k*R)):
  ∃t v,H w (aa b #[.pointer (z (D t 0 y)),.pointer (z (D v 0 y))] 207*(bQ t l*(aO v root k*R))):=by
 unfold cg at h;obtain⟨t,h⟩:=aw.1 h;obtain⟨v,h⟩:=aw.1 h;exact⟨t,v,h.eq (by ac_rfl)⟩
theorem ei{b t v:Nat}{l:List T}{root:Int}{k:Ck}{R:ab}{w:F}(h:H w (aa b #[.pointer (z (D t 0 y)),.pointer (z (D v 0 y))] 207*(bQ t l*(aO v root k*R)))):H w (cg b l root k*R):=by
 unfold cg;exact aw.2 ⟨t,aw.2 ⟨v,h.eq (by ac_rfl)⟩⟩
theorem A9(root:Int)(R:ab)(w:F)(h:H w R):J prog 113 #[B C root] w fun e w'=>∃b,cF (.pointer (z (D b 0 y))) (cg b [] root Ck.zero*R) w e w':=by
 go_enter func113,ntmps113;go_wp2_with fail
 refine(A7 _ _ h).mono ?_;rintro e w2 ⟨t,rfl,h2,x2⟩;go_wp2_with fail
 refine(Bb root _ _ h2).mono ?_;rintro e w3 ⟨v,rfl,h3,x3⟩;have h4:=ei ((h3.new #[.pointer (z (D t 0 y)),.pointer (z (D v 0 y))] 207).eq (show _=aa w3.heap.size #[.pointer (z (D t 0 y)),.pointer (z (D v 0 y))] 207*(bQ t []*(aO v root Ck.zero*R)) by ac_rfl));have x4:=(x2.trans x3).alloc (.cells #[.pointer (z (D t 0 y)),.pointer (z (D v 0 y))] 207);go_wp2_with fail
 go_ret;exact⟨_,rfl,h4,x4⟩
theorem vQ(b:Nat)(l:List T)(root:Int)(k:Ck)(R:ab)(w:F)(h:H w (cg b l root k*R)):J prog 142 #[.pointer (z (D b 0 y))] w (Same (O k.on) w):=by
 obtain⟨t,v,h⟩:=eW h;obtain⟨c0,c1⟩:=h.cells2;have cl:=h.lt;have HO:=E (Bc v root k _ _ h.right.p2);clear h;go_enter func142,ntmps142;go_wp2_with(refine HO.out.mono ?_;rintro e w2 ⟨rfl,rfl⟩)
 go_ret;exact⟨rfl,rfl⟩
theorem xt(b:Nat)(l:List T)(root:Int)(k:Ck)(R:ab)(w:F)(h:H w (cg b l root k*R)):J prog 143 #[.pointer (z (D b 0 y))] w (ag (.agg #[B C k.a.page,B C k.a.kind,O k.a.user]) w):=by
 obtain⟨t,v,h⟩:=eW h;have h1:=(bc w).new #[B C 0,B C 0,O G] 77;have hw:=h.alloc (.cells #[B C 0,B C 0,O G] 77);have x1:=(K w).alloc (.cells #[B C 0,B C 0,O G] 77);have HA:=E (fun R X h=>xH v root k R X h);obtain⟨c0,c1⟩:=hw.cells2;have cl:=hw.lt;clear h;go_enter func143,ntmps143;go_wp2_with fail
 refine(HA.out _ _ (hw.right.right)).mono ?_;rintro e w2 ⟨rfl,b2⟩;have h2:=h1.below b2;have x2:=x1.below b2;obtain⟨r0,r1,r2⟩:=h2.cells3;obtain⟨g0,g1,g2⟩:=h2.frees3;have rl:=h2.lt;go_wp2_with fail
 refine ay (fun wz=>H wz (aa w.heap.size #[B C k.a.page,B C k.a.kind,O k.a.user] 77*(cr w w.heap.size))∧ad w wz) ⟨h2.set3 _ _ _,aj⟩ ?_;rintro wz ⟨hz,xz⟩;exact N (aR results143 rfl (eY hz)) rfl ⟨rfl,aA hz.right xz⟩
set_option maxHeartbeats 2000000 in
theorem Au(b:Nat)(l:List T)(root:Int)(k:Ck)(m:Mp)(hl:ak l)(hm:bX m.page)(R:ab)(w:F)(h:H w (cg b l root k*R)):
  J prog 187 #[.pointer (z (D b 0 y)),.agg #[B C m.page,B C m.size,B C m.frame,B C m.rights]] w (cF (.tuple #[]) (cg b (M l m) root (k.again root)*R) w):=by
 obtain⟨t,v,h⟩:=eW h;have h1:H _ (bQ t l*(aa b #[.pointer (z (D t 0 y)),.pointer (z (D v 0 y))] 207*(aa w.heap.size #[B C m.page,B C m.size,B C m.frame,B C m.rights] 75*(aO v root k*R)))):=(h.new #[B C m.page,B C m.size,B C m.frame,B C m.rights] 75).eq (by ac_rfl);have x1:=(K w).alloc (.cells #[B C m.page,B C m.size,B C m.frame,B C m.rights] 75);have HD:=E (fun R X h=>yn t l m R X hl.lok hm h);have HA:=E (fun R X h=>vY v root k R X h);clear h hl hm;go_enter func187,ntmps187;go_upto_region 1 with fail;generalize w.alloc _=w1 at*
 generalize w.heap.size=X at*
 obtain⟨c0,c1⟩:=h1.right.cells2;have cl:=h1.right.lt;obtain⟨m0,m1,m2,m3⟩:=h1.right.right.cells4;have ml:=h1.right.right.lt;have HK:=E (fun(w':F) (P Q:ab) (h:H w' (P*(aa b #[.pointer (z (D t 0 y)),.pointer (z (D v 0 y))] 207*(aa X #[B C m.page,B C m.size,B C m.frame,B C m.rights] 75*Q))))=>(by
  obtain⟨b0,_⟩:=h.right.cells2;obtain⟨m0,m1,m2,m3⟩:=h.right.right.cells4;exact⟨b0,m0,m1,m2,m3⟩:w'.cell? (D b 0 y)=z (.pointer (z (D t 0 y)))∧w'.cell? (D X 0 y)=z (B C m.page)∧w'.cell? (D X 1 y)=z (B C m.size)∧w'.cell? (D X 2 y)=z (B C m.frame)∧w'.cell? (D X 3 y)=z (B C m.rights)))
 have h2:=h1.drew;have x2:=x1.drew;go_region_held3 (fun w'=>w'.cell? (D b 0 y)=z (.pointer (z (D t 0 y)))∧w'.cell? (D X 0 y)=z (B C m.page)∧w'.cell? (D X 1 y)=z (B C m.size)∧w'.cell? (D X 2 y)=z (B C m.frame)∧w'.cell? (D X 3 y)=z (B C m.rights)) (first|(with_reducible exact HK.out _ _ _ h2)|(with_reducible exact HK.out _ _ _ h3)|go_keep) (first|(go_at_call 224;(with_reducible refine(HD.out _ _ h2).mono ?_);rintro e w3 ⟨rfl,h3,x3⟩))
 have x4:=x2.trans x3;clear h1 h2 x1 x2 x3 c0 c1 cl m0 m1 m2 m3 ml HK HD;obtain⟨c0,c1⟩:=h3.right.cells2;have cl:=h3.right.lt;have h4:H w3 (aO v root k*(bQ t (M l m)*(aa b #[.pointer (z (D t 0 y)),.pointer (z (D v 0 y))] 207*(aa X #[B C m.page,B C m.size,B C m.frame,B C m.rights] 75*R)))):=h3.eq (by ac_rfl);go_wp2_with fail
 refine(HA.out _ _ h4).mono ?_;rintro e w5 ⟨rfl,h5,x5⟩;have h6:=ei (h5.eq (show _=aa b #[.pointer (z (D t 0 y)),.pointer (z (D v 0 y))] 207*(bQ t (M l m)*(aO v root (k.again root)*(aa X #[B C m.page,B C m.size,B C m.frame,B C m.rights] 75*R))) by ac_rfl));go_wp2_with fail
 exact N (v:= .tuple #[]) (by simp[results,results187]) rfl ⟨rfl,h6.p2.right,x4.trans x5⟩
set_option maxHeartbeats 4000000 in
theorem xu(b f:Nat)(l:List T)(root:Int)(k:Ck)(s:Ms)(fin d:Bool)(af afr ari p0 p1 p2 p3 code:Int)(k':Ck)(s':Ms)(L:List T)(hp:Hid (be s root k=⟨k',s',⟨fin,⟨af,afr,ari⟩,⟨⟨p0,p1,p2,p3⟩,d⟩⟩,code⟩))(HL:Hid (L=if fin=U∧af=0 then al l ⟨⟨p0,p1,p2,p3⟩,d⟩ else l))(hl:ak l)(hs:s.Ok)(hk:k.Ok)(R:ab)(W:F)(h:H W (cg b l root k*(ae f s*R))):
  J prog 148 #[.pointer (z (D b 0 y)),.pointer (z (D f 0 y))] W
   (cF (.tuple #[.agg #[B C af,B C afr,B C ari],O fin,B C code]) (cg b L root k'*(ae f s'*R)) W):=by
 have hp0:bX p0:=by have:=rr s root k;rw[hp.out] at this;exact this
 have hbad:code≠0→fin=G∧af=0∧afr=0∧ari=0:=fun hc=>by
  have:=tD (s:=s) (root:=root) (c:=k) (by rw[hp.out];exact hc);rw[hp.out] at this;injection this with h1 h2 h3
  injection h2 with h4 h5 h6
  exact⟨h1,h4,h5,h6⟩
 obtain⟨t,v,h⟩:=eW h;have HS:=E (fun R X h=>Ay v f root k s hs hk R X h);rw[hp.out] at HS;dsimp only[zy] at HS;have h1:H _ (aO v root k*(ae f s*(aa b #[.pointer (z (D t 0 y)),.pointer (z (D v 0 y))] 207*(bQ t l*(aa W.heap.size #[B C 0,B C 0,B C 0] 70*R))))):=(h.new #[B C 0,B C 0,B C 0] 70).eq (by ac_rfl);have x1:=(K W).alloc (.cells #[B C 0,B C 0,B C 0] 70);clear h hs hk hp;go_enter func148,ntmps148;go_upto_region 1 with fail;generalize W.alloc _=W1 at*
 generalize W.heap.size=X0 at*
 obtain⟨c0,c1⟩:=h1.right.right.cells2;have cl:=h1.right.right.lt;go_wp2_with fail
 refine(HS.out _ _ h1).mono ?_;rintro e w3 ⟨rfl,h3,x3⟩;have h4:H _ (aa w3.heap.size #[O fin,B C af,B C afr,B C ari,B C p0,B C p1,B C p2,B C p3,O d] 274*(aa X0 #[B C 0,B C 0,B C 0] 70*(aa b #[.pointer (z (D t 0 y)),.pointer (z (D v 0 y))] 207*(bQ t l*(aO v root k'*(ae f s'*R)))))):=(h3.new #[O fin,B C af,B C afr,B C ari,B C p0,B C p1,B C p2,B C p3,O d] 274).eq (by ac_rfl);have x4:=(x1.trans x3).alloc (.cells #[O fin,B C af,B C afr,B C ari,B C p0,B C p1,B C p2,B C p3,O d] 274);clear h1 x1 h3 x3 HS c0 c1 cl;go_upto_region 2 with fail;generalize w3.alloc _=w4 at*
 generalize w3.heap.size=V at*
 obtain⟨v0,v1,v2,v3,v4,v5,v6,v7,v8⟩:=h4.cells9;have vl:=h4.lt;obtain⟨r0,r1,r2⟩:=h4.right.cells3;obtain⟨g0,g1,g2⟩:=h4.right.frees3;have rl:=h4.right.lt;obtain⟨c0,c1⟩:=h4.right.right.cells2;have cl:=h4.right.right.lt;by_cases hc:code=0
 ·subst hc
  clear hbad;by_cases hcond:fin=U∧af=0
  ·have HL':=HL.out
   rw[if_pos hcond] at HL';clear HL;obtain⟨rfl,rfl⟩:=hcond;have HP:=E (fun R X h=>A8 t l ⟨⟨p0,p1,p2,p3⟩,d⟩ R X hl hp0 h);dsimp only at HP;rw[←HL'] at HP;clear hp0 hl HL';generalize decide (bp ⟨p0,p1,p2,p3⟩=0)=okp at*
   have h5:H w4.drew (bQ t l*(aa V #[O U,B C 0,B C afr,B C ari,B C p0,B C p1,B C p2,B C p3,O d] 274*(aa b #[.pointer (z (D t 0 y)),.pointer (z (D v 0 y))] 207*(aa X0 #[B C 0,B C 0,B C 0] 70*(aO v root k'*(ae f s'*R)))))):=h4.drew.eq (by ac_rfl);have x5:=x4.drew;have HK:=E (fun(w':F) (P Q:ab) (h:H w' (P*(aa V #[O U,B C 0,B C afr,B C ari,B C p0,B C p1,B C p2,B C p3,O d] 274*(aa b #[.pointer (z (D t 0 y)),.pointer (z (D v 0 y))] 207*Q))))=>(by
    obtain⟨_,_,_,_,m4,m5,m6,m7,m8⟩:=h.right.cells9;obtain⟨b0,_⟩:=h.right.right.cells2;exact⟨b0,m4,m5,m6,m7,m8⟩:w'.cell? (D b 0 y)=z (.pointer (z (D t 0 y)))∧w'.cell? (D V 4 y)=z (B C p0)∧w'.cell? (D V 5 y)=z (B C p1)∧w'.cell? (D V 6 y)=z (B C p2)∧w'.cell? (D V 7 y)=z (B C p3)∧w'.cell? (D V 8 y)=z (O d)))
   go_upto_region 5 with fail;go_region_held3 (fun w'=>w'.cell? (D b 0 y)=z (.pointer (z (D t 0 y)))∧w'.cell? (D V 4 y)=z (B C p0)∧w'.cell? (D V 5 y)=z (B C p1)∧w'.cell? (D V 6 y)=z (B C p2)∧w'.cell? (D V 7 y)=z (B C p3)∧w'.cell? (D V 8 y)=z (O d)) (first|(with_reducible exact HK.out _ _ _ h5)|(with_reducible exact HK.out _ _ _ h6)|go_keep) (first|(go_at_call 185;(with_reducible refine(HP.out _ _ h5).mono ?_);rintro e w6 ⟨rfl,h6,x6⟩))
   have x7:=x5.trans x6;clear h4 h5 x4 x5 x6 HP HK v0 v1 v2 v3 v4 v5 v6 v7 v8 vl r0 r1 r2 g0 g1 g2 rl c0 c1 cl;have h7:H w6 (aa X0 #[B C 0,B C 0,B C 0] 70*(aa V #[O U,B C 0,B C afr,B C ari,B C p0,B C p1,B C p2,B C p3,O d] 274*(aa b #[.pointer (z (D t 0 y)),.pointer (z (D v 0 y))] 207*(bQ t L*(aO v root k'*(ae f s'*R)))))):=h6.eq (by ac_rfl);clear h6;obtain⟨v0,v1,v2,v3,v4,v5,v6,v7,v8⟩:=h7.right.cells9;have vl:=h7.right.lt;have vn:=h7.ne;have vn':=vn.symm;obtain⟨r0,r1,r2⟩:=h7.cells3;obtain⟨g0,g1,g2⟩:=h7.frees3;have rl:=h7.lt;go_upto_region 6 with fail;go_region
   all_goals
    go_wp2_with fail
    refine ay (fun wz=>H wz (aa X0 #[B C 0,B C afr,B C ari] 70*(aa V #[O U,B C 0,B C afr,B C ari,B C p0,B C p1,B C p2,B C p3,O d] 274*(aa b #[.pointer (z (D t 0 y)),.pointer (z (D v 0 y))] 207*(bQ t L*(aO v root k'*(ae f s'*R))))))∧ad W wz) ⟨by first|exact(h7.set3 _ _ _).drew |exact h7.drew.set3 _ _ _,aj⟩ ?_;rintro wz ⟨hz,xz⟩;exact N (cP results148 rfl rfl rfl (cZ hz)) rfl ⟨rfl,ei hz.right.right,xz⟩
  ·have HL':=HL.out
   rw[if_neg hcond] at HL';clear HL;subst HL';have h7:=h4.p2;have vn:=h7.ne;have vn':=vn.symm;go_upto_region 4 with fail;go_cut [29] from 22 to 29 (fun s29 wx=>s29=O G∧wx=w4)
   case first=>
    cases fin with
    |false=>
     go_wp2_with fail
     go_meet
     case rel=>exact⟨rfl,rfl⟩
    |true=>
     have ha:(af==0)=G:=by simpa using hcond
     clear hcond;go_wp2_with fail
     go_meet
     case rel=>exact⟨rfl,rfl⟩
   case rest=>
    obtain⟨rfl,rfl⟩:=hcut;go_upto_region 6 with fail;go_region
    all_goals
     go_wp2_with fail
     refine ay (fun wz=>H wz (aa X0 #[B C af,B C afr,B C ari] 70*(aa V #[O fin,B C af,B C afr,B C ari,B C p0,B C p1,B C p2,B C p3,O d] 274*(aa b #[.pointer (z (D t 0 y)),.pointer (z (D v 0 y))] 207*(bQ t L*(aO v root k'*(ae f s'*R))))))∧ad W wz) ⟨by first|exact(h7.set3 _ _ _).drew |exact h7.drew.set3 _ _ _,aj⟩ ?_;rintro wz ⟨hz,xz⟩;exact N (cP results148 rfl rfl rfl (cZ hz)) rfl ⟨rfl,ei hz.right.right,xz⟩
 ·obtain⟨rfl,rfl,rfl,rfl⟩:=hbad hc
  have hn:(code !=0)=U:=by simpa using hc
  have HL':=HL.out;rw[if_neg (by simp)] at HL';clear HL hc;subst HL';go_wp2_with fail
  refine ay (fun wz=>H wz (aa X0 #[B C 0,B C 0,B C 0] 70*(aa V #[O G,B C 0,B C 0,B C 0,B C p0,B C p1,B C p2,B C p3,O d] 274*(aa b #[.pointer (z (D t 0 y)),.pointer (z (D v 0 y))] 207*(bQ t L*(aO v root k'*(ae f s'*R))))))∧ad W wz) ⟨h4.p2.set3 _ _ _,aj⟩ ?_;rintro wz ⟨hz,xz⟩;exact N (cP results148 rfl rfl rfl (cZ hz)) rfl ⟨rfl,ei hz.right.right,xz⟩
theorem zq(b f:Nat)(l:List T)(root:Int)(k:Ck)(s:Ms)(hl:ak l)(hs:s.Ok)(hk:k.Ok)(R:ab)(W:F)(h:H W (cg b l root k*(ae f s*R))):
  J prog 148 #[.pointer (z (D b 0 y)),.pointer (z (D f 0 y))] W
   (cF (.tuple #[.agg #[B C (be s root k).r.an.fin,B C (be s root k).r.an.frame,B C (be s root k).r.an.rights],O (be s root k).r.fin,B C (be s root k).code]) (cg b (iz l (be s root k).r) root (be s root k).c *(ae f (be s root k).s *R)) W):=
 xu b f l root k s _ _ _ _ _ _ _ _ _ _ _ _ (iz l (be s root k).r) (E rfl) (E rfl) hl hs hk R W h
end Go.Proofs.YtmfheghbgihdmaaGreatDoor
