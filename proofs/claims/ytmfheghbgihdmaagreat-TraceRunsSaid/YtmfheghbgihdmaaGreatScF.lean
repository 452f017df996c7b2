/- A space's end: acks clear what is waited for; unmaps empty the book; plain law, with no program in sight. -/
import Derived.Test.YtmfheghbgihdmaaGreatScE
namespace Go.Proofs.YtmfheghbgihdmaaGreat
open List renaming getElem?_eq_getElem→d
open Go.RowKit
namespace Safe
variable {σ:Sc} {P:List Mp}
theorem idle(h:Safe σ P)(hw:∀i,i<σ.cs.length→σ.wait i=false):σ.busy=false:=by
 cases hb:σ.busy with
 |false=>rfl
 |true=>
  obtain⟨i,hi,hi2⟩:=h.busy hb;rw[hw i hi] at hi2;cases hi2
end Safe
section
variable {σ:Sc} {n K:Nat} {L:List Mp} {x:Stp}
end
section
variable {σ τ:Sc} {n K:Nat} {L:List Mp}
end
theorem qT{s:Ms}{root:Int}{c:Ck}(h:(aU s root c).code ≠0):(aU s root c).s =s∧(aU s root c).c =c:=by
 unfold aU at h⊢;split;· exact⟨rfl,rfl⟩
 rename_i h1;rw[if_neg h1] at h;split;· exact⟨rfl,rfl⟩
 rename_i h2;rw[if_neg h2] at h;split
 ·rename_i h3;rw[if_pos h3] at h;exact absurd rfl h
 rename_i h3;rw[if_neg h3] at h;split;· exact⟨rfl,rfl⟩
 rename_i h4;rw[if_neg h4] at h;split
 ·rename_i h5;rw[if_pos h5] at h;exact absurd rfl h
 rename_i h5;rw[if_neg h5] at h;split
 ·rename_i h6;rw[if_pos h6] at h;exact absurd rfl h
 rename_i h6;rw[if_neg h6] at h;split
 ·rename_i h7;rw[if_pos h7] at h;exact absurd rfl h
 rename_i h7;rw[if_neg h7] at h;split
 ·rename_i h8;rw[if_pos h8] at h;exact absurd rfl h
 rename_i h8;rw[if_neg h8] at h;split
 ·rename_i h9;rw[if_pos h9] at h;exact absurd rfl h
 ·rename_i h9;rw[if_neg h9] at h;exact absurd rfl h
theorem uj{σ:Sc}{k:Nat}(hk:k<σ.cs.length):σ.put k (σ.core k)=σ:=by
 unfold Sc.put Sc.core;rw[List.getD_eq_getElem?_getD,d hk];show({σ with cs:=σ.cs.set k σ.cs[k]}:Sc)=σ;rw[List.set_getElem_self]
theorem uk{σ:Sc}{x:Stp}(h:(σ.act x).2.code≠0):(σ.act x).1=σ∧(σ.act x).2=Ev.no (σ.act x).2.code:=by
 unfold Sc.act at h⊢;split
 ·rename_i h1;rw[if_pos h1] at h
  unfold Sc.change at h⊢;split;· exact⟨rfl,rfl⟩
  rename_i h2;rw[if_neg h2] at h;split
  ·rename_i h3;rw[if_pos h3] at h
   have h:dd σ.s 0 x.m≠0:=h;have e:dQ σ.s 0 x.m=σ.s:=by unfold dQ;rw[if_neg h]
   dsimp only;rw[e,decide_eq_false h];exact⟨rfl,rfl⟩
  rename_i h3;rw[if_neg h3] at h;split
  ·rename_i h4;rw[if_pos h4] at h
   split
   ·rename_i h5;rw[if_pos h5] at h;exact absurd rfl h
   ·exact⟨rfl,rfl⟩
  rename_i h4;rw[if_neg h4] at h;split
  ·rename_i h5;rw[if_pos h5] at h;exact absurd rfl h
  ·exact⟨rfl,rfl⟩
 rename_i h1;rw[if_neg h1] at h;split;· exact⟨rfl,rfl⟩
 rename_i h2;rw[if_neg h2] at h;split;· exact⟨rfl,rfl⟩
 rename_i h3;rw[if_neg h3] at h;have hk:x.core.toNat<σ.cs.length:=by omega
 have hp:=uj hk;generalize x.core.toNat=k at*
 split
 ·rename_i h4;rw[if_pos h4] at h
  unfold Sc.access at h⊢;dsimp only at h⊢;have hb:db (σ.core k).l 0 (σ.core k).k x.a=⟨An.zero,false,(db (σ.core k).l 0 (σ.core k).k x.a).code,(σ.core k).k⟩:=by
   unfold db at h⊢;split;· rfl
   rename_i h5;rw[if_neg h5] at h;split;· rfl
   rename_i h6;rw[if_neg h6] at h;split
   ·rename_i h7;rw[h7] at h;exact absurd rfl h
   ·rename_i h7;rw[h7] at h;exact absurd rfl h
  rw[hb];exact⟨hp,rfl⟩
 rename_i h4;rw[if_neg h4] at h;split
 ·rename_i h5;rw[if_pos h5] at h
  unfold Sc.walk at h⊢;dsimp only at h⊢;obtain⟨e1,e2⟩:=qT h;have e3:=oe h;rw[e1,e2,e3];refine⟨?_,rfl⟩;show({σ.put k ⟨ge (σ.core k).l Rs.zero,(σ.core k).k⟩ with s:=σ.s}:Sc)=σ;rw[show ge (σ.core k).l Rs.zero=(σ.core k).l from by unfold ge;rw[if_neg (by intro hh;cases hh.1)]];exact hp
 rename_i h5;rw[if_neg h5] at h;split
 ·rename_i h6;rw[if_pos h6] at h
  unfold Sc.ack at h⊢;split;· exact⟨rfl,rfl⟩
  rename_i h7;rw[if_neg h7] at h;split
  ·rename_i h8;rw[if_pos h8] at h;exact absurd rfl h
  ·rename_i h8;rw[if_neg h8] at h;exact absurd rfl h
 rename_i h6;rw[if_neg h6] at h;unfold Sc.evict at h⊢;split;· exact⟨rfl,rfl⟩
 rename_i h7;rw[if_neg h7] at h;exact absurd rfl h
def d9(σ:Sc)(l:List Stp):Sc:=l.foldl (fun σ x=>(σ.act x).1) σ
def cL:Sc→List Stp→List Ev
 |_,[]=>[]
 |σ,x::l=>(σ.act x).2::cL (σ.act x).1 l
theorem pO(σ:Sc)(l:List Stp)(x:Stp):d9 σ (l++[x])=((d9 σ l).act x).1:=by
 unfold d9;rw[List.foldl_append];rfl
theorem kM:∀(l:List Stp) (σ:Sc) (x:Stp),cL σ (l++[x])=cL σ l++[((d9 σ l).act x).2]
 | [],_,_=>rfl
 |y::l,σ,x=>by
  show(σ.act y).2::cL (σ.act y).1 (l++[x])=_;rw[kM l (σ.act y).1 x];rfl
theorem lx:∀(l:List Stp) (σ:Sc),(cL σ l).length =l.length
 | [],_=>rfl
 |x::l,σ=>by
  show(cL (σ.act x).1 l).length +1=l.length+1;rw[lx l]
theorem mV:∀(k:Nat) (l:List Stp) (σ:Sc),cL σ (l.take k)=(cL σ l).take k
 |0,_,_=>rfl
 |_+1,[],_=>rfl
 |k+1,x::l,σ=>by
  show(σ.act x).2::cL (σ.act x).1 (l.take k)=(σ.act x).2::(cL (σ.act x).1 l).take k;rw[mV k l]
def jN(W:Wc)(l:List Stp):Wc:=l.foldl (fun W x=>(W.act x).1) W
theorem pP(W:Wc)(l:List Stp)(x:Stp):jN W (l++[x])=((jN W l).act x).1:=by
 unfold jN;rw[List.foldl_append];rfl
theorem pQ:∀(l:List Stp) (W:Wc),(jN W l).σ=d9 W.σ l
 | [],_=>rfl
 |x::l,W=>by
  show(jN (W.act x).1 l).σ=d9 (W.σ.act x).1 l;rw[pQ l];rfl
theorem kg{l:List Stp}{i:Nat}(hi:i<l.length){x:Stp}(hx:l[i]=x):l.take (i+1)=l.take i++[x]:=by
 rw[List.take_add_one,d hi,hx];rfl
theorem sw{W:Wc}{x:Stp}(h:(W.act x).2.code≠0):(W.act x).1=W∧(W.act x).2=Ev.no (W.act x).2.code:=by
 have h':(W.σ.act x).2.code≠0:=h;obtain⟨a,b⟩:=uk h';refine⟨?_,b⟩;have hb:(W.σ.act x).2.back=false:=by rw[b];rfl
 unfold Wc.act;dsimp only;rw[a,Wc.hist_bad h'];unfold eD Wc.sinceN;rw[if_neg (by rw[hb];simp),if_neg (fun hc=>h' hc.1)]
end Go.Proofs.YtmfheghbgihdmaaGreat
