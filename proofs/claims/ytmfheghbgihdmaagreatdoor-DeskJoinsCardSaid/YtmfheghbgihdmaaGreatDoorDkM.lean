/- The desk as plain Lean: what lines come to; with no program in sight. -/
import Derived.Test.YtmfheghbgihdmaaGreatDoorScI
import Derived.Lib.FieldsP
import Derived.Lib.AtoiAll
import Derived.Lib.ItoaNum
import Derived.Lib.Join
import Derived.RangeFuncNested
import Derived.RangeFuncBound
import Derived.RangeFuncCalls
import Derived.RangeFuncLeaves
import Derived.Shelf.Abstract
import Derived.Shelf.RegionOpen
import Derived.WalkKit
import Derived.OwnWalkIn
import Derived.TacticsInMore
import Derived.LoopNIn
import Derived.LoopIn
import Derived.Test.YtmfheghbgihdmaaGreatDoorPage
import Derived.Test.YtmfheghbgihdmaaGreatDoorInsM2
import Derived.Test.YtmfheghbgihdmaaGreatDoorEntBits
import Derived.Test.YtmfheghbgihdmaaGreatDoorWkr
import Derived.Deep.RegionHeld3
import Derived.BigQuiet
import Derived.Lib.SliceRun
import Derived.Outline
namespace Go.Proofs.YtmfheghbgihdmaaGreatDoor
open Go.Value renaming int→vI
open Go.IntKind renaming i64→vK
open Go.Value renaming bool→vB
open Option renaming none→G,some→H
open Go renaming World→I,Value→N,Addr→al,Calls→ap
open Go.Addr renaming mk→M
open List renaming length_append→O,getElem?_eq_getElem→ag
open Go.Proofs.YtmfheghbgihdmaaGreatDoor.Good renaming const→U,till→Y,and→af
open Go.Proofs.YtmfheghbgihdmaaGreatDoor renaming Has→V,Safe→ak
open Bool renaming true→Z,false→au
open Go.Lib renaming hid→ad
open Tryz
open Go.RowKit
theorem jW:∀(k u:Nat),u<10 ^ (k+1)→(Lib.decDigits u).length ≤k+1
 |0,u,h=>by
  rw[Lib.decDigits,dif_pos (by omega)];exact Nat.le_refl _
 |k+1,u,h=>by
  rw[Lib.decDigits];split
  ·simp
  ·have hp:=jW k (u / 10) (by rw[Nat.pow_succ] at h;omega)
   simp only[O,List.length_cons,List.length_nil];omega
theorem ur{n:Int}(h:bX n):(Lib.itoa n).length ≤20:=by
 obtain⟨h0,h1⟩:=h;unfold Lib.itoa;split
 ·have:=jW 18 n.natAbs (by rw[show(10:Nat) ^ (18+1)=10000000000000000000 from by decide];omega)
  simp only[List.length_cons];omega
 ·have:=jW 18 n.toNat (by rw[show(10:Nat) ^ (18+1)=10000000000000000000 from by decide];omega)
  omega
inductive Pt where
 |s (b:ByteArray)
 |n (i:Int)
def Pt.txt:Pt→List UInt8
 | .s b=>b.data.toList
 | .n i=>Lib.itoa i
def Pt.ok:Pt→Prop
 | .s b=>b.data.toList.length≤20
 | .n i=>bX i
theorem Pt.len{x:Pt}(h:x.ok):x.txt.length≤20:=by
 cases x with
 |s b=>exact h
 |n i=>exact ur h
def bN(l:List Pt):List UInt8:=Lib.join (l.map Pt.txt) [32]++[10]
theorem ut:∀(l:List (List UInt8)),(∀x∈l,x.length≤20)→(Lib.join l [32]).length ≤21*l.length
 | [],_=>by rw[Lib.join_nil];exact Nat.le_refl _
 |x::r,h=>by
  rw[Lib.join_cons];have hx:=h x (List.mem_cons_self ..);have hr:∀(r:List (List UInt8)),(∀x∈r,x.length≤20)→(Lib.joinTail [32] r).length ≤21*r.length:=by
   intro r;induction r with
   |nil=>intro _;exact Nat.le_refl _
   |cons y r ih=>
    intro h;have hy:=h y (List.mem_cons_self ..);have:=ih (fun z hz=>h z (List.mem_cons_of_mem _ hz));unfold Lib.joinTail at this⊢;simp only[List.map_cons,List.flatten_cons,O,List.length_cons,List.length_nil];omega
  have:=hr r (fun z hz=>h z (List.mem_cons_of_mem _ hz));simp only[O,List.length_cons];omega
theorem pt{l:List Pt}(h:∀x∈l,x.ok):(Lib.join (l.map Pt.txt) [32]).length ≤21*l.length:=by
 have:=ut (l.map Pt.txt) (fun x hx=>by obtain⟨y,hy,rfl⟩:=List.mem_map.1 hx;exact Pt.len (h y hy));rwa [List.length_map] at this
theorem ir{l:List Pt}(h:∀x∈l,x.ok):(bN l).length ≤21*l.length+1:=by
 have:=pt h;unfold bN;simp only[O,List.length_cons,List.length_nil];omega
theorem lV{α:Type}(f:α→List UInt8)(c:Nat):∀(l:List α),(∀x∈l,(f x).length ≤c)→(l.flatMap f).length ≤c*l.length
 | [],_=>Nat.zero_le _
 |x::r,h=>by
  have h1:=h x (List.mem_cons_self ..);have h2:=lV f c r (fun y hy=>h y (List.mem_cons_of_mem _ hy));simp only[List.flatMap_cons,O,List.length_cons,Nat.mul_add,Nat.mul_one];omega
def pu:ByteArray:=⟨#[110,111]⟩
def lW:ByteArray:=⟨#[102,114,97,109,101]⟩
def it:ByteArray:=⟨#[117,110,109,97,112,112,101,100]⟩
def pv:ByteArray:=⟨#[102,111,114,98,105,100,100,101,110]⟩
def pw:ByteArray:=⟨#[98,97,99,107]⟩
def wa:ByteArray:=⟨#[111,107]⟩
def jX:ByteArray:=⟨#[109,97,112]⟩
def nk:ByteArray:=⟨#[101,110,100]⟩
def xS:ByteArray:=⟨#[108,105,110,101]⟩
def fR:ByteArray:=⟨#[99,97,108,109]⟩
def fZ:ByteArray:=⟨#[119,104,97,116]⟩
def tNew:ByteArray:=⟨#[110,101,119]⟩
def dI:ByteArray:=⟨#[112,114,111,116,101,99,116]⟩
def e6:ByteArray:=⟨#[97,99,99,101,115,115]⟩
def gx:ByteArray:=⟨#[117,110,109,97,112]⟩
def jd:ByteArray:=⟨#[119,97,108,107]⟩
def lY:ByteArray:=⟨#[97,99,107]⟩
def gy:ByteArray:=⟨#[101,118,105,99,116]⟩
def je:ByteArray:=⟨#[102,105,110,100]⟩
def jf:ByteArray:=⟨#[107,101,112,116]⟩
def jg:ByteArray:=⟨#[108,105,115,116]⟩
def ow(e:Ev):List Pt:=
 if e.code≠0 then [.s pu,.n e.code]
 else if e.fin=Z then if e.an.fin=0 then [.s lW,.n e.an.frame,.n e.an.rights] else if e.an.fin=1 then [.s it] else [.s pv]
 else if e.back=Z then [.s pw] else [.s wa]
def Ev.fit(e:Ev):Prop:=bX e.code∧(e.fin=Z→bX e.an.frame∧bX e.an.rights)
def py(b:Bool):Int:=if b=Z then 1 else 0
def gT(m:Mp):List Pt:=[.s jX,.n m.page,.n m.size,.n m.frame,.n m.rights]
def iK(m:Mp)(e:En):List Pt:=[.s jX,.n m.page,.n m.size,.n m.frame,.n m.rights,.n (py e.used),.n (py e.dirty)]
def eo(x:Ln):List Pt:=[.s xS,.n x.m.page,.n x.m.size,.n x.m.frame,.n x.m.rights,.n (py x.dirty)]
def gC(l:List Ev):List UInt8:=l.flatMap fun e=>bN (ow e)
def lZ(L:List Mp):List UInt8:=(L.flatMap fun m=>bN (gT m))++bN [.s nk]
def pz(L:List Ln):List UInt8:=(L.flatMap fun m=>bN (eo m))++bN [.s nk]
def l5(σ:Sc)(p:Int):List UInt8:=if bm σ.s 0 p≠0 then bN [.s pu,.n (bm σ.s 0 p)] else bN (iK (bJ σ.s 0 p) (jT σ.s 0 p))
def l6(σ:Sc):List UInt8:=gC (fB σ).2++bN [.s fR,.n (fB σ).1.s.frees.length,.n (fi (fB σ).1.s 0).length]
def dx(σ:Sc)(x:Stp):Sc×List UInt8:=((σ.act x).1,bN (ow (σ.act x).2))
def fN(c n:Int):Option Sc×List UInt8:=if 1≤c∧c≤4∧1≤n∧n≤128 then(H (Sc.new c.toNat n.toNat),bN [.s wa]) else(G,bN [.s pu,.n 1])
def bu(s:ByteArray):Int:=
 if s=tNew∨s=dI then 2 else if s=jX∨s=e6 then 4
 else if s=gx∨s=jd∨s=lY∨s=gy∨s=je∨s=jf then 1 else if s=jg∨s=fR then 0 else -1
def iZ(s:ByteArray):Option Int:=
 match Lib.atoiAll s.data.toList with
 | .ok n=>if n<0∨100000000<n∨Lib.itoa n≠s.data.toList then G else H n
 |_=>G
def dz:List ByteArray→Option (List Int)
 | []=>H []
 |s::r=>match iZ s with
  |none=>G
  |some n=>match dz r with
   |none=>G
   |some l=>H (n::l)
def dq(σ:Sc)(s:ByteArray)(n:List Int):Sc×List UInt8:=
 if s=jX then dx σ ⟨1,0,⟨n.getD 0 0,n.getD 1 0,n.getD 2 0,n.getD 3 0⟩,Ac.zero⟩
 else if s=gx then dx σ ⟨2,0,⟨n.getD 0 0,0,0,0⟩,Ac.zero⟩
 else if s=dI then dx σ ⟨3,0,⟨n.getD 0 0,0,0,n.getD 1 0⟩,Ac.zero⟩
 else if s=e6 then dx σ ⟨4,n.getD 0 0,Mp.zero,⟨n.getD 1 0,n.getD 2 0,decide (n.getD 3 0≠0)⟩⟩
 else if s=jd then dx σ ⟨5,n.getD 0 0,Mp.zero,Ac.zero⟩
 else if s=lY then dx σ ⟨6,n.getD 0 0,Mp.zero,Ac.zero⟩
 else if s=gy then dx σ ⟨7,n.getD 0 0,Mp.zero,Ac.zero⟩
 else if s=je then(σ,l5 σ (n.getD 0 0))
 else if s=jf then(σ,pz (σ.kept (n.getD 0 0)))
 else if s=jg then(σ,lZ (cJ σ.s 0))
 else if s=fR then((fB σ).1,l6 σ)
 else(σ,[])
def dp(s:ByteArray):List ByteArray:=Lib.goFieldsP (fun x=>x==32) s
def cC(S:Option Sc)(s:ByteArray):Option Sc×List UInt8:=
 match dp s with
 | []=>(S,[])
 |w::r=>match dz r with
  |none=>(S,bN [.s fZ])
  |some n=>
   if bu w≠n.length then(S,bN [.s fZ])
   else if w=tNew then fN (n.getD 0 0) (n.getD 1 0)
   else match S with
    |none=>(G,bN [.s fZ])
    |some σ=>(H (dq σ w n).1,(dq σ w n).2)
def bn:Option Sc→List ByteArray→Option Sc×List UInt8
 |S,[]=>(S,[])
 |S,s::r=>((bn (cC S s).1 r).1,(cC S s).2++(bn (cC S s).1 r).2)
theorem gD:∀(a b:List ByteArray) (S:Option Sc),bn S (a++b)=((bn (bn S a).1 b).1,(bn S a).2++(bn (bn S a).1 b).2)
 | [],b,S=>rfl
 |s::a,b,S=>by
  show((bn (cC S s).1 (a++b)).1,(cC S s).2++(bn (cC S s).1 (a++b)).2)=_;rw[gD a b];simp only[bn,List.append_assoc]
theorem oz(a:List ByteArray)(s:ByteArray)(S:Option Sc):bn S (a++[s])=((cC (bn S a).1 s).1,(bn S a).2++(cC (bn S a).1 s).2):=by
 rw[gD];simp[bn]
theorem ce{n:Int}(h0:0≤n)(h1:n≤1000000000):bX n:=⟨by omega,by omega⟩
theorem l7(b:Bool):bX (py b):=by cases b<;>exact ce (by decide) (by decide)
theorem oA{e:Ev}(h:e.fit):∀x∈ow e,x.ok:=by
 obtain⟨hc,hf⟩:=h;unfold ow;split
 ·intro x hx
  simp only[List.mem_cons,List.not_mem_nil,or_false] at hx;rcases hx with rfl|rfl
  ·show 2≤20;decide
  ·exact hc
 split
 ·rename_i hfin
  obtain⟨h1,h2⟩:=hf hfin;split
  ·intro x hx
   simp only[List.mem_cons,List.not_mem_nil,or_false] at hx;rcases hx with rfl|rfl|rfl
   ·show 5≤20;decide
   ·exact h1
   ·exact h2
  split
  ·intro x hx;rw[List.mem_singleton.1 hx];show 8≤20;decide
  ·intro x hx;rw[List.mem_singleton.1 hx];show 9≤20;decide
 split
 ·intro x hx;rw[List.mem_singleton.1 hx];show 4≤20;decide
 ·intro x hx;rw[List.mem_singleton.1 hx];show 2≤20;decide
theorem oB(e:Ev):(ow e).length ≤3:=by unfold ow;repeat(split<;>try (simp;done))
theorem oC{m:Mp}(h:m.ok):∀x∈gT m,x.ok:=by
 intro x hx;simp only[gT,List.mem_cons,List.not_mem_nil,or_false] at hx;rcases hx with rfl|rfl|rfl|rfl|rfl
 ·show 3≤20;decide
 ·exact h.1
 ·exact h.2.1
 ·exact h.2.2.1
 ·exact h.2.2.2
theorem nz{m:Mp}{e:En}(h:m.ok):∀x∈iK m e,x.ok:=by
 intro x hx;simp only[iK,List.mem_cons,List.not_mem_nil,or_false] at hx;rcases hx with rfl|rfl|rfl|rfl|rfl|rfl|rfl
 ·show 3≤20;decide
 ·exact h.1
 ·exact h.2.1
 ·exact h.2.2.1
 ·exact h.2.2.2
 ·exact l7 _
 ·exact l7 _
theorem l8{l:Ln}(h:l.m.ok):∀x∈eo l,x.ok:=by
 intro x hx;simp only[eo,List.mem_cons,List.not_mem_nil,or_false] at hx;rcases hx with rfl|rfl|rfl|rfl|rfl|rfl
 ·show 4≤20;decide
 ·exact h.1
 ·exact h.2.1
 ·exact h.2.2.1
 ·exact h.2.2.2
 ·exact l7 _
section
variable {σ:Sc} {P:List Mp}
theorem pA(h:ak σ P){p:Int}(hc:bm σ.s 0 p=0):(bJ σ.s 0 p).ok :=Safe.mapOk_ok (Safe.findM_ok h.wf hc).2.1
theorem kq(h:ak σ P)(p:Int):bX (bm σ.s 0 p):=by rcases h.find_few p with e|e|e<;>rw[e]<;>exact ce (by decide) (by decide)
theorem uu(h:ak σ P)(m:Mp):bX (dm σ.s 0 m):=by
 unfold dm;have hc:=nT m;split
 ·rcases hc with e|e|e|e<;>rw[e]<;>exact ce (by decide) (by decide)
 split
 ·rcases h.way_zero m.page with e|e<;>rw[e]<;>exact ce (by decide) (by decide)
 split;· exact ce (by decide) (by decide)
 split<;>exact ce (by decide) (by decide)
theorem uv(h:ak σ P)(x:Stp):bX (σ.act x).2.code:=by
 have k0:bX 0:=ce (by decide) (by decide);have k1:bX 1:=ce (by decide) (by decide);have k2:bX 2:=ce (by decide) (by decide);have k8:bX 8:=ce (by decide) (by decide);have k9:bX 9:=ce (by decide) (by decide);unfold Sc.act;split
 ·unfold Sc.change
  split;· exact k8
  split;· exact uu h x.m
  split
  ·split
   ·exact k0
   ·exact kq h x.m.page
  ·split
   ·exact k0
   ·show bX (iV σ.s 0 x.m.page x.m.rights)
    unfold iV;split
    ·exact k1
    ·exact kq h x.m.page
 split;· exact k2
 split;· exact k1
 rename_i hc;have hk:x.core.toNat<σ.cs.length:=by omega
 split
 ·rcases Safe.access_few (σ:=σ) x.a x.core.toNat with e|e|e
  ·rw[e]
   rcases Safe.checkAccess_few x.a with e|e|e<;>rw[e]<;>assumption
  ·rw[e];exact k8
  ·rw[e];exact k0
 split
 ·rw[h.walk_few hk]
  split<;>assumption
 split
 ·unfold Sc.ack
  split;· exact k9
  split<;>exact k0
 ·unfold Sc.evict
  split
  ·exact k9
  ·exact k0
theorem rH{L:List Mp}(hL:Bk.Ok L)(a:Ac):bX (Bk.ans L a).frame ∧bX (Bk.ans L a).rights :=by
 have k0:bX 0:=ce (by decide) (by decide);unfold Bk.ans;cases hf:Bk.find L a.page with
 |none=>exact⟨k0,k0⟩
 |some m=>
  have hm:=Safe.mapOk_ok (hL.chk m (((Bk.find_iff hL).1 hf).1));show bX (cv m a).frame ∧bX (cv m a).rights;unfold cv;split
  ·exact⟨by show bX (wrap64 _);unfold wrap64 bX;omega,hm.2.2.2⟩
  ·exact⟨k0,k0⟩
theorem lp(h:ak σ P)(x:Stp):(σ.act x).2.fit:=by
 refine⟨uv h x,fun hf=> ?_⟩;obtain⟨_,_,_,_,_,_,hr⟩:=h.fin_right x hf;rcases hr with hr|⟨_,_,hr⟩
 ·rw[←hr];exact rH h.lk.ok _
 ·rw[←hr];exact rH h.prev _
theorem l9:∀(m k:Nat) (σ:Sc) (P:List Mp),ak σ P→(∃Q,ak (dZ m k σ).1 Q)∧∀e∈(dZ m k σ).2,e.fit
 |0,_,_,P,h=>⟨⟨P,h⟩,fun e he=>by cases he⟩
 |m+1,k,σ,P,h=>by
  unfold dZ;split
  ·obtain⟨h1,h2⟩:=l9 m (k+1) _ _ (h.act (cM k))
   refine⟨h1,fun e he=> ?_⟩;rcases List.mem_cons.1 he with rfl|he
   ·exact lp h _
   ·exact h2 e he
  ·exact l9 m (k+1) σ P h
theorem pB:∀(m k:Nat) (σ:Sc) (P:List Mp),ak σ P→(∃Q,ak (fx m k σ).1 Q)∧∀e∈(fx m k σ).2,e.fit
 |0,_,_,P,h=>⟨⟨P,h⟩,fun e he=>by cases he⟩
 |m+1,k,σ,P,h=>by
  unfold fx;split
  ·obtain⟨h1,h2⟩:=pB m k _ _ (h.act (bO k))
   refine⟨h1,fun e he=> ?_⟩;rcases List.mem_cons.1 he with rfl|he
   ·exact lp h _
   ·exact h2 e he
  ·exact⟨⟨P,h⟩,fun e he=>by cases he⟩
theorem nA:∀(m k:Nat) (σ:Sc) (P:List Mp),ak σ P→(∃Q,ak (dA m k σ).1 Q)∧∀e∈(dA m k σ).2,e.fit
 |0,_,_,P,h=>⟨⟨P,h⟩,fun e he=>by cases he⟩
 |m+1,k,σ,P,h=>by
  obtain⟨⟨Q,h1⟩,h2⟩:=pB 7 k σ P h;obtain⟨h3,h4⟩:=nA m (k+1) _ Q h1;refine⟨h3,fun e he=> ?_⟩;rcases List.mem_append.1 he with he|he
  ·exact h2 e he
  ·exact h4 e he
theorem pC(h:ak σ P):(∃Q,ak (fB σ).1 Q)∧∀e∈(fB σ).2,e.fit:=by
 obtain⟨⟨Q,h1⟩,h2⟩:=l9 σ.cs.length 0 σ P h;obtain⟨h3,h4⟩:=nA σ.cs.length 0 _ Q h1;refine⟨h3,fun e he=> ?_⟩;rcases List.mem_append.1 he with he|he
 ·exact h2 e he
 ·exact h4 e he
end
open Go.RowKit Go.Shelf
set_option maxRecDepth 100000
attribute [local go_sem] Oper.semAt_some
def gX(m:List Int)(k:Nat):List (Int×Int):=(List.range k).map fun(j:Nat)=>(((m.length:Int) - 1 - (j:Int)),m[m.length - 1 - j]?.getD 0)
theorem qP(m:List Int)(k:Nat):gX m (k+1)=gX m k++[(((m.length:Int) - 1 - k),m[m.length - 1 - k]?.getD 0)]:=by simp[gX,List.range_succ]
theorem sG(m:List Int)(k:Nat):(gX m k).length =k:=by simp[gX]
theorem sH(m:List Int):(gX m m.length).map Prod.snd=m.reverse:=by
 unfold gX;rw[List.map_map];apply List.ext_getElem
 ·simp
 ·intro i h1 h2
  simp at h1 h2⊢;rw[ag (by omega)];rfl
structure KpT (T:Nat→Prop) (A B:I):Prop where
 same:∀b,T b→B.heap[b]? =A.heap[b]?
theorem KpT.refl(T:Nat→Prop)(A:I):KpT T A A:=⟨fun _ _=>rfl⟩
theorem KpT.trans{T:Nat→Prop}{A B C:I}(h:KpT T A B)(k:KpT T B C):KpT T A C:=⟨fun b hb=>(k.same b hb).trans (h.same b hb)⟩
theorem KpT.cell{T:Nat→Prop}{A B:I}(h:KpT T A B){b o:Nat}(hb:T b):B.cell? (M b o G)=A.cell? (M b o G):=by
 have:=h.same b hb;unfold World.cell?;simp only[this]
set_option maxHeartbeats 2000000 in
theorem zO(n:Nat)(hn:1≤n)(l Bs c:Nat)(A:Option al)(m:List Int)(hm:m.length≤9223372036854775807)(T:Nat→Prop)(hT:T Bs)(J Jx:List (Int×Int)→I→Prop)
  (hY:∀pre x W,J pre W→pre.length<m.length→YieldAt Fence.wide (n - 1) prog l #[vI vK x.1,vI vK x.2] W fun e W'=>
   (e= .returned (.bool Z)∧J (pre++[x]) W'∧KpT T W W')∨(e= .returned (.bool au)∧Jx (pre++[x]) W'))
  (W:I) (hBs:W.cell? (M Bs 0 G)=H (.slice A m.length c)) (hc:∀j,(hj:j<m.length)→∃b,A=H (M b 0 G)∧T b∧W.cell? (M b j G)=H (vI vK m[j])) (h0:J [] W):
  CallsIn Fence.wide n prog 241 #[.func (.yield l) #[] #[],.pointer (H (M Bs 0 G))] W fun e W'=>(∃v,e= .returned v)∧
   ((∃ys,ys=gX m m.length∧J ys W')∨(∃pre,(∃k,k≤m.length∧pre=gX m k)∧Jx pre W')):=by
 refine callsIn_of_wp func241 rfl trivial ?_ rfl;simp only[ntmps241,List.size_toArray,List.length_cons,List.length_nil,Nat.reduceAdd,Nat.reduceSub,Array.replicate_succ,Array.replicate_zero,List.push_toArray,List.append_toArray,List.nil_append,List.cons_append];gi_wp2
 gi_loopw [3] (fun i wr=>∃q:Nat,q≤m.length∧i=vI vK ((q:Int) - 1)∧J (gX m (m.length - q)) wr∧KpT T W wr)
  (fun i _=>(intOf i+1).toNat)
 case atStart=>exact⟨m.length,Nat.le_refl _,by go_num,by rw[Nat.sub_self];exact h0,KpT.refl _ _⟩
 case round=>
  obtain⟨q,hq,hi,hJs,hnx⟩:=hrel;have hBs':=(hnx.cell hT).trans hBs;cases q with
  |zero=>
   obtain rfl:=hi;gi_wp2
   go_end0
   exact⟨⟨_,rfl⟩,.inl ⟨_,rfl,hJs⟩⟩
  |succ j=>
   have hij:((j+1:Nat):Int) - 1=(j:Int):=by omega
   rw[hij] at hi;subst hi;obtain⟨b,hA,hTb,hcb⟩:=hc j (by omega);have hcx:=(hnx.cell hTb).trans hcb;have hji:(j:Int)<m.length:=by omega
   have hk1:m.length - j=m.length - (j+1)+1:=by omega
   have hsx:gX m (m.length - j)=gX m (m.length - (j+1))++[((j:Int),m[j])]:=by
    rw[hk1,qP];have e1:m.length - 1 - (m.length - (j+1))=j:=by omega
    rw[e1,ag (by omega)];congr 2
    simp;omega
   obtain⟨fn,tmps,assign,body,hy,hR⟩:=hY _ ((j:Int),m[j]) _ hJs (by rw[sG];omega);dsimp only at hy;subst hA;gi_wp2
   refine hR.mono ?_;rintro e W3 (⟨rfl,hJ3,hk3⟩|⟨rfl,hJx3⟩)
   ·gi_wp2
    go_roundw
    case rel=>exact⟨j,by omega,by go_num,by rw[hsx];exact hJ3,hnx.trans hk3⟩
    case measure=>first|(simp[intOf];done)|(simp[intOf];omega)
   ·gi_wp2
    refine bodyPost_ret (results_none rfl _ _ _) rfl ?_;exact⟨⟨_,rfl⟩,.inr ⟨_,⟨m.length - j,by omega,hsx.symm⟩,hJx3⟩⟩
theorem qQ(n:Nat)(hn:1≤n)(Bs c:Nat)(A:Option al)(m:List Int)(hm:m.length≤9223372036854775807)(T:Nat→Prop)(hT:T Bs)(w:I)(hB:Bs<w.heap.size)(hBs:w.cell? (M Bs 0 G)=H (.slice A m.length c))(hc:∀j,(hj:j<m.length)→∃b,A=H (M b 0 G)∧b<w.heap.size∧T b∧w.cell? (M b j G)=H (vI vK m[j])):
  SeqStopsK Fence.wide n prog 241 #[.pointer (H (M Bs 0 G))] (fun x:Int×Int=> #[vI vK x.1,vI vK x.2]) (KpT T) (fun xs=>xs=gX m m.length) (fun pre=>∃k,k≤m.length∧pre=gX m k) m.length w:=by
 intro l J Jx W hW hJ hJx hY h0;refine zO n hn l Bs c A m hm T hT J Jx hY W ((hW.cell (p:=(M Bs 0 G)) hB).trans hBs) (fun j hj=> ?_) h0;obtain⟨b,h1,h2,h3,h4⟩:=hc j hj;exact⟨b,h1,h3,(hW.cell (p:=(M b j G)) h2).trans h4⟩
theorem oD(A:Option al)(n c:Nat)(w:I):ap prog 233 #[.slice A n c] w fun e w'=>e= .returned (.func (.func 241) #[] #[.pointer (H (M w.heap.size 0 G))])∧w'=w.alloc (.cells #[.slice A n c] 55):=by
 have hmf:∀(fn:Fn) (first cap:Array N) (w:I),(Instr.makeFunc fn first cap).run prog w= .ok (.func fn first cap) w:=fun _ _ _ _=>rfl;go_enter func233,ntmps233;go_wp2_with fail
 go_ret;exact⟨rfl,rfl⟩
open Go.RowKit Hpm
def fb(x:Hp):ab:=fun h=>h=x
def AllCells(P:ab):Prop:=∀h,P h→∀b o,h b=H o→o.isCells=Z
theorem AllCells.star{P Q:ab}(hp:AllCells P)(hq:AllCells Q):AllCells (P*Q):=by
 rintro h ⟨h1,h2,d,rfl,p,q⟩ b o e;simp only[union] at e;cases e1:h1 b with
 |none=>rw[e1] at e;exact hq h2 q b o (by simpa using e)
 |some x=>rw[e1] at e;simp at e;subst e;exact hp h1 p b x e1
theorem AllCells.ex{α:Type}{P:α→ab}(h:∀x,AllCells (P x)):AllCells (ex P):=fun k ⟨x,p⟩=>h x k p
theorem AllCells.blk(b:Nat)(cs:Array N)(t:TypeId):AllCells (aa b cs t):=by
 rintro h rfl k o e;simp only[single] at e;split at e
 ·injection e with e;subst e;rfl
 ·cases e
theorem AllCells.row(e size:Nat)(v:N)(n:Nat)(xs:List N):AllCells (bt e size v n xs):=by
 rintro h ⟨_,⟨_,_,rfl⟩|⟨g,cap,cur,_,_,_,_,_,hb⟩⟩ b o ho
 ·cases ho
 ·exact AllCells.blk _ _ _ h hb b o ho
theorem AllCells.lift(p:Prop):AllCells (eZ p):=by
 rintro h ⟨_,rfl⟩ b o e;cases e
theorem jh(f:Nat)(s:Ms):AllCells (ae f s):=by
 unfold ae;refine AllCells.ex fun g=>AllCells.ex fun vf=> ?_;unfold bC;exact(AllCells.blk _ _ _).star ((AllCells.blk _ _ _).star ((AllCells.row _ _ _ _ _).star (AllCells.lift _)))
theorem sI{w:I}{P R:ab}(h:V w (P*R)):∃x,R x∧V w (P*fb x)∧sub x (fun b=>w.heap[b]?):=by
 obtain⟨_,s,h1,h2,d,rfl,p,r⟩:=h;exact⟨h2,r,⟨_,s,h1,h2,d,rfl,p,rfl⟩,sub_union_right d s⟩
theorem kE{w:I}{P:ab}{x:Hp}(h:V w (P*fb x)):sub x (fun b=>w.heap[b]?):=by
 obtain⟨_,s,h1,h2,d,rfl,p,r⟩:=h;have r:h2=x:=r;subst r;exact sub_union_right d s
theorem qR{w:I}{P R:ab}{x:Hp}(h:V w (P*fb x))(r:R x):V w (P*R):=by
 obtain⟨_,s,h1,h2,d,rfl,p,e⟩:=h;have e:h2=x:=e;subst e;exact⟨_,s,h1,h2,d,rfl,p,r⟩
theorem uw{w:I}{P:ab}{x:Hp}(h:V w (P*fb x))(hc:AllCells P):∃y,sub x y∧V w (P*fb y)∧∀b o,w.heap[b]? =H o→o.isCells=au→y b=H o:=by
 obtain⟨_,s,h1,h2,d,rfl,p,e⟩:=h;have e:h2=x:=e;subst e;refine⟨fun b=>if(h1 b).isSome then G else w.heap[b]?,?_,⟨_,?_,h1,_,?_,rfl,p,rfl⟩,?_⟩
 ·intro b o e
  have hb:h1 b=G:=by
   rcases d b with h|h
   ·exact h
   ·rw[h] at e;cases e
  show(if(h1 b).isSome then G else w.heap[b]?)=H o;rw[hb];exact sub_union_right d s b o e
 ·refine sub_union (sub_union_left s) fun b o e=> ?_
  replace e:(if(h1 b).isSome then G else w.heap[b]?)=H o:=e;split at e
  ·cases e
  ·exact e
 ·intro b
  cases hb:h1 b with
  |none=>exact .inl rfl
  |some o=>right;simp[hb]
 ·intro b o e ho
  show(if(h1 b).isSome then G else w.heap[b]?)=H o;cases hb:h1 b with
  |none=>exact e
  |some o'=>
   have h3:=sub_union_left s b o' hb;have h4:w.heap[b]? =H o':=h3;rw[e] at h4;injection h4 with h4
   subst h4;rw[hc h1 p b o hb] at ho;cases ho
theorem qS{w:I}{P:ab}{x y:Hp}(h:V w (P*fb y))(hs:sub x y):V w (P*fb x):=by
 obtain⟨_,s,h1,h2,d,rfl,p,e⟩:=h;have e:h2=y:=e;subst e;refine⟨_,sub_union (sub_union_left s) (fun b o hb=>sub_union_right d s b o (hs b o hb)),h1,x,fun b=> ?_,rfl,p,rfl⟩;rcases d b with h|h
 ·exact .inl h
 ·right
  cases hx:x b with
  |none=>rfl
  |some o=>rw[hs b o hx] at h;cases h
theorem kX{w w':I}{P:ab}{x:Hp}{bt:Option Nat}(h:V w (P*fb x))(hc:AllCells P)(hg:w.grownBy w' bt)(hr:∀r,bt=H r→x r=G∧∃o:Obj,w.heap[r]? =H o∧o.isCells=au):V w' (P*fb x):=by
 obtain⟨_,s,h1,h2,d,rfl,p,e⟩:=h;have e:h2=x:=e;subst e;refine⟨_,fun b o hb=> ?_,h1,h2,d,rfl,p,rfl⟩;have h3:w.heap[b]? =H o:=s b o hb;have hlt:b<w.heap.size:=(Array.getElem?_eq_some_iff.1 h3).1;show w'.heap[b]? =H o;rw[hg.block b hlt ?_]
 ·exact h3
 ·intro e
  obtain⟨hx,o',ho',hcl⟩:=hr b e.symm;simp only[union] at hb;cases hb1:h1 b with
  |none=>rw[hb1,hx] at hb;cases hb
  |some o1=>
   have h4:=sub_union_left s b o1 hb1;have h4:w.heap[b]? =H o1:=h4;rw[ho'] at h4;injection h4 with h4
   subst h4;rw[hc h1 p b o' hb1] at hcl;cases hcl
theorem qT{P:Program}{fn:Nat}{args:Array N}{v:N}{A B:ab}{x:Hp}{w:I}(hc:AllCells A)(h:V w (A*fb x))
  (hcall:∀R,V w (A*R)→ap P fn args w (cF v (B*R) w)) (Bd:Nat):
  ap P fn args w fun e w'=>e= .returned v∧V w' (B*fb x)∧Ext w w'∧KeepsFrom Bd w w'∧KpT (fun b=>(x b).isSome =Z) w w':=by
 obtain⟨y,hs,hy,hall⟩:=uw h hc;refine(hcall _ hy).mono fun e w' ⟨he,hB,hx⟩=>⟨he,qS hB hs,hx,⟨hx.size,fun k o _ hk ho=>kE hB k o (hall k o hk ho)⟩,⟨fun b hb=> ?_⟩⟩;obtain⟨o,ho⟩:=Option.isSome_iff_exists.1 hb;have h1:w'.heap[b]? =H o:=kE hB b o (hs b o ho);have h2:w.heap[b]? =H o:=kE h b o ho;rw[h1,h2]
open Go.RowKit Go.Shelf Hpm
attribute [local go_sem] Oper.semAt_some
theorem ma{P:Program}{f:FuncId}{fn:Func}{c:Code}{args:Array N}{w:I}{R:Ending→I→Prop}(hf:P.funcs[f]? =H fn)(hb:fn.body=H c)
  (h:c.wp P (bodyPostM Fence.wide 9 P fn R) {tmps:=args++Array.replicate (fn.ntmps - args.size) undef,defers:=[]} w):ap P f args w R:=
 (callsIn_wide (n:=9)).1 (callsIn_of_wp_marks (F:=Fence.wide) (n:=9) hf hb trivial (wpIn_wide.2 h) rfl)
theorem sJ{P:Program}{fn:Func}{R:Ending→I→Prop}{a:Act}{w:I}{v:N}(hr:(results fn a.tmps).run P w= .ok v w)(hd:a.defers=[])(hR:R (.returned v) w):bodyPostM Fence.wide 9 P fn R .ret a w:=by
 show LeavesInM Fence.wide 9 P fn a.tmps R a.defers .returning w;rw[hd];unfold LeavesInM LeavesIn;exact⟨v,hr,hR⟩
def zP(Q:Exit→Act→I→Prop):Exit→Act→I→Prop
 | .panic _,_,_=>False
 |e,a,w=>Q e a w
theorem wJ{P:Program}{c:Code}{Q:Exit→Act→I→Prop}{a:Act}{w:I}(h:c.wp P (zP Q) a w):c.wp P Q a w:=
 Code.wp_mono (fun e _ _ h=>by cases e<;>first|exact h|exact h.elim) h
theorem ux{b:Nat}{cs:Array N}{t:TypeId}{R:ab}{x:Hp}(h:(aa b cs t*R) x):(x b).isSome =Z:=by
 obtain⟨h1,h2,d,rfl,p,r⟩:=h;have p:h1=single b (.cells cs t (0,0)):=p;subst p;simp[union,single]
theorem uy{g:Nat}{e size n m c:Nat}{xs:List N}{R:ab}{x:Hp}(h:(bt e size (.slice (H (M g 0 G)) m c) n xs*R) x):(x g).isSome =Z:=by
 obtain⟨h1,h2,d,rfl,⟨_,⟨hv,_⟩|⟨g',cap,cur,hv,_,_,_,_,hb⟩⟩,r⟩:=h
 ·injection hv with e;cases e
 ·injection hv with e
  injection e with e
  injection e with e
  subst e;have hb:h1=single _ _:=hb;subst hb;simp[union,single]
def zQ(b f n:Nat)(s:Ms)(R:ab)(w:I)(e:Ending)(w':I):Prop:=
 (n≤s.frees.length∧∃A c,cF (vB Z) (aa b #[.pointer (H (M f 0 G)),.slice A n c] 293*(bt 3 1 (.slice A n c) n ((ep s n).map (vI vK))*(ae f (aM s n)*R))) w e w')∨
 (s.frees.length<n∧∃s',s'.Ok∧Agree s' s∧cF (vB au) (ae f s'*R) w e w')
set_option maxHeartbeats 4000000 in
theorem zR(b f:Nat)(s:Ms)(hs:s.Ok)(n:Nat)(hn:n≤3)(R:ab)(w:I)(h:V w (aa b #[.pointer (H (M f 0 G)),.slice G 0 0] 293*(ae f s*R))):
  ap prog 207 #[.pointer (H (M b 0 G)),vI vK n] w (zQ b f n s R w):=by
 have h1:V _ (aa w.heap.size #[.pointer (H (M b 0 G))] 291*(aa b #[.pointer (H (M f 0 G)),.slice G 0 0] 293*(bt 3 1 (.slice G 0 0) 0 ((ep s 0).map (vI vK))*(ae f (aM s 0)*R)))):=(Has.rowNil (e:=3) (size:=1) (h.new #[.pointer (H (M b 0 G))] 291)).p2.eq (congrArg _ (av _ _ _));have x1:=(Ext.refl w).alloc (.cells #[.pointer (H (M b 0 G))] 291);clear h;refine ma func207 rfl ?_;simp only[ntmps207,List.size_toArray,List.length_cons,List.length_nil,Nat.reduceAdd,Nat.reduceSub,Array.replicate_succ,Array.replicate_zero,List.push_toArray,List.append_toArray,List.nil_append,List.cons_append];go_upto_region 1 with fail;generalize w.alloc _=w1 at*
 generalize w.heap.size=X at*
 go_wp2_with fail
 go_loopw [9] (fun t9 wr=>∃(i:Nat) (A:Option al) (c:Nat),i≤n∧i≤s.frees.length∧t9=vI vK i∧V wr (aa X #[.pointer (H (M b 0 G))] 291*(aa b #[.pointer (H (M f 0 G)),.slice A i c] 293*(bt 3 1 (.slice A i c) i ((ep s i).map (vI vK))*(ae f (aM s i)*R))))∧Ext w wr) (fun t9 _=>n - (intOf t9).toNat)
 case atStart=>exact⟨0,G,0,by omega,by omega,rfl,h1,x1⟩
 case round=>
  clear h1 x1;obtain⟨i,A,c,hi,hif,rfl,hr,hx⟩:=hrel;by_cases hlt:i<n
  ·have HT:=ad (fun R w h=>ye f (aM s i) R w h (fT hs i))
   have htop:=ti hif;have c0:=hr.cell 0;have cl:=hr.lt;obtain⟨b0,b1⟩:=hr.right.cells2;have bl:=hr.right.lt;have h2:V wr (ae f (aM s i)*(aa X #[.pointer (H (M b 0 G))] 291*(aa b #[.pointer (H (M f 0 G)),.slice A i c] 293*(bt 3 1 (.slice A i c) i ((ep s i).map (vI vK))*R)))):=hr.eq (by ac_rfl);have hts:ep s (i+1)=ep s i++[(aM s i).topV]:=rfl;have hns:aM s (i+1)=(aM s i).takeS :=rfl;by_cases hneg:(aM s i).topV <0
   ·have hie:=htop.1 hneg
    have hno:(aM s i).top =G:=by
     cases ht:(aM s i).top with
     |none=>rfl
     |some k=>unfold Ms.topV at hneg;rw[ht] at hneg;exact absurd hneg (by simp)
    have hstk:(aM s i).takeS =aM s i:=by unfold Ms.takeS;rw[hno]
    rw[hstk] at HT;have HAG:=ad (mD hs i hif);have HOK:=ad (fun l=>pU (fT hs i) l);have hml:=jm s i;have hlt2:s.frees.length<n:=by omega
    have HLT:=ad hlt2;clear hr hts hns htop hno hstk hie hlt2;generalize (aM s i).topV =k at*
    generalize aM s i=s1 at*
    generalize ep s i=m at*
    subst hml;go_wp2_with fail
    refine(HT.out _ _ h2).mono ?_;rintro e w3 ⟨rfl,h3,x3⟩;have x4:=hx.trans x3;clear c0 cl b0 b1 bl h2 hx x3 HT;have c0:=h3.right.cell 0;have cl:=h3.right.lt;obtain⟨b0,b1⟩:=h3.right.right.cells2;have bl:=h3.right.right.lt;go_wp2_with fail
    refine(oD A m.length c w3).mono ?_;rintro e w4 ⟨rfl,rfl⟩;have h4:V (w3.alloc (.cells #[.slice A m.length c] 55)) (ae f s1*(aa w3.heap.size #[.slice A m.length c] 55*(aa X #[.pointer (H (M b 0 G))] 291*(aa b #[.pointer (H (M f 0 G)),.slice A m.length c] 293*(bt 3 1 (.slice A m.length c) m.length (m.map (vI vK))*R))))):=(h3.new #[.slice A m.length c] 55).eq (by ac_rfl);have x5:=x4.alloc (.cells #[.slice A m.length c] 55);clear h3 x4 c0 cl b0 b1 bl;go_wp2_with fail
    generalize w3.alloc _=w5 at*
    generalize w3.heap.size=Bs at*
    obtain⟨x,hx,h5,hsub⟩:=sI h4;have hbk:=ad (fun(w':I) (s':Ms) (h:V w' (ae f s'*fb x))=>qR h hx);have hT1:(x Bs).isSome =Z:=ux hx;have hxlt:∀b,(x b).isSome =Z→b<w5.heap.size:=fun b hb=>by
     obtain⟨o,ho⟩:=Option.isSome_iff_exists.1 hb;exact(Array.getElem?_eq_some_iff.1 (hsub b o ho)).1
    have hcell:∀j,(hj:j<m.length)→∃b,A=H (M b 0 G)∧b<w5.heap.size∧(x b).isSome =Z∧w5.cell? (M b j G)=H (vI vK m[j]):=fun j hj=>by
     have h6:V w5 (bt 3 1 (.slice A m.length c) m.length (m.map (vI vK))*(ae f s1*(aa Bs #[.slice A m.length c] 55*(aa X #[.pointer (H (M b 0 G))] 291*(aa b #[.pointer (H (M f 0 G)),.slice A m.length c] 293*R))))):=h4.eq (by ac_rfl);obtain⟨b',e,hb,hc,_⟩:=Has.rowGet (e:=3) (size:=1) h6 (i:=j) (u:=vI vK m[j]) (by simp[hj]);subst e;refine⟨b',rfl,hb,?_,hc⟩;have h7:(bt 3 1 (.slice (H (M b' 0 G)) m.length c) m.length (m.map (vI vK))*(aa Bs #[.slice (H (M b' 0 G)) m.length c] 55*(aa X #[.pointer (H (M b 0 G))] 291*(aa b #[.pointer (H (M f 0 G)),.slice (H (M b' 0 G)) m.length c] 293*R)))) x:=by
      have e:(aa Bs #[.slice (H (M b' 0 G)) m.length c] 55*(aa X #[.pointer (H (M b 0 G))] 291*(aa b #[.pointer (H (M f 0 G)),.slice (H (M b' 0 G)) m.length c] 293*(bt 3 1 (.slice (H (M b' 0 G)) m.length c) m.length (m.map (vI vK))*R))))=(bt 3 1 (.slice (H (M b' 0 G)) m.length c) m.length (m.map (vI vK))*(aa Bs #[.slice (H (M b' 0 G)) m.length c] 55*(aa X #[.pointer (H (M b 0 G))] 291*(aa b #[.pointer (H (M f 0 G)),.slice (H (M b' 0 G)) m.length c] 293*R)))):=by ac_rfl
      exact e▸hx
     exact uy h7
    have hG:=ad (fun(s':Ms) (hs':s'.Ok) (k:Int) (w':I) (h:V w' (ae f s'*fb x))=>qT (P:=prog) (fn:=189) (args:= #[.pointer (H (M f 0 G)),vI vK k]) (v:=vB (s'.has k)) (B:=ae f (s'.giveS k)) (jh f s') h (fun R h=>yg f s' k R w' h hs') w5.heap.size);clear h4;refine(wpIn_wide (n:=6)).1 ?_;apply wpIn_rangeFunc_ownG (F:=Fence.wide) (n:=6) rfl (by omega) (gf:=241) (lb:= #[.pointer (H (M Bs 0 G))]) rfl trivial (enters_of func241 (by kernel_rfl) rfl) (qQ 5 (by omega) Bs c A m (by omega) (fun b=>(x b).isSome =Z) hT1 w5 (hxlt _ hT1) ((hbk.out _ _ h5).right.cell 0) hcell) (fun h k=>h.trans k) (fun W l o o' hl hW ho hw=>⟨fun b hb=>World.putObj_heap_other (by have:=hxlt b hb;omega)⟩) (Below.refl _ _) (fun _=>rfl)
     (fun pre W=>V W (ae f (bK s1 (pre.map Prod.snd))*fb x)∧Ext w W) (fun _ _ _=>False)
     (fun pre W W' bt hs hg hr=>⟨kX hs.1 (jh _ _) hg (fun r e=>⟨by
      cases hxr:x r with
      |none=>rfl
      |some o=>have:=hxlt r (by rw[hxr];rfl);have:=(hr r e).1;omega,(hr r e).2⟩),hs.2.grown hg⟩)
     (fun _ _ _ _ _ hs _ _=>hs)
     ⟨h5,x5⟩
    case hassign=>
     intro l x W K hK;gi_wp2
     exact hK
    case hbody=>
     rintro l pre y W ⟨hW,hE⟩ _;have h6:=hbk.out W _ hW;have c0:=h6.right.right.cell 0;have cl:=h6.right.right.lt;obtain⟨b0,b1⟩:=h6.r3.cells2;have bl:=h6.r3.lt;have HGk:=ad (hG.out _ (HOK.out _) y.2 W hW);gi_wp2_with (refine⟨trivial,?_⟩;gi_at_call 189;refine(CallsIn.inRound l (callsIn_wide.2 HGk.out)).mono ?_;rintro e W2 ⟨rfl,hW2,hE2,hKF,hKT⟩)
     exact⟨hKF,hKT,by rw[List.map_append,List.map_singleton,mC];exact hW2,hE.trans hE2⟩
    case hdone=>
     rintro D ys W hD rfl ⟨hW,hE⟩ hK;rw[sH] at hW;go_wp2_with fail
     refine⟨by simp,.inl ⟨_,_,rfl,run_takeDeferred hK,?_⟩⟩;have hxD:x D=G:=by
      cases hxr:x D with
      |none=>rfl
      |some o=>have:=hxlt D (by rw[hxr];rfl);omega
     have hW2:=kX hW (jh _ _) (grownBy_putObj' W D (.deferred G)) (fun r e=>by cases e;exact⟨hxD,_,hK,rfl⟩);have hE2:=hE.grown (grownBy_putObj' W D (.deferred G));refine⟨_,results_tmp rfl _ _ _,.inr ⟨HLT.out,_,HOK.out _,HAG.out,rfl,?_,hE2⟩⟩;have h6:=hbk.out _ _ hW2;exact(h6.eq (show _=(aa Bs #[.slice A m.length c] 55*(aa X #[.pointer (H (M b 0 G))] 291*(aa b #[.pointer (H (M f 0 G)),.slice A m.length c] 293*bt 3 1 (.slice A m.length c) m.length (m.map (vI vK)))))*(ae f (bK s1 m.reverse)*R) by ac_rfl)).right
    case hstop=>
     intro D c pre W _ _ h;exact h.elim
   ·have hif':i<s.frees.length:=by
     have:i≠s.frees.length:=fun e=>hneg (htop.2 e);omega
    have HTS:=ad hts;have HNS:=ad hns;clear hr hts hns htop;generalize (aM s i).topV =k at*
    generalize hS:(aM s i).takeS =s2 at*
    generalize aM s i=s1 at*
    clear hS;go_wp2_with fail
    refine(HT.out _ _ h2).mono ?_;rintro e w3 ⟨rfl,h3,x3⟩;have x4:=hx.trans x3;have h4:V w3 (bt 3 1 (.slice A i c) i ((ep s i).map (vI vK))*(aa X #[.pointer (H (M b 0 G))] 291*(aa b #[.pointer (H (M f 0 G)),.slice A i c] 293*(ae f s2*R)))):=h3.eq (by ac_rfl);clear c0 cl b0 b1 bl h2 h3 hx x3 HT;have c0:=h4.right.cell 0;have cl:=h4.right.lt;obtain⟨b0,b1⟩:=h4.right.right.cells2;have bl:=h4.right.right.lt;have bf:=h4.right.right.free 1;have h4d:V w3.drew (bt 3 1 (.slice A i c) i ((ep s i).map (vI vK))*(aa X #[.pointer (H (M b 0 G))] 291*(aa b #[.pointer (H (M f 0 G)),.slice A i c] 293*(ae f s2*R)))):=h4.drew;go_upto_region 9 with fail;have hS0:(fun(L:Array Bool) (w':I)=>w'.cell? (M X 0 G)=H (.pointer (H (M b 0 G)))∧Till 7 4 (fun w'=>w'.cell? (M b 1 G)=H (.slice A i c)) L w') (Array.replicate 11 au) w3.drew:=⟨h4d.right.cell 0,Till.start (h4d.right.right.cell 1)⟩;refine wJ ?_;refine kr (S:=fun L w'=>w'.cell? (M X 0 G)=H (.pointer (H (M b 0 G)))∧Till 7 4 (fun w'=>w'.cell? (M b 1 G)=H (.slice A i c)) L w') (by kernel_rfl) hS0 (fun hHeld=> ?_);clear c0 b0 b1 bf hS0;refine aZ (i:=0) (v:= ?_) rfl (by kernel_rfl) (by kernel_rfl) (by kernel_rfl) (fun _ _ _ h=>h) (af U (Y (by decide) ⟨_,⟨4,.data⟩,rfl,by simp,rfl,rfl⟩)) (Or.inl ⟨by kernel_rfl,?_⟩) hHeld (fun hHeld=> ?_);rotate_left;focus (intro wS hSw;obtain⟨Lx,hLx,hs1,hs2⟩:=hSw;have cS:=hs1;go_simp;first|done|with_reducible rfl)
    refine aZ (i:=1) (v:= ?_) rfl (by kernel_rfl) (by kernel_rfl) (by kernel_rfl) (fun _ _ _ h=>h) (af U (Y (by decide) ⟨_,⟨4,.data⟩,rfl,by simp,rfl,rfl⟩)) (Or.inl ⟨by kernel_rfl,?_⟩) hHeld (fun hHeld=> ?_);rotate_left;focus (intro wS hSw;obtain⟨Lx,hLx,hs1,hs2⟩:=hSw;have cS:=hs1;go_simp;first|done|with_reducible rfl)
    refine aZ (i:=2) (v:= ?_) rfl (by kernel_rfl) (by kernel_rfl) (by kernel_rfl) (fun _ _ _ h=>h) (af U (Y (by decide) ⟨_,⟨4,.data⟩,rfl,by simp,rfl,rfl⟩)) (Or.inl ⟨by kernel_rfl,?_⟩) hHeld (fun hHeld=> ?_);rotate_left;focus (intro wS hSw;obtain⟨Lx,hLx,hs1,hs2⟩:=hSw;skip;go_simp;first|done|with_reducible rfl)
    refine aZ (i:=3) (v:= ?_) rfl (by kernel_rfl) (by kernel_rfl) (by kernel_rfl) (fun _ _ _ h=>h) (af U (Y (by decide) ⟨_,⟨4,.data⟩,rfl,by simp,rfl,rfl⟩)) (Or.inl ⟨by kernel_rfl,?_⟩) hHeld (fun hHeld=> ?_);rotate_left;focus (intro wS hSw;obtain⟨Lx,hLx,hs1,hs2⟩:=hSw;skip;go_simp;first|done|with_reducible rfl)
    refine aZ (i:=4) (v:= ?_) rfl (by kernel_rfl) (by kernel_rfl) (by kernel_rfl) (fun _ _ _ h=>h) (af U (Y (by decide) ⟨_,⟨4,.data⟩,rfl,by simp,rfl,rfl⟩)) (Or.inl ⟨by kernel_rfl,?_⟩) hHeld (fun hHeld=> ?_);rotate_left;focus (intro wS hSw;obtain⟨Lx,hLx,hs1,hs2⟩:=hSw;have cS:=hs2.still hLx;go_simp;first|done|with_reducible rfl)
    refine aZ (i:=5) (v:= ?_) rfl (by kernel_rfl) (by kernel_rfl) (by kernel_rfl) (fun _ _ _ h=>h) (af U (Y (by decide) ⟨_,⟨4,.data⟩,rfl,by simp,rfl,rfl⟩)) (Or.inl ⟨by kernel_rfl,?_⟩) hHeld (fun hHeld=> ?_);rotate_left;focus (intro wS hSw;obtain⟨Lx,hLx,hs1,hs2⟩:=hSw;skip;go_simp;first|done|with_reducible rfl)
    refine aY (rs:=[6]) (by kernel_rfl) (by simp) ?_;refine OneOf.cons rfl (fun K hK=> ?_) OneOf.nil;have k1:=h4d.build #[vI vK k] 3;try simp only[World.size_alloc] at k1
    go_simp;refine hK.out _ _ ⟨k1.right.cell 0,⟨fun _=>by kernel_rfl,fun _=>k1.r3.cell 1⟩⟩ (fun hHeld=> ?_);clear hK K;refine aY (rs:=[7]) (by kernel_rfl) (by simp) ?_;refine OneOf.cons rfl (fun K hK=> ?_) OneOf.nil;refine bU rfl (.tmp 35) (.tmp 37) 55 rfl underlying55 gK (.slice A i c) i ((ep s i).map (vI vK)) (by simp[Act.eval]) k1 (M w3.drew.heap.size 0 G) 1 1 [vI vK k] (by simp[Act.eval]) rfl (eR (k1.right.right.cell 0)) (gY k) (by unfold maxLen;omega) (by omega) ?_;intro A' c' w5 k2 y2;try go_simp
    refine hK.out _ _ ⟨k2.right.cell 0,⟨fun _=>by kernel_rfl,fun h=>aU (by kernel_rfl) h⟩⟩ (fun hHeld=> ?_);clear hK K;refine aZ (i:=8) (v:= ?_) rfl (by kernel_rfl) (by kernel_rfl) (by kernel_rfl) (fun _ _ _ h=>h) (af U (Y (by decide) ⟨_,⟨4,.data⟩,rfl,by simp,rfl,rfl⟩)) (Or.inl ⟨by kernel_rfl,?_⟩) hHeld (fun hHeld=> ?_);rotate_left;focus (intro wS hSw;obtain⟨Lx,hLx,hs1,hs2⟩:=hSw;skip;go_simp;first|done|with_reducible rfl)
    refine aZ (i:=9) (v:= ?_) rfl (by kernel_rfl) (by kernel_rfl) (by kernel_rfl) (fun _ _ _ h=>h) (af U (Y (by decide) ⟨_,⟨4,.data⟩,rfl,by simp,rfl,rfl⟩)) (Or.inl ⟨by kernel_rfl,?_⟩) hHeld (fun hHeld=> ?_);rotate_left;focus (intro wS hSw;obtain⟨Lx,hLx,hs1,hs2⟩:=hSw;skip;go_simp;first|done|with_reducible rfl)
    have h6:V w5 (aa b #[.pointer (H (M f 0 G)),.slice A i c] 293*(aa X #[.pointer (H (M b 0 G))] 291*(bt 3 1 (.slice A' (i+1) c') (i+1) ((ep s i).map (vI vK)++[vI vK k])*(ae f s2*R)))):=by
     have:=k2.eq (show _=aa w3.drew.heap.size #[vI vK k] 3*(aa b #[.pointer (H (M f 0 G)),.slice A i c] 293*(aa X #[.pointer (H (M b 0 G))] 291*(bt 3 1 (.slice A' (i+1) c') (i+1) ((ep s i).map (vI vK)++[vI vK k])*(ae f s2*R)))) by ac_rfl);exact this.right
    have g0:=h6.lt;have g1:=h6.free 1;have g2:=h6.cell 1;have h7:=(h6.set 1 (.slice A' (i+1) c')).p2;refine aY (rs:=[10]) (by kernel_rfl) (by simp) ?_;refine OneOf.cons rfl (fun K hK=> ?_) OneOf.nil;go_simp;refine hK.out _ _ ⟨h7.cell 0,⟨fun _=>by kernel_rfl,fun h=>aU (by kernel_rfl) h⟩⟩ (fun hHeld=> ?_);clear hK K;refine gp (by kernel_rfl) ?_;clear hHeld;unfold zP;dsimp only;go_wp2_with fail
    go_roundw
    case rel=>exact⟨i+1,A',c',by omega,by omega,by go_num,by rw[HTS.out,HNS.out,List.map_append];exact h7,((x4.drew.alloc _).trans y2).set _ _⟩
    case measure=>simp[intOf];omega
  ·obtain rfl:i=n:=by omega
   go_wp2_with fail
   refine sJ (v:=vB Z) (by simp[results,results207,go_sem]) rfl ?_;exact .inl ⟨hif,A,c,rfl,hr.right,hx⟩
section
variable {w:I} {R:ab} {e size:Nat} {v:N} {A:Option al} {n c:Nat} {xs:List N}
end
section
variable {P:Program} {w:I} {R:ab}
end
theorem mb{P:Program}{w:I}{R:ab}{t ty e:TypeId}{z:N}{size bytes:Nat}(hT:P.underlying t=H (.slice e))(hE:kL P e z size bytes)
  (v:N) (n:Nat) (xs:List N) (u:N) (m:Nat) (ys:List N) (h:V w (bt e size v n xs*(bt e size u m ys*R))) (h1:∀y∈ys,y.oneCell'=Z)
  (h63:n+m≤maxLen) (hbytes:(n+m)*bytes≤140737488355328):
  ∃A c w',(Builtin.append_ #[t,t] ty #[v,u]).run P w= .ok (.slice A (n+m) c) w'∧V w' (bt e size (.slice A (n+m) c) (n+m) (xs++ys)*(bt e size u m ys*R))∧Ext w w':=by
 rcases h.p2.rowCases with ⟨rfl,rfl,rfl,_⟩|⟨g,cap,cur,rfl,_⟩
 ·obtain⟨i,hi,_,hsz,_⟩:=info_parts hE.info
  obtain⟨A,c,rfl⟩:=h.rowForm;exact⟨A,c,w,run_append_owned_none (P:=P) (w:=w) 0 t ty e i size hT hi (.slice A n c) n xs h.ownsRow,by simpa using h,Ext.refl w⟩
 ·have hget:=fun j y (hy:ys[j]? =H y)=>h.p2.rowGet hy
  have hl:=h.p2.rowLens.1;obtain⟨v',w',hr,h2,x2⟩:=gG (ty:=ty) hT hE v n xs h (M g 0 G) m cap ys hl (fun j y hy=>by
   obtain⟨g',hg',_,hc,_⟩:=hget j y hy;injection hg' with hg'
   injection hg' with hg'
   subst hg';rw[Addr.add_lit,Nat.zero_add];exact hc) h1 h63 hbytes
  have hf:∃A c,v'= .slice A (n+m) c:=by
   rcases h2.rowCases with ⟨hv,hn,_,_⟩|⟨g,cap,cur,hv,_⟩
   ·exact⟨G,0,by rw[hv,hn]⟩
   ·exact⟨_,_,hv⟩
  obtain⟨A,c,rfl⟩:=hf;exact⟨A,c,w',hr,h2,x2⟩
theorem lh{P:Program}{ops:Array Oper}{o:Oper}{a:Act}{w:I}{R:ab}{K:Act→I→Prop}{Q:Exit→Act→I→Prop}{E:Prop}
  (hg:o.guard=G) (s x:Operand) (t:TypeId) (hop:o.op=Op.call {callee:=Callee.builtin Builtin.append,args:= #[s,x],argTypes:= #[t,t]})
  {e:TypeId} {z:N} {size bytes:Nat} (hT:P.underlying t=H (.slice e)) (hE:kL P e z size bytes)
  (v:N) (n:Nat) (xs:List N) (hs:a.eval s=v) (u:N) (m:Nat) (ys:List N) (hx:a.eval x=u) (h:V w (bt e size v n xs*(bt e size u m ys*R))) (h1:∀y∈ys,y.oneCell'=Z)
  (h63:n+m≤maxLen) (hbytes:(n+m)*bytes≤140737488355328)
  (hK:∀A c w',V w' (bt e size (.slice A (n+m) c) (n+m) (xs++ys)*(bt e size u m ys*R))→Ext w w'→K (a.put o.dst (.slice A (n+m) c)) w'):
  if Region.wanted o (yielded ops a.tmps)=Z then Oper.wp P o a w K Q else E:=by
 have hw:Region.wanted o (yielded ops a.tmps)=Z:=by simp[Region.wanted,hg]
 rw[if_pos hw];obtain⟨A,c,w',hrun,h2,h3⟩:=mb (ty:=o.type) hT hE v n xs u m ys h h1 h63 hbytes;unfold Oper.wp;simp[execOp,hop,resolve,invoke,builtin,hs,hx,hrun,Result.andThen];exact hK A c w' h2 h3
theorem pD(l:List Int):∀u∈l.map (vI vK),u.oneCell'=Z:=by
 intro u hu;obtain⟨x,_,rfl⟩:=List.mem_map.1 hu;rfl
def wK(l:List Int)(w:I)(e:Ending)(w':I):Prop:=∃A n c,e= .returned (.slice A n c)∧V w' (aq (.slice A n c) l*cr w w.heap.size)∧Ext w w'
theorem nB(l:List Int)(A:Option al)(n c:Nat)(R:ab)(w:I)(hs:l.length≤1000000)(h:V w (aq (.slice A n c) l*R)):
  ap prog 208 #[.slice A n c] w (wK l w):=by
 have q22:∀(w:I) (a:Option al) (n c n' c':Nat),(binOp .eql 55 (.slice a n c) (.slice G n' c')).run prog w= .ok (.bool a.isNone) w:=fun w a n c n' c'=>Lib.run_eql_slice_nil w _ _ a n c n' c' underlying55;have hl0:=fh h;subst hl0;cases A with
 |none=>
  have h0:l=[]∧c=0:=by
   rcases Has.rowCases (e:=3) (size:=1) h with ⟨hv,h0,_⟩|⟨g,cap,cur,hv,_⟩
   ·injection hv with a b d
    exact⟨List.eq_nil_of_length_eq_zero h0,d⟩
   ·injection hv with a
    cases a
  obtain⟨rfl,rfl⟩:=h0;go_enter func208,ntmps208;go_wp2_with fail
  go_ret;exact⟨G,0,0,rfl,Has.rowNil (bc w),Ext.refl _⟩
 |some a=>
  have h0:∃g,a=(M g 0 G):=by
   rcases Has.rowCases (e:=3) (size:=1) h with ⟨hv,h0,_⟩|⟨g,cap,cur,hv,_⟩
   ·injection hv with a b d
    cases a
   ·injection hv with a
    injection a with a
    exact⟨g,a⟩
  obtain⟨g,rfl⟩:=h0;have h1:=(bc w).new #[] 3;have hrow:V (w.alloc (.cells #[] 3)) (bt 3 1 (.slice (H (M w.heap.size 0 G)) 0 0) 0 []*cr w w.heap.size):=h1.rowOf rfl (Nat.le_refl _) (by unfold maxLen;omega) rfl rfl;have hn:=fun k (hk:k<l.length)=>fg (h.alloc (.cells #[] 3)) hk;have hne:Hid (∀j u,(l.map (vI vK))[j]? =H u→(w.alloc (.cells #[] 3)).cell? (((M g 0 G):al).add j)=H u):=fun j u hu=>by
   rw[Addr.add_lit,Nat.zero_add];obtain⟨hj,e⟩:=List.getElem?_eq_some_iff.1 hu;have hj':j<l.length:=by simpa using hj
   obtain⟨b,e1,_,hc⟩:=hn j hj';injection e1 with e1
   injection e1 with e1
   subst e1;rw[hc,←e];simp
  have x1:=(Ext.refl w).alloc (.cells #[] 3);have hml:Hid ((l.map (vI vK)).length =l.length*1):=ad (by simp);clear hn h1 h;go_enter func208,ntmps208;go_wp2_with(at_builtin;refine a8 rfl _ _ 55 rfl underlying55 gK _ _ _ rfl hrow (M g 0 G) l.length c (l.map (vI vK)) rfl hml.out hne.out (pD l) ?c2 ?c3 ?_)
  case c2=>unfold maxLen;omega
  case c3=>omega
  intro v' w2 h' x';obtain⟨A',c',rfl⟩:=h'.rowForm;have h2:V w2 (aq (.slice A' l.length c') l*cr w w.heap.size):=h';go_wp2_with fail
  go_ret;exact⟨A',_,c',rfl,h2,x1.trans x'⟩
end Go.Proofs.YtmfheghbgihdmaaGreatDoor
