/- What steps of a space come to, and what its book is behind them; plain law, with no program in sight. -/
import Derived.Test.YtmfheghbgihdmaaGreatPages2
import Derived.Test.YtmfheghbgihdmaaGreatCoreP
import Derived.Test.YtmfheghbgihdmaaGreatBook
import Derived.Deep.RegionHeld3
import Derived.Deep.DeepCutAuto
import Derived.Deep.CutBlock
import Derived.BigQuiet
namespace Go.Proofs.YtmfheghbgihdmaaGreat
open Go.Value renaming int→o,bool→U
open Go.IntKind renaming i64→C,wrap_i64→bd
open Option renaming some→D,none→E
open Bool renaming false→F,true→N
open Go.Lib renaming hid→I
open Go.Addr renaming mk→J
open List renaming getElem?_eq_getElem→K,length_append→a6
open Go.Proofs.YtmfheghbgihdmaaGreat renaming Has→O,Mp→Y,Stp→Z,Safe→a3,Pure→b0
open Go renaming World→S,Calls→af,bodyPost_ret→ag,Addr→bb,Value→b5
open Go.Proofs.YtmfheghbgihdmaaGreat.Sc renaming change→T,new→a5,act→a7,evict→bf,put_len→bi,ack→b1,walk→b6
open Go.Proofs.YtmfheghbgihdmaaGreat.Bk renaming ans→V,Ok→a4,dropL→bk,protL→bl,find_iff→b4,add→b7
open Go.World renaming size_alloc→ad
open Tryz
open Go.RowKit
def cQ(L:List Y)(x:Z)(c:Int):List Y:=
 if c=0∧1≤x.kind∧x.kind≤3 then(if x.kind=1 then b7 L x.m else if x.kind=2 then bk L x.m.page else bl L x.m.page x.m.rights) else L
theorem rb{L:List Y}{x:Z}{c:Int}(h:¬(1≤x.kind∧x.kind≤3)):cQ L x c=L:=by unfold cQ;rw[if_neg (fun hh=>h hh.2)]
theorem jN{L:List Y}{x:Z}{c:Int}(h:c≠0):cQ L x c=L:=by unfold cQ;rw[if_neg (fun hh=>h hh.1)]
theorem oG{L:List Y}(h:a4 L)(x:Z)(c:Int):a4 (cQ L x c):=by
 unfold cQ;split
 ·split
  ·exact h.add _
  ·split
   ·exact h.dropL _
   ·exact h.protL _ _
 ·exact h
theorem Lk.all{s:Ms}{L:List Y}{g:List Int}{X:Int→Prop}(hw:Wf s 0 g X)(h:Lk s 0 L):dr s 0=L:=((ky hw).2.1).unique h
theorem Lk.same_maps{s s':Ms}{L:List Y}(h:Lk s 0 L)(hm:∀q,dh q→bv s' 0 q=bv s 0 q):Lk s' 0 L:=⟨h.ok,fun q hq=>(h.same q hq).trans (hm q hq).symm⟩
namespace Safe
variable {σ:Sc} {P:List Y}
theorem book_walk(h:a3 σ P){k:Nat}(hk:k<σ.cs.length):dr (σ.walk k).1.s 0=dr σ.s 0:=by
 cases hon:(σ.core k).k.on with
 |false=>
  unfold b6;rw[step_off hon]
 |true=>
  have hs:=h.walk_stepIn hk hon;exact Lk.all hs.wf (h.lk.same_maps hs.mark.map)
theorem book_ack(h:a3 σ P)(k:Nat):dr (σ.ack k).1.s 0=dr σ.s 0:=by
 unfold b1;split
 ·rfl
 split
 ·show dr (bx σ.s σ.gone) 0=_
  exact Lk.all (h.wf.give h.ok.s.inv) (h.lk.same_maps fun q hq=>eG (ou h.wf h.ok.s.inv hq))
 ·rfl
theorem book_change(h:a3 σ P)(x:Z)(hx:1≤x.kind∧x.kind≤3):dr (σ.change x).1.s 0=cQ (dr σ.s 0) x (σ.change x).2.code:=by
 cases hb:σ.busy with
 |true=>
  have e:σ.change x=(σ,.no 8):=by unfold T;rw[if_pos hb]
  rw[e,jN (by show(8:Int)≠0;decide)]
 |false=>
  obtain⟨hg,_⟩:=h.quiet hb;have hwf:=h.wf;rw[hg] at hwf;by_cases h1:x.kind=1
  ·have e:σ.change x=({σ with s:=dJ σ.s 0 x.m},⟨cT σ.s 0 x.m,F,An.zero,decide (cT σ.s 0 x.m=0)⟩):=by unfold T;rw[if_neg (by rw[hb];simp),if_pos h1]
   rw[e];show dr (dJ σ.s 0 x.m) 0=cQ _ x (cT σ.s 0 x.m);by_cases hc:cT σ.s 0 x.m=0
   ·have:cQ (dr σ.s 0) x (cT σ.s 0 x.m)=b7 (dr σ.s 0) x.m:=by unfold cQ;rw[if_pos ⟨hc,hx⟩,if_pos h1]
    rw[this];exact Lk.all (nN hwf h.ok.s.inv h.ok.s.small x.m).1 (vm hwf h.ok.s.inv h.ok.s.small h.lk hc).1
   ·rw[jN hc]
    have:dJ σ.s 0 x.m=σ.s:=by unfold dJ;rw[if_neg hc]
    rw[this]
  by_cases h2:x.kind=2
  ·by_cases hf:bw σ.s 0 x.m.page=0
   ·have e:σ.change x=(σ.post (de σ.s 0 x.m.page) (bK σ.s 0 x.m.page) (fi σ.s 0 x.m.page),.no 0):=by unfold T;rw[if_neg (by rw[hb];simp),if_neg h1,if_pos h2,if_pos hf]
    rw[e];show dr (de σ.s 0 x.m.page) 0=cQ _ x 0;have:cQ (dr σ.s 0) x 0=bk (dr σ.s 0) x.m.page:=by unfold cQ;rw[if_pos ⟨rfl,hx⟩,if_neg h1,if_pos h2]
    rw[this];exact Lk.all (ma hwf h.ok.s.inv hf).1 (vo hwf h.ok.s.inv h.lk hf)
   ·have e:σ.change x=(σ,.no (bw σ.s 0 x.m.page)):=by unfold T;rw[if_neg (by rw[hb];simp),if_neg h1,if_pos h2,if_neg hf]
    rw[e];exact(jN hf).symm
  ·have h3:x.kind=3:=by omega
   by_cases hf:iB σ.s 0 x.m.page x.m.rights=0
   ·have e:σ.change x=(σ.post (gG σ.s 0 x.m.page x.m.rights) (ku σ.s 0 x.m.page x.m.rights) [],.no 0):=by unfold T;rw[if_neg (by rw[hb];simp),if_neg h1,if_neg h2,if_pos hf]
    rw[e];show dr (gG σ.s 0 x.m.page x.m.rights) 0=cQ _ x 0;have:cQ (dr σ.s 0) x 0=bl (dr σ.s 0) x.m.page x.m.rights:=by unfold cQ;rw[if_pos ⟨rfl,hx⟩,if_neg h1,if_neg h2]
    rw[this];exact Lk.all (qs hwf h.ok.s.inv hf).1 (wH hwf h.ok.s.inv h.lk hf)
   ·have e:σ.change x=(σ,.no (iB σ.s 0 x.m.page x.m.rights)):=by unfold T;rw[if_neg (by rw[hb];simp),if_neg h1,if_neg h2,if_neg hf]
    rw[e];exact(jN hf).symm
theorem book_act(h:a3 σ P)(x:Z):dr (σ.act x).1.s 0=cQ (dr σ.s 0) x (σ.act x).2.code:=by
 unfold a7;split
 ·rename_i hx;exact h.book_change x hx
 rename_i hx;rw[rb hx];split;· rfl
 split;· rfl
 rename_i hc;have hk:x.core.toNat<σ.cs.length:=by omega
 split;· rfl
 split;· exact h.book_walk hk
 split;· exact h.book_ack _
 unfold bf;split<;>rfl
theorem n_act(h:a3 σ P)(x:Z):(σ.act x).1.s.n=σ.s.n∧(σ.act x).1.cs.length=σ.cs.length:=by
 have hch:(σ.change x).1.s.n=σ.s.n∧(σ.change x).1.cs.length=σ.cs.length:=by
  cases hb:σ.busy with
  |true=>have e:(σ.change x).1=σ:=by unfold T;rw[if_pos hb]
         rw[e];exact⟨rfl,rfl⟩
  |false=>
   obtain⟨hg,_⟩:=h.quiet hb;have hwf:=h.wf;rw[hg] at hwf;unfold T;rw[if_neg (by rw[hb];simp)];split
   ·exact⟨(nN hwf h.ok.s.inv h.ok.s.small x.m).2.2.1,rfl⟩
   split
   ·split
    ·rename_i hf;exact⟨(ma hwf h.ok.s.inv hf).2.2.1,rfl⟩
    ·exact⟨rfl,rfl⟩
   ·split
    ·rename_i hf;exact⟨(qs hwf h.ok.s.inv hf).2.2.1,rfl⟩
    ·exact⟨rfl,rfl⟩
 unfold a7;split;· exact hch
 split;· exact⟨rfl,rfl⟩
 split;· exact⟨rfl,rfl⟩
 rename_i hc;have hk:x.core.toNat<σ.cs.length:=by omega
 split;· exact⟨rfl,bi _ _ _⟩
 split
 ·refine⟨?_,bi _ _ _⟩
  cases hon:(σ.core x.core.toNat).k.on with
  |false=>unfold b6;rw[step_off hon]
  |true=>exact(h.walk_stepIn hk hon).mark.n
 split
 ·unfold b1
  split;· exact⟨rfl,rfl⟩
  split
  ·exact⟨(iG σ.gone σ.s h.ok.s.inv).2.1,List.length_set ..⟩
  ·exact⟨rfl,List.length_set ..⟩
 ·unfold bf
  split
  ·exact⟨rfl,rfl⟩
  ·exact⟨rfl,bi _ _ _⟩
theorem new{cores n:Nat}(h1:1≤cores)(h4:cores≤4)(hn:1≤n)(hn2:n≤128):a3 (a5 cores n) []∧(a5 cores n).s.n =n∧(a5 cores n).cs.length =cores:=by
 have hwf:=lL hn;have e:=lK hn;refine⟨⟨⟨⟨?_,?_⟩,fun c hc=> ?_,?_,?_,fun _ _=>rfl,Sc.mp_ok_zero⟩,hwf,fun _=>⟨rfl,fun _=>rfl⟩,fun hx=>(by cases hx),fun k c hc=> ?_,Bk.Ok.nil⟩,?_,?_⟩
 ·exact(Ms.Ok.new hn2).takeS.inv
 ·show((Ms.new n).takeS).n ≤128
  rw[e];exact hn2
 ·rw[List.eq_of_mem_replicate hc]
  exact⟨Tl.Ok.nil,Ck.Ok.zero⟩
 ·show(List.replicate cores Cr.zero).length ≤4
  rw[List.length_replicate];exact h4
 ·show 1≤(List.replicate cores Cr.zero).length
  rw[List.length_replicate];exact h1
 ·have hm:=List.mem_of_getElem? hc
  rw[List.eq_of_mem_replicate hm];exact⟨fun hx=>(by cases hx),fun x hx=>(by cases hx)⟩
 ·show((Ms.new n).takeS).n =n
  rw[e]
 ·show(List.replicate cores Cr.zero).length =cores
  rw[List.length_replicate]
theorem book_new{cores n:Nat}(hn:1≤n):dr (a5 cores n).s 0=[]:=Lk.all (lL hn) (st hn)
theorem way_zero(h:a3 σ P)(p:Int):(bp σ.s 0 p).code =0∨(bp σ.s 0 p).code =1:=by
 by_cases hp:dh p
 ·exact .inl (jD h.wf hp).1
 ·exact .inr (o8 hp)
theorem find_few(h:a3 σ P)(p:Int):bw σ.s 0 p=0∨bw σ.s 0 p=1∨bw σ.s 0 p=5:=by
 unfold bw;rcases h.way_zero p with e|e<;>rw[e]
 ·rw[if_neg (by decide)]
  split
  ·exact .inr (.inr rfl)
  ·exact .inl rfl
 ·rw[if_pos (by decide)]
  exact .inr (.inl rfl)
theorem change_few(h:a3 σ P)(x:Z):(σ.change x).2.code≠12∧(σ.change x).2.fin=F∧(σ.change x).2.an=An.zero:=by
 unfold T;split;· exact⟨by show(8:Int)≠12;decide,rfl,rfl⟩
 split
 ·refine⟨?_,rfl,rfl⟩
  show cT σ.s 0 x.m≠12;unfold cT;have hc:=qR x.m;split;· omega
  split
  ·rcases h.way_zero x.m.page with e|e<;>rw[e]<;>decide
  split;· decide
  split<;>decide
 split
 ·split
  ·exact⟨by show(0:Int)≠12;decide,rfl,rfl⟩
  ·refine⟨?_,rfl,rfl⟩
   show bw σ.s 0 x.m.page≠12;rcases h.find_few x.m.page with e|e|e<;>rw[e]<;>decide
 ·split
  ·exact⟨by show(0:Int)≠12;decide,rfl,rfl⟩
  ·refine⟨?_,rfl,rfl⟩
   show iB σ.s 0 x.m.page x.m.rights≠12;unfold iB;split
   ·decide
   ·rcases h.find_few x.m.page with e|e|e<;>rw[e]<;>decide
end Safe
def rc(σ:Sc)(x:Z):Ac:=if x.kind=4 then x.a else σ.acc x.core
namespace Safe
variable {σ:Sc} {P:List Y}
end Safe
theorem lU(L:List Y)(a:Ac):V L a=vi (Bk.find L a.page) a:=by
 unfold V vi;cases Bk.find L a.page<;>rfl
def cJ(H:List (List Y))(x:Z)(e:Ev):List (List Y):=if e.code=0∧1≤x.kind∧x.kind≤3 then H++[cQ (H.getLastD []) x 0] else H
def eo(f:Nat)(H:List (List Y))(e:Ev):Nat:=if e.back=N then H.length - 1 else f
def sD(H:List (List Y))(i:Nat)(a:Ac)(r:An):Bool:=(H.drop i).any fun L=>decide (V L a=r)
structure Hist (σ:Sc) (P:List Y) (H:List (List Y)) (f:Nat):Prop where
 last:H.getLast?=D (dr σ.s 0)
 ok:∀L∈H,a4 L
 quiet:σ.busy=F→f+1=H.length
 busy:σ.busy=N→f+2=H.length∧H[f]? =D P
theorem nI(σ:Sc)(x:Z)(hx:1≤x.kind∧x.kind≤3):
  ((σ.change x).2.code≠0∧(σ.change x).2.back=F∧(σ.change x).1.busy=σ.busy)∨
  ((σ.change x).2.code=0∧(σ.change x).2.back=N∧(σ.change x).1.busy=F∧σ.busy=F)∨
  ((σ.change x).2.code=0∧(σ.change x).2.back=F∧(σ.change x).1.busy=N∧σ.busy=F∧(x.kind=2∨x.kind=3)):=by
 unfold T;by_cases hb:σ.busy=N
 ·rw[if_pos hb]
  exact .inl ⟨by show(8:Int)≠0;decide,rfl,rfl⟩
 have hb':σ.busy=F:=by simpa using hb
 rw[if_neg hb];by_cases h1:x.kind=1
 ·rw[if_pos h1]
  by_cases hc:cT σ.s 0 x.m=0
  ·exact .inr (.inl ⟨hc,decide_eq_true hc,hb',hb'⟩)
  ·exact .inl ⟨hc,decide_eq_false hc,rfl⟩
 rw[if_neg h1];by_cases h2:x.kind=2
 ·rw[if_pos h2]
  by_cases hc:bw σ.s 0 x.m.page=0
  ·rw[if_pos hc]
   exact .inr (.inr ⟨rfl,rfl,rfl,hb',.inl h2⟩)
  ·rw[if_neg hc]
   exact .inl ⟨hc,rfl,rfl⟩
 rw[if_neg h2];by_cases hc:iB σ.s 0 x.m.page x.m.rights=0
 ·rw[if_pos hc]
  exact .inr (.inr ⟨rfl,rfl,rfl,hb',.inr (by omega)⟩)
 ·rw[if_neg hc]
  exact .inl ⟨hc,rfl,rfl⟩
theorem pN{σ:Sc}{x:Z}(hx:1≤x.kind∧x.kind≤3):σ.act x=σ.change x:=by unfold a7;rw[if_pos hx]
theorem rd{σ:Sc}{x:Z}(hx:¬(1≤x.kind∧x.kind≤3)):((σ.act x).2.back=F∧(σ.act x).1.busy=σ.busy)∨((σ.act x).2.back=N∧(σ.act x).1.busy=F):=by
 unfold a7;rw[if_neg hx];split;· exact .inl ⟨rfl,rfl⟩
 split;· exact .inl ⟨rfl,rfl⟩
 split;· exact .inl ⟨rfl,rfl⟩
 split;· exact .inl ⟨rfl,rfl⟩
 split
 ·unfold b1
  split;· exact .inl ⟨rfl,rfl⟩
  split
  ·exact .inr ⟨rfl,rfl⟩
  ·exact .inl ⟨rfl,rfl⟩
 ·unfold bf
  split<;>exact .inl ⟨rfl,rfl⟩
section
variable {σ:Sc} {P:List Y} {H:List (List Y)} {f:Nat}
theorem Hist.ne(hh:Hist σ P H f):1≤H.length:=by
 have:=hh.last;cases H with
 |nil=>cases this
 |cons=>simp
theorem Hist.lastD(hh:Hist σ P H f):H.getLastD []=dr σ.s 0:=by
 rw[List.getLastD_eq_getLast?,hh.last];rfl
theorem Hist.le(hh:Hist σ P H f):f+1≤H.length:=by
 cases hb:σ.busy with
 |false=>exact Nat.le_of_eq (hh.quiet hb)
 |true=>have:=(hh.busy hb).1;omega
theorem Hist.act(h:a3 σ P)(hh:Hist σ P H f)(x:Z):Hist (σ.act x).1 (Safe.prevOf σ P x) (cJ H x (σ.act x).2) (eo f (cJ H x (σ.act x).2) (σ.act x).2):=by
 have hb:=h.book_act x;have hl:=hh.lastD;have hne:=hh.ne;have hlast:(cJ H x (σ.act x).2).getLast? =D (dr (σ.act x).1.s 0):=by
  rw[hb];unfold cJ;by_cases hc:(σ.act x).2.code=0∧1≤x.kind∧x.kind≤3
  ·rw[if_pos hc,hl,hc.1];simp
  ·rw[if_neg hc,hh.last];unfold cQ;rw[if_neg hc]
 have hok:∀L∈cJ H x (σ.act x).2,a4 L:=by
  unfold cJ;intro L hL;split at hL
  ·rcases List.mem_append.1 hL with hL|hL
   ·exact hh.ok L hL
   ·simp at hL
    rw[hL,←List.getLastD_eq_getLast?,hl];exact oG h.lk.ok _ _
  ·exact hh.ok L hL
 by_cases hx:1≤x.kind∧x.kind≤3
 ·have e:=pN (σ:=σ) hx
  have hpv:Safe.prevOf σ P x=if σ.busy=F∧(x.kind=2∨x.kind=3)∧(σ.change x).2.code=0 then dr σ.s 0 else P:=rfl
  rw[e] at hlast hok⊢;rcases nI σ x hx with ⟨c0,c1,c2⟩|⟨c0,c1,c2,c3⟩|⟨c0,c1,c2,c3,c4⟩
  ·have e1:cJ H x (σ.change x).2=H:=by unfold cJ;rw[if_neg (fun hc=>c0 hc.1)]
   have e2:Safe.prevOf σ P x=P:=by rw[hpv,if_neg (fun hc=>c0 hc.2.2)]
   rw[e1] at hlast hok⊢;rw[e2,show eo f H (σ.change x).2=f by unfold eo;rw[c1];rfl];exact⟨hlast,hok,fun hq=>hh.quiet (c2▸hq),fun hq=>hh.busy (c2▸hq)⟩
  ·have e1:cJ H x (σ.change x).2=H++[cQ (H.getLastD []) x 0]:=by unfold cJ;rw[if_pos ⟨c0,hx⟩]
   refine⟨hlast,hok,fun _=> ?_,fun hq=>by rw[c2] at hq;cases hq⟩;unfold eo;rw[if_pos c1,e1];simp
  ·have e1:cJ H x (σ.change x).2=H++[cQ (H.getLastD []) x 0]:=by unfold cJ;rw[if_pos ⟨c0,hx⟩]
   have e2:Safe.prevOf σ P x=dr σ.s 0:=by rw[hpv,if_pos ⟨c3,c4,c0⟩]
   have hq:=hh.quiet c3;refine⟨hlast,hok,fun hq=>(by rw[c2] at hq;cases hq),fun _=> ?_⟩;rw[e1,e2,show∀H',eo f H' (σ.change x).2=f by intro H';unfold eo;rw[c1];rfl];refine⟨by simp;omega,?_⟩;rw[List.getElem?_append_left (by omega)];have:=hh.last;rw[List.getLast?_eq_getElem?] at this;rw[←this];congr 1
   omega
 ·have e1:cJ H x (σ.act x).2=H:=by unfold cJ;rw[if_neg (fun hc=>hx hc.2)]
  rw[e1] at hlast hok⊢;rw[Safe.prev_not hx];rcases rd (σ:=σ) hx with ⟨c1,c2⟩|⟨c1,c2⟩
  ·rw[show eo f H (σ.act x).2=f by unfold eo;rw[c1];rfl]
   exact⟨hlast,hok,fun hq=>hh.quiet (c2▸hq),fun hq=>hh.busy (c2▸hq)⟩
  ·refine⟨hlast,hok,fun _=> ?_,fun hq=>by rw[c2] at hq;cases hq⟩
   unfold eo;rw[if_pos c1];omega
theorem Hist.mono(_:a3 σ P)(hh:Hist σ P H f)(x:Z):f≤eo f (cJ H x (σ.act x).2) (σ.act x).2:=by
 have:=hh.le;unfold eo;split
 ·unfold cJ
  split
  ·simp;omega
  ·omega
 ·omega
theorem Safe.fin_right(h:a3 σ P)(x:Z)(hf:(σ.act x).2.fin=N):
  (x.kind=4∨x.kind=5)∧0≤x.core∧x.core<σ.cs.length∧(σ.act x).2.code=0∧(σ.act x).2.back=F∧(x.kind=5→σ.on x.core=N)∧
   (V (dr σ.s 0) (rc σ x)=(σ.act x).2.an∨(x.kind=4∧σ.busy=N∧V P (rc σ x)=(σ.act x).2.an)):=by
 unfold rc;unfold a7 at hf⊢;split at hf
 ·rw[(h.change_few x).2.1] at hf
  cases hf
 rename_i h13;rw[if_neg h13];split at hf;· cases hf
 rename_i h17;rw[if_neg h17];split at hf;· cases hf
 rename_i hc;rw[if_neg hc];have hk:x.core.toNat<σ.cs.length:=by omega
 split at hf
 ·rename_i h4
  rw[if_pos h4,if_pos h4];have hi:=h.core _ _ (at_core hk);unfold Sc.access at hf⊢;dsimp only at hf⊢;unfold cW at hf⊢;split at hf;· cases hf
  rename_i hca;rw[if_neg hca];split at hf;· cases hf
  rename_i hon;rw[if_neg hon];have hp:=eD (a:=x.a) (by omega);cases hh:ji (σ.core x.core.toNat).l x.a with
  |none=>rw[hh] at hf;cases hf
  |some r=>
   dsimp only;refine⟨.inl h4,by omega,by omega,rfl,rfl,fun h5=>by omega,?_⟩;unfold ji at hh;cases hfi:Tl.find (σ.core x.core.toNat).l x.a.page with
   |none=>rw[hfi] at hh;cases hh
   |some y=>
    rw[hfi] at hh;dsimp only at hh;split at hh
    ·injection hh with hh
     have hmem:y∈(σ.core x.core.toNat).l :=List.mem_of_find?_eq_some hfi;have hov:over y.m x.a.page=N:=by simpa using List.find?_some hfi
     rcases hi.line y hmem with hl|⟨hw,_,hl⟩
     ·left
      rw[lU,h.lk.same _ hp,Wf.overMap h.wf hl.inP hp hl.map hov h.wf];exact hh
     ·right
      refine⟨h4,?_,?_⟩
      ·cases hb:σ.busy with
       |true=>rfl
       |false=>rw[(h.quiet hb).2] at hw;cases hw
      ·rw[lU,(b4 h.prev).2 ⟨((b4 h.prev).1 hl).1,hov⟩]
       exact hh
    ·cases hh
 rename_i h4;rw[if_neg h4,if_neg h4];split at hf
 ·rename_i h5
  rw[if_pos h5];cases hon:(σ.core x.core.toNat).k.on with
  |false=>
   unfold b6 at hf;rw[step_off hon] at hf;cases hf
  |true=>
   have hs:=h.walk_stepIn hk hon;have hon':σ.on x.core=N:=by
    unfold Sc.on;rw[decide_eq_true (by omega),decide_eq_true (by omega),hon];rfl
   have ea:σ.acc x.core=(σ.core x.core.toNat).k.a :=by unfold Sc.acc;rw[if_pos hon']
   have hp:=eD ((Sc.core_ok h.ok x.core.toNat).2.acc hon);rw[ea];refine⟨.inr h5,by omega,by omega,hs.code,rfl,fun _=>hon',.inl ?_⟩;rcases hs.fin with he|he
   ·rw[lU,h.lk.same _ hp]
    exact he.an.symm
   ·have:(aR σ.s 0 (σ.core x.core.toNat).k).r.fin =N:=hf
    rw[he.z] at this;cases this
 rename_i h5;split at hf
 ·exfalso
  unfold b1 at hf;split at hf;· cases hf
  split at hf<;>cases hf
 ·exfalso
  unfold bf at hf;split at hf<;>cases hf
theorem sE{i j:Nat}{L:List Y}{a:Ac}{r:An}(hj:H[j]? =D L)(hi:i≤j)(ha:V L a=r):sD H i a r=N:=by
 unfold sD;refine List.any_eq_true.2 ⟨L,?_,decide_eq_true ha⟩;refine List.mem_of_getElem? (i:=j - i) ?_;rw[List.getElem?_drop,show i+(j - i)=j by omega];exact hj
theorem Hist.right(h:a3 σ P)(hh:Hist σ P H f)(x:Z)(hf:(σ.act x).2.fin=N){i:Nat}(hi:i≤f):sD H i (rc σ x) (σ.act x).2.an=N:=by
 obtain⟨_,_,_,_,_,_,hr⟩:=h.fin_right x hf;have hle:=hh.le;rcases hr with hr|⟨k4,hb,hr⟩
 ·refine sE (j:=H.length - 1) ?_ (by omega) hr
  have:=hh.last;rw[List.getLast?_eq_getElem?] at this;exact this
 ·exact sE (hh.busy hb).2 hi hr
end
structure Wc where
 σ:Sc
 H:List (List Y)
 f:Nat
 since:List Int
theorem vx{σ:Sc}{x:Z}(h:4≤x.kind)(hc:(σ.act x).2.code=0):0≤x.core∧x.core<σ.cs.length:=by
 unfold a7 at hc;rw[if_neg (by omega)] at hc;split at hc
 ·exact absurd hc (by show(2:Int)≠0;decide)
 split at hc
 ·exact absurd hc (by show(1:Int)≠0;decide)
 ·omega
namespace Wc
def new(cores n:Nat):Wc:=⟨a5 cores n,[[]],0,List.replicate cores 0⟩
def sinceN(W:Wc)(x:Z)(e:Ev):List Int:=if e.code=0∧x.kind=4 then W.since.set x.core.toNat W.f else W.since
def act(W:Wc)(x:Z):Wc×Ev:=(⟨(W.σ.act x).1,cJ W.H x (W.σ.act x).2,eo W.f (cJ W.H x (W.σ.act x).2) (W.σ.act x).2,W.sinceN x (W.σ.act x).2⟩,(W.σ.act x).2)
structure Ok (W:Wc) (P:List Y):Prop where
 safe:a3 W.σ P
 hist:Hist W.σ P W.H W.f
 len:W.since.length=W.σ.cs.length
 le:∀i∈W.since,0≤i∧i≤W.f
theorem Ok.new{cores n:Nat}(h1:1≤cores)(h4:cores≤4)(hn:1≤n)(hn2:n≤128):Ok (Wc.new cores n) []:=by
 obtain⟨a,_,c⟩:=Safe.new h1 h4 hn hn2;refine⟨a,⟨?_,fun L hL=> ?_,fun _=>rfl,fun hb=>(by cases hb)⟩,?_,fun i hi=> ?_⟩
 ·show D []=D (dr (a5 cores n).s 0)
  rw[Safe.book_new hn]
 ·have:L=[]:=by simpa [Wc.new] using hL
  rw[this];exact a.prev
 ·show(List.replicate cores (0:Int)).length =(a5 cores n).cs.length
  rw[c,List.length_replicate]
 ·have:i=0:=by
   have:i∈List.replicate cores (0:Int):=hi;exact(List.mem_replicate.1 this).2
  rw[this];exact⟨Int.le_refl 0,Int.natCast_nonneg _⟩
theorem Ok.act{W:Wc}{P:List Y}(h:W.Ok P)(x:Z):(W.act x).1.Ok (Safe.prevOf W.σ P x):=by
 refine⟨h.safe.act x,h.hist.act h.safe x,?_,fun i hi=> ?_⟩
 ·show(W.sinceN x (W.σ.act x).2).length =(W.σ.act x).1.cs.length
  rw[(h.safe.n_act x).2,←h.len];unfold sinceN;split
  ·rw[List.length_set]
  ·rfl
 ·have hm:=h.hist.mono h.safe x
  have hi:i∈W.sinceN x (W.σ.act x).2:=hi;show 0≤i∧i≤((eo W.f (cJ W.H x (W.σ.act x).2) (W.σ.act x).2:Nat):Int);unfold sinceN at hi;split at hi
  ·rcases List.mem_or_eq_of_mem_set hi with hi|hi
   ·have:=h.le i hi;omega
   ·omega
  ·have:=h.le i hi;omega
theorem hist_len(W:Wc)(x:Z):(W.act x).1.H.length≤W.H.length+1:=by
 show(cJ W.H x (W.σ.act x).2).length ≤_;unfold cJ;split
 ·simp
 ·omega
theorem hist_same{H:List (List Y)}{x:Z}{e:Ev}(h:¬(1≤x.kind∧x.kind≤3)):cJ H x e=H:=by unfold cJ;rw[if_neg (fun hc=>h hc.2)]
theorem hist_bad{H:List (List Y)}{x:Z}{e:Ev}(h:e.code≠0):cJ H x e=H:=by unfold cJ;rw[if_neg (fun hc=>h hc.1)]
def from_(W:Wc)(x:Z):Int:=(W.sinceN x (W.σ.act x).2).getD x.core.toNat 0
theorem Ok.right{W:Wc}{P:List Y}(h:W.Ok P)(x:Z)(hf:(W.σ.act x).2.fin=N):
  0≤W.from_ x∧W.from_ x≤W.f∧sD W.H (W.from_ x).toNat (rc W.σ x) (W.σ.act x).2.an=N:=by
 obtain⟨h45,hc0,hcl,he,_,_,_⟩:=h.safe.fin_right x hf;have hk:x.core.toNat<W.since.length:=by rw[h.len];omega
 unfold from_;by_cases h4:x.kind=4
 ·have e:W.sinceN x (W.σ.act x).2=W.since.set x.core.toNat W.f:=by unfold sinceN;rw[if_pos ⟨he,h4⟩]
  rw[e,List.getD_eq_getElem?_getD,List.getElem?_set_self hk];refine⟨Int.natCast_nonneg _,Int.le_refl _,?_⟩;exact h.hist.right h.safe x hf (Nat.le_refl _)
 ·have e:W.sinceN x (W.σ.act x).2=W.since:=by unfold sinceN;rw[if_neg (fun hc=>h4 hc.2)]
  rw[e,List.getD_eq_getElem?_getD,K hk];have hle:=h.le _ (List.getElem_mem hk);refine⟨hle.1,hle.2,?_⟩;exact h.hist.right h.safe x hf (by show(W.since[x.core.toNat]).toNat ≤W.f;omega)
end Wc
set_option maxRecDepth 100000
def dt(v:b5)(l:List Nat):ab:=bZ 150 1 v l.length (l.map pe)
theorem oH{w:S}{R:ab}{A:Option bb}{n c:Nat}{l:List Nat}(h:O w (dt (.slice A n c) l*R)):n=l.length:=by
 rcases(Has.rowCases (e:=150) (size:=1) h) with ⟨hv,h0,_⟩|⟨g,cap,cur,hv,_⟩
 ·injection hv with a b
  omega
 ·injection hv
theorem nJ{w:S}{R:ab}{A:Option bb}{n c:Nat}{l:List Nat}(h:O w (dt (.slice A n c) l*R)){k p:Nat}(hk:l[k]? =D p):
  ∃b,A=D (J b 0 E)∧b<w.heap.size∧w.cell? (J b k E)=D (.pointer (D (J p 0 E))):=by
 obtain rfl:=oH h;obtain⟨b,e,hb,hc,_⟩:=Has.rowGet (e:=150) (size:=1) h (i:=k) (u:=pe p) (by simp[hk]);exact⟨b,e,hb,hc⟩
theorem vy:jh prog 150 (.pointer E) 1 8:=⟨by kernel_rfl,rfl,by omega⟩
def bc:List Nat→List (List Y)→ab
 |p::ps,L::Ls=>bq p L*bc ps Ls
 |_,_=>dN True
theorem km:∀{ps:List Nat} {Ls:List (List Y)} {k p:Nat} {L:List Y},ps[k]? =D p→Ls[k]? =D L→∃Q,bc ps Ls=bq p L*Q
 | [],_,_,_,_,h,_=>by simp at h
 |_::_,[],_,_,_,_,h=>by simp at h
 |q::ps,M::Ls,0,p,L,h1,h2=>by
  simp at h1 h2;subst h1;subst h2;exact⟨bc ps Ls,rfl⟩
 |q::ps,M::Ls,k+1,p,L,h1,h2=>by
  simp at h1 h2;obtain⟨Q,e1⟩:=km h1 h2;refine⟨bq q M*Q,?_⟩;show bq q M*bc ps Ls=_;rw[e1];ac_rfl
theorem lV:∀(ps:List Nat) (Ls:List (List Y)) (p:Nat) (L:List Y),ps.length=Ls.length→bc (ps++[p]) (Ls++[L])=bq p L*bc ps Ls
 | [],[],p,L,_=>rfl
 | [],_::_,_,_,h=>by simp at h
 |_::_,[],_,_,h=>by simp at h
 |q::ps,M::Ls,p,L,h=>by
  show bq q M*bc (ps++[p]) (Ls++[L])=_;rw[lV ps Ls p L (by simpa using h)];show _=bq p L*(bq q M*bc ps Ls);ac_rfl
structure Wl where
 A:Option bb
 c:Nat
 bs:List Nat
 G:Option bb
 d:Nat
 z:Int
def cN(b sp:Nat)(H:List (List Y))(f:Nat)(since:List Int)(y:Wl)(R:ab):ab:=
 aa b #[.pointer (D (J sp 0 E)),.slice y.A y.bs.length y.c,o C f,.slice y.G since.length y.d,o C 0,o C 0,o C y.z] 82*
  (dt (.slice y.A y.bs.length y.c) y.bs*(ao (.slice y.G since.length y.d) since*(bc y.bs H*R)))
def aZ(b sp:Nat)(H:List (List Y))(f:Nat)(since:List Int):ab:=ex fun y=>dN (y.bs.length=H.length)*cN b sp H f since y (dN True)
section
variable {w:S} {b sp f:Nat} {H:List (List Y)} {since:List Int} {R:ab}
theorem dU(h:O w (aZ b sp H f since*R)):∃y,y.bs.length=H.length∧O w (cN b sp H f since y R):=by
 unfold aZ at h;obtain⟨y,h⟩:=aH.1 h;rw[aG] at h;obtain⟨hy,h⟩:=cH.1 h;refine⟨y,hy,?_⟩;have h2:O w (dN True*cN b sp H f since y R):=h.eq (by unfold cN;ac_rfl);exact h2.right
theorem eF{y:Wl}(hy:y.bs.length=H.length)(h:O w (cN b sp H f since y R)):O w (aZ b sp H f since*R):=by
 unfold aZ;refine aH.2 ⟨y,?_⟩;rw[aG];refine cH.2 ⟨hy,?_⟩;have h2:O w (dN True*cN b sp H f since y R):=cH.2 ⟨trivial,h⟩;exact h2.eq (by unfold cN;ac_rfl)
theorem gh(h:O w (aZ b sp H f since*R)):b<w.heap.size∧w.cell? (J b 0 E)=D (.pointer (D (J sp 0 E))):=by
 obtain⟨y,_,h⟩:=dU h;exact⟨Has.lt h,Has.cell h 0⟩
end
def fE(v:b5)(l:List Nat):ab:=bZ 92 1 v l.length (l.map pe)
theorem re{w:S}{R:ab}{A:Option bb}{n c:Nat}{l:List Nat}(h:O w (fE (.slice A n c) l*R)):n=l.length:=by
 rcases(Has.rowCases (e:=92) (size:=1) h) with ⟨hv,h0,_⟩|⟨g,cap,cur,hv,_⟩
 ·injection hv with a b
  omega
 ·injection hv
theorem oI{w:S}{R:ab}{A:Option bb}{n c:Nat}{l:List Nat}(h:O w (fE (.slice A n c) l*R)){k p:Nat}(hk:l[k]? =D p):
  ∃b,A=D (J b 0 E)∧b<w.heap.size∧w.cell? (J b k E)=D (.pointer (D (J p 0 E))):=by
 obtain rfl:=re h;obtain⟨b,e,hb,hc,_⟩:=Has.rowGet (e:=92) (size:=1) h (i:=k) (u:=pe p) (by simp[hk]);exact⟨b,e,hb,hc⟩
theorem ue:jh prog 92 (.pointer E) 1 8:=⟨by kernel_rfl,rfl,by omega⟩
def dL:List Nat→List (List Y)→ab
 |p::ps,L::Ls=>bg p L*dL ps Ls
 |_,_=>dN True
theorem oJ:∀{ps:List Nat} {Ls:List (List Y)} {k p:Nat} {L:List Y},ps[k]? =D p→Ls[k]? =D L→∃Q,dL ps Ls=bg p L*Q
 | [],_,_,_,_,h,_=>by simp at h
 |_::_,[],_,_,_,_,h=>by simp at h
 |q::ps,M::Ls,0,p,L,h1,h2=>by
  simp at h1 h2;subst h1;subst h2;exact⟨dL ps Ls,rfl⟩
 |q::ps,M::Ls,k+1,p,L,h1,h2=>by
  simp at h1 h2;obtain⟨Q,e1⟩:=oJ h1 h2;refine⟨bg q M*Q,?_⟩;show bg q M*dL ps Ls=_;rw[e1];ac_rfl
theorem lW:∀(ps:List Nat) (Ls:List (List Y)) (p:Nat) (L:List Y),ps.length=Ls.length→dL (ps++[p]) (Ls++[L])=bg p L*dL ps Ls
 | [],[],p,L,_=>rfl
 | [],_::_,_,_,h=>by simp at h
 |_::_,[],_,_,h=>by simp at h
 |q::ps,M::Ls,p,L,h=>by
  show bg q M*dL (ps++[p]) (Ls++[L])=_;rw[lW ps Ls p L (by simpa using h)];show _=bg p L*(bg q M*dL ps Ls);ac_rfl
structure Yl where
 A:Option bb
 c:Nat
 bs:List Nat
def dZ(b:Nat)(H:List (List Y))(f:Nat)(y:Yl)(R:ab):ab:=
 aa b #[.slice y.A y.bs.length y.c,o C f] 87*(fE (.slice y.A y.bs.length y.c) y.bs*(dL y.bs H*R))
def cO(b:Nat)(H:List (List Y))(f:Nat):ab:=ex fun y=>dN (y.bs.length=H.length)*dZ b H f y (dN True)
section
variable {w:S} {b f:Nat} {H:List (List Y)} {R:ab}
theorem iZ(h:O w (cO b H f*R)):∃y,y.bs.length=H.length∧O w (dZ b H f y R):=by
 unfold cO at h;obtain⟨y,h⟩:=aH.1 h;rw[aG] at h;obtain⟨hy,h⟩:=cH.1 h;refine⟨y,hy,?_⟩;have h2:O w (dN True*dZ b H f y R):=h.eq (by unfold dZ;ac_rfl);exact h2.right
theorem gC{y:Yl}(hy:y.bs.length=H.length)(h:O w (dZ b H f y R)):O w (cO b H f*R):=by
 unfold cO;refine aH.2 ⟨y,?_⟩;rw[aG];refine cH.2 ⟨hy,?_⟩;have h2:O w (dN True*dZ b H f y R):=cH.2 ⟨trivial,h⟩;exact h2.eq (by unfold dZ;ac_rfl)
end
theorem Has.rowSmall'{w:S}{R:ab}{A:Option bb}{c:Nat}{l:List Nat}{n:Nat}(h:O w (dt (.slice A n c) l*R)):n≤9223372036854775807:=by
 obtain rfl:=oH h;rcases(Has.rowCases (e:=150) (size:=1) h) with ⟨hv,h0,_⟩|⟨g,cap,cur,hv,hn,hc,_⟩
 ·omega
 ·unfold maxLen at hc;omega
theorem vz(l:List Y)(A B:Option bb)(n c n' c':Nat)(R:ab)(w:S)(h:O w (bO (.slice A n c) l*(bO (.slice B n' c') l*R))):
  af prog 83 #[.slice A n c,.slice B n' c'] w (b0 (U N) w):=by
 have hn:=dK h;have hn':=dK h.right;subst hn;subst hn';have hbig:=gS h;go_enter func83,ntmps83;go_wp2_with fail
 go_loopw [13] (fun s5 wr=>∃i:Nat,i≤l.length∧s5=o C i∧Below w.heap.size w wr) (fun s5 _=>l.length - (intOf s5).toNat)
 case atStart=>exact⟨0,Nat.zero_le _,rfl,Below.refl _ _⟩
 case round=>
  obtain⟨i,hi,rfl,BW⟩:=hrel;have h':=h.below BW;clear h;have BW':=I BW;clear BW;by_cases hlt:i<l.length
  ·obtain⟨b,rfl,hb,c0,c1,c2,c3⟩:=dS h' hlt
   obtain⟨b',rfl,hb',d0,d1,d2,d3⟩:=dS h'.right hlt;clear h';generalize l[i]=x at c0 c1 c2 c3 d0 d1 d2 d3;have v0:=ae c0;have v1:=ae c1;have v2:=ae c2;have v3:=ae c3;have u0:=ae d0;have u1:=ae d1;have u2:=ae d2;have u3:=ae d3;clear c0 c1 c2 c3 d0 d1 d2 d3;go_wp2_with fail
   refine ap (by kernel_rfl) (by kernel_rfl) ?_;repeat(first|go_big_quiet_step (fail)|quiet_step (fail))
   refine wpQuiet_nil ?_;intro _ hw';obtain⟨uq,hw''⟩:=hw';subst hw'';go_wp2_with fail
   go_roundw
   case rel=>exact⟨i+1,by omega,by go_num,BW'.out.trans ((aB _ _).mono BW'.out.size)⟩
   case measure=>simp[intOf];omega
  ·go_wp2_with fail
   go_ret;exact⟨rfl,BW'.out⟩
theorem uN(b sp:Nat)(H:List (List Y))(f:Nat)(since:List Int)(y:Wl)(p k:Nat)(hk:H.length=k+1)(hy:y.bs.length=H.length)(hp:y.bs[k]? =D p)(R:ab)(w:S)(h:O w (cN b sp H f since y R)):
  af prog 84 #[.pointer (D (J b 0 E))] w (b0 (.pointer (D (J p 0 E))) w):=by
 unfold cN at h;obtain⟨bA,hA,lA,cA⟩:=nJ h.right hp;have c1:=h.cell 1;have hbs:=Has.rowSmall' h.right;rw[hA,hy,hk] at c1;rw[hy,hk] at hbs;have v1:=ae c1;have vA:=ae cA;have hkk:IntKind.i64.wrap (((k+1:Nat):Int) - 1)=(k:Int):=by
  rw[bd];omega
 clear h c1 cA hA hy hp hk;go_enter func84,ntmps84;go_wp2_with fail
 refine ap (by kernel_rfl) (by kernel_rfl) ?_;repeat(first|go_big_quiet_step (fail)|quiet_step (fail))
 refine wpQuiet_nil ?_;intro _ hw';obtain⟨uq,hw''⟩:=hw';subst hw'';go_wp2_with fail
 go_ret;exact⟨rfl,aB _ _⟩
theorem sG(b sp:Nat)(H:List (List Y))(f:Nat)(since:List Int)(hn:1≤H.length)(R:ab)(w:S)(h:O w (aZ b sp H f since*R)):
  af prog 42 #[.pointer (D (J b 0 E))] w (Same (o C ((H.length:Int) - 1)) w):=by
 obtain⟨y,hy,h⟩:=dU h;unfold cN at h;have hbs:=Has.rowSmall' h.right;have c1:=h.cell 1;rw[hy] at c1 hbs;have cl:=h.lt;clear h hy;go_enter func42,ntmps42;go_wp2_with fail
 go_ret;exact⟨by first|rfl|(congr 3;rw[bd];omega),rfl⟩
theorem pO{H:List (List Y)}{L:List Y}(h:H.getLast?=D L):∃k,H.length=k+1∧H[k]? =D L∧H.getLastD []=L:=by
 rw[List.getLast?_eq_getElem?] at h;have hne:H.length≠0:=by
  intro e;rw[List.length_eq_zero_iff.1 e] at h;cases h
 refine⟨H.length - 1,by omega,h,?_⟩;rw[List.getLastD_eq_getLast?,List.getLast?_eq_getElem?,h];rfl
theorem sH(q:Nat):∀u∈([.pointer (D (J q 0 E))]:List b5),u.oneCell'=N:=by
 intro u hu;simp at hu;subst hu;rfl
set_option maxHeartbeats 4000000 in
theorem uf(b sp:Nat)(H:List (List Y))(f:Nat)(since:List Int)(x:Z)(L:List Y)(hx:1≤x.kind∧x.kind≤3)(hxo:x.ok)(hL:H.getLast?=D L)(hLo:a4 L)(hH:H.length≤1000000)(R:ab)(w:S)(h:O w (aZ b sp H f since*R)):
  af prog 82 #[.pointer (D (J b 0 E)),.agg #[o C x.kind,o C x.core,o C x.m.page,o C x.m.size,o C x.m.frame,o C x.m.rights,o C x.a.page,o C x.a.kind,U x.a.user]] w
   (cI (.tuple #[]) (aZ b sp (H++[cQ (H.getLastD []) x 0]) f since*R) w):=by
 obtain⟨k,hk,hkL,hLD⟩:=pO hL;obtain⟨y,hy,h⟩:=dU h;obtain⟨yA,yc,ybs,yG,yd,yz⟩:=y;dsimp only at*
 have hkb:k<ybs.length:=by omega
 obtain⟨p,hp⟩:∃p,ybs[k]? =D p:=⟨ybs[k],K hkb⟩;obtain⟨Q,hQ⟩:=km hp hkL;have h0:O _ (cN b sp H f since ⟨yA,yc,ybs,yG,yd,yz⟩ (aa w.heap.size #[o C x.kind,o C x.core,o C x.m.page,o C x.m.size,o C x.m.frame,o C x.m.rights,o C x.a.page,o C x.a.kind,U x.a.user] 43*R)):=(h.new #[o C x.kind,o C x.core,o C x.m.page,o C x.m.size,o C x.m.frame,o C x.m.rights,o C x.a.page,o C x.a.kind,U x.a.user] 43).eq (by unfold cN;ac_rfl);have x0:=(Ext.refl w).alloc (.cells #[o C x.kind,o C x.core,o C x.m.page,o C x.m.size,o C x.m.frame,o C x.m.rights,o C x.a.page,o C x.a.kind,U x.a.user] 43);have HLW:=I (fun R w h=>uN b sp H f since ⟨yA,yc,ybs,yG,yd,yz⟩ p k hk hy hp R w h);have HCP:=I (fun R w h=>vX p L R w (by have:=hLo.le;omega) h);have hNo:=oG hLo x 0;rw[hLD];have hxp:=hxo.2.2.1.1;have HAD:=I (fun q (h1:x.kind=1) R w h=>(show cQ L x 0=b7 L x.m from by unfold cQ;simp[h1])▸xr q L x.m R w hLo hxp h);have HDR:=I (fun q (h2:x.kind=2) R w h=>(show cQ L x 0=bk L x.m.page from by unfold cQ;simp[h2])▸vZ q L x.m.page R w hLo hxp h);have HPR:=I (fun q (h3:x.kind=3) R w h=>(show cQ L x 0=bl L x.m.page x.m.rights from by unfold cQ;simp[h3])▸rH q L x.m.page x.m.rights R w hLo hxp h);generalize cQ L x 0=L2 at*
 unfold cN at HLW h0;dsimp only at HLW h0;have HSN:=I (fun q=>lV ybs H q L2 hy);have HB:=I hQ;have HY:=I hy;have hyl:ybs.length≤1000000:=by omega
 clear h hLo hL hkL hLD hNo hxo hk hy hQ hp hkb hH hxp;obtain⟨kx,cx,mx,ax⟩:=x;dsimp only at*
 have k0:=h0.right.r3.cell 0;have kl:=h0.right.r3.lt;go_enter func82,ntmps82;go_wp2_with fail
 refine(HLW.out _ _ h0).mono ?_;rintro e w2 ⟨rfl,b2⟩;have x2:=x0.below b2;have h2:O w2 (bq p L*(aa b #[.pointer (D (J sp 0 E)),.slice yA ybs.length yc,o C f,.slice yG since.length yd,o C 0,o C 0,o C yz] 82*(dt (.slice yA ybs.length yc) ybs*(ao (.slice yG since.length yd) since*(Q*(aa w.heap.size #[o C kx,o C cx,o C mx.page,o C mx.size,o C mx.frame,o C mx.rights,o C ax.page,o C ax.kind,U ax.user] 43*R)))))):=(h0.below b2).eq (by rw[HB.out];ac_rfl);clear h0 x0 b2 HLW k0 kl;go_wp2_with fail
 refine(HCP.out _ _ h2).mono ?_;rintro e w3 ⟨q,rfl,h3,x3⟩;have x4:=x2.trans x3;have h4:O w3 (bq q L*(aa b #[.pointer (D (J sp 0 E)),.slice yA ybs.length yc,o C f,.slice yG since.length yd,o C 0,o C 0,o C yz] 82*(dt (.slice yA ybs.length yc) ybs*(ao (.slice yG since.length yd) since*(bc ybs H*(aa w.heap.size #[o C kx,o C cx,o C mx.page,o C mx.size,o C mx.frame,o C mx.rights,o C ax.page,o C ax.kind,U ax.user] 43*R)))))):=h3.eq (by rw[HB.out];ac_rfl);clear h2 x2 h3 x3 HCP HB;obtain⟨k0,-,k2,k3,k4,k5,-,-,-⟩:=h4.right.right.r3.cells9;have kl:=h4.right.right.r3.lt;go_upto_block 0 with fail
 go_cut [] from 10 to 32 (fun wx=>O wx (bq q L2*(aa b #[.pointer (D (J sp 0 E)),.slice yA ybs.length yc,o C f,.slice yG since.length yd,o C 0,o C 0,o C yz] 82*(dt (.slice yA ybs.length yc) ybs*(ao (.slice yG since.length yd) since*(bc ybs H*(aa w.heap.size #[o C kx,o C cx,o C mx.page,o C mx.size,o C mx.frame,o C mx.rights,o C ax.page,o C ax.kind,U ax.user] 43*R))))))∧Ext w wx)
 case first=>
  clear HSN HY;by_cases k1:kx=1
  ·have HA:=I (fun R w h=>HAD.out q k1 R w h)
   subst k1;clear HAD HDR HPR;go_wp2_with fail
   refine(HA.out _ _ h4).mono ?_;rintro e w5 ⟨rfl,h5,x5⟩;go_wp2_with fail
   go_meet
   case rel=>exact⟨h5,x4.trans x5⟩
  by_cases k2':kx=2
  ·have HA:=I (fun R w h=>HDR.out q k2' R w h)
   subst k2';clear HAD HDR HPR;go_wp2_with fail
   refine(HA.out _ _ h4).mono ?_;rintro e w5 ⟨rfl,h5,x5⟩;go_wp2_with fail
   go_meet
   case rel=>exact⟨h5,x4.trans x5⟩
  ·have k3':kx=3:=by omega
   have HA:=I (fun R w h=>HPR.out q k3' R w h);subst k3';clear HAD HDR HPR;go_wp2_with fail
   refine(HA.out _ _ h4).mono ?_;rintro e w5 ⟨rfl,h5,x5⟩;go_wp2_with fail
   go_meet
   case rel=>exact⟨h5,x4.trans x5⟩
 case rest=>
  obtain⟨h5,x5⟩:=hcut;clear h4 x4 k0 k2 k3 k4 k5 kl HAD HDR HPR;have c1:=h5.right.cell 1;have cl:=h5.right.lt;have h6:O _ (dt (.slice yA ybs.length yc) ybs*(aa b #[.pointer (D (J sp 0 E)),.slice yA ybs.length yc,o C f,.slice yG since.length yd,o C 0,o C 0,o C yz] 82*(ao (.slice yG since.length yd) since*((bq q L2*bc ybs H)*(aa w.heap.size #[o C kx,o C cx,o C mx.page,o C mx.size,o C mx.frame,o C mx.rights,o C ax.page,o C ax.kind,U ax.user] 43*R))))):=h5.eq (by ac_rfl);clear h5;go_wp2_with(at_builtin;(refine aW rfl _ _ 80 rfl underlying80 vy _ _ _ rfl (h6.alloc _) (J wc.heap.size 0 E) 1 1 [.pointer (D (J q 0 E))] rfl rfl (eO _ _ _) ?c1 ?c2 ?c3 ?_))
  case c1=>exact sH _
  case c2=>unfold maxLen;omega
  case c3=>omega
  intro v9 w9 h9 x9;obtain⟨A',c',rfl⟩:=Has.rowForm (e:=150) (size:=1) h9;have y2:=h9.right.cell 1;have yf:=h9.right.free 1;have yl:=h9.right.lt;have h10:O (w9.setCell (J b 1 E) (.slice A' (ybs.length+1) c')) (aZ b sp (H++[L2]) f since*R):=by
   have h12:=(h9.p2.set 1 (.slice A' (ybs.length+1) c'));have h13:O _ (aa b #[.pointer (D (J sp 0 E)),.slice A' (ybs.length+1) c',o C f,.slice yG since.length yd,o C 0,o C 0,o C yz] 82*(dt (.slice A' (ybs++[q]).length c') (ybs++[q])*(ao (.slice yG since.length yd) since*(bc (ybs++[q]) (H++[L2])*(aa w.heap.size #[o C kx,o C cx,o C mx.page,o C mx.size,o C mx.frame,o C mx.rights,o C ax.page,o C ax.kind,U ax.user] 43*R))))):=h12.eq (by
    rw[HSN.out q];unfold dt;rw[a6,List.map_append];show _*(bZ 150 1 (.slice A' (ybs.length+1) c') (ybs.length+1) (ybs.map pe++[.pointer (D (J q 0 E))])*_)=_*(bZ 150 1 (.slice A' (ybs.length+1) c') (ybs.length+1) (ybs.map pe++[.pointer (D (J q 0 E))])*_);ac_rfl)
   have h14:=eF (b:=b) (sp:=sp) (H:=H++[L2]) (f:=f) (since:=since) (y:=⟨A',c',ybs++[q],yG,yd,yz⟩) (R:=aa w.heap.size #[o C kx,o C cx,o C mx.page,o C mx.size,o C mx.frame,o C mx.rights,o C ax.page,o C ax.kind,U ax.user] 43*R) (by simp[HY.out]) (by
    unfold cN;dsimp only;rw[a6] at h13⊢;exact h13)
   exact(h14.eq (show _=aa w.heap.size #[o C kx,o C cx,o C mx.page,o C mx.size,o C mx.frame,o C mx.rights,o C ax.page,o C ax.kind,U ax.user] 43*(aZ b sp (H++[L2]) f since*R) by ac_rfl)).right
  have x10:=((x5.alloc (.cells #[.pointer (D (J q 0 E))] 150)).trans x9).set (J b 1 E) (.slice A' (ybs.length+1) c');clear h9 h6 x9 x5 c1 cl HSN HY;go_wp2_with fail
  exact ag (v:= .tuple #[]) (by simp[results,results82]) rfl ⟨rfl,h10,x10⟩
def Ev.val(e:Ev):b5:= .agg #[o C e.code,U e.fin,o C e.an.fin,o C e.an.frame,o C e.an.rights,U e.back]
theorem aN{w:S}{R:ab}{b:Nat}{v0 v1 v2 v3 v4 v5:b5}(h:O w (aa b #[v0,v1,v2,v3,v4,v5] 36*R)):(loadVar 36 (J b 0 E)).run prog w= .ok (.agg #[v0,v1,v2,v3,v4,v5]) w:=
 run_loadVar_row w b 36 36 _ _ _ h.heap underlying36 rfl (by kernel_rfl)
theorem eN(c:Int)(w:S):af prog 59 #[o C c] w (b0 (.agg #[o C c,U F,o C 0,o C 0,o C 0,U F]) w):=by
 have h0:=(aT w).new #[o C 0,U F,o C 0,o C 0,o C 0,U F] 36;have h1:=(aT w).new #[o C c,U F,o C 0,o C 0,o C 0,U F] 36;obtain⟨c0,c1,c2,c3,c4,c5⟩:=h0.cells6;obtain⟨f0,f1,f2,f3,f4,f5⟩:=h0.frees6;have cl:=h0.lt;go_enter func59,ntmps59;go_wp2_with fail
 refine ak (fun wz=>O wz (aa w.heap.size #[o C c,U F,o C 0,o C 0,o C 0,U F] 36*(bS w w.heap.size))∧Ext w wz) ⟨by first|(with_reducible exact h1)|(with_reducible exact h0.set6 _ _ _ _ _ _),ah⟩ ?_;rintro wz ⟨hz,xz⟩;exact ag (aD results59 rfl (aN hz)) rfl ⟨rfl,aq hz.right xz⟩
theorem uO(a f r c:Int)(fin:Bool)(w:S):af prog 60 #[.agg #[o C a,o C f,o C r],U fin,o C c] w (b0 (.agg #[o C c,U fin,o C a,o C f,o C r,U F]) w):=by
 have h0:=((aT w).new #[o C a,o C f,o C r] 34).new #[o C 0,U F,o C 0,o C 0,o C 0,U F] 36;have h1:=((aT w).new #[o C a,o C f,o C r] 34).new #[o C c,U fin,o C a,o C f,o C r,U F] 36;simp only[ad] at h0 h1;obtain⟨c0,c1,c2,c3,c4,c5⟩:=h0.cells6;obtain⟨f0,f1,f2,f3,f4,f5⟩:=h0.frees6;obtain⟨a0,a1,a2⟩:=h0.right.cells3;have cl:=h0.lt;have al:=h0.right.lt;go_enter func60,ntmps60;go_wp2_with fail
 refine ak (fun wz=>O wz (aa (w.heap.size+1) #[o C c,U fin,o C a,o C f,o C r,U F] 36*(aa w.heap.size #[o C a,o C f,o C r] 34*bS w w.heap.size))∧Ext w wz) ⟨by first|(with_reducible exact h1)|(with_reducible exact h0.set6 _ _ _ _ _ _),ah⟩ ?_;rintro wz ⟨hz,xz⟩;exact ag (aD results60 rfl (aN hz)) rfl ⟨rfl,aq hz.right.right xz⟩
set_option maxHeartbeats 4000000 in
theorem vC(b:Nat)(σ:Sc)(y:Sl)(m:Y)(g:List Int)(G:Option bb)(gn gd:Nat)(hy:y.ps.length=σ.cs.length)(hn1:1≤σ.cs.length)(hn4:σ.cs.length≤4)(hov:dY σ.wait=N)(R:ab)(w:S)(h:O w (co b σ y (ao (.slice G gn gd) g*R))):
  af prog 99 #[.pointer (D (J b 0 E)),.agg #[o C m.page,o C m.size,o C m.frame,o C m.rights],.slice G gn gd] w (cI (.agg #[o C 0,U F,o C 0,o C 0,o C 0,U F]) (aw b (σ.post σ.s m g)*R) w):=by
 unfold co at h;obtain rfl:=ei (h.eq (show _=ao (.slice G gn gd) g*(aa b #[.pointer (D (J y.f 0 E)),o C 0,.slice y.A y.ps.length y.c,.pointer (D (J y.sh 0 E)),U σ.busy,.slice y.G σ.gone.length y.d] 114*(cj (.slice y.A y.ps.length y.c) y.ps*(ao (.slice y.G σ.gone.length y.d) σ.gone*(aI y.sh σ.told σ.wait*(aU y.ps σ.cs*(dn y.f σ.s*R)))))) by ac_rfl));have h0:O _ (aa b #[.pointer (D (J y.f 0 E)),o C 0,.slice y.A y.ps.length y.c,.pointer (D (J y.sh 0 E)),U σ.busy,.slice y.G σ.gone.length y.d] 114*(aI y.sh σ.told σ.wait*(aa (w.heap.size+1) #[o C 0,U F,o C 0,o C 0,o C 0,U F] 36*(aa w.heap.size #[o C m.page,o C m.size,o C m.frame,o C m.rights] 39*(cj (.slice y.A y.ps.length y.c) y.ps*(aU y.ps σ.cs*(dn y.f σ.s*(ao (.slice G g.length gd) g*R)))))))):=
  (((h.new #[o C m.page,o C m.size,o C m.frame,o C m.rights] 39).new #[o C 0,U F,o C 0,o C 0,o C 0,U F] 36).eq (show _=ao (.slice y.G σ.gone.length y.d) σ.gone*(aa b #[.pointer (D (J y.f 0 E)),o C 0,.slice y.A y.ps.length y.c,.pointer (D (J y.sh 0 E)),U σ.busy,.slice y.G σ.gone.length y.d] 114*(aI y.sh σ.told σ.wait*(aa (w.heap.size+1) #[o C 0,U F,o C 0,o C 0,o C 0,U F] 36*(aa w.heap.size #[o C m.page,o C m.size,o C m.frame,o C m.rights] 39*(cj (.slice y.A y.ps.length y.c) y.ps*(aU y.ps σ.cs*(dn y.f σ.s*(ao (.slice G g.length gd) g*R)))))))) by(simp only[ad];ac_rfl))).right
 have x0:=((Ext.refl w).alloc (.cells #[o C m.page,o C m.size,o C m.frame,o C m.rights] 39)).alloc (.cells #[o C 0,U F,o C 0,o C 0,o C 0,U F] 36);rw[←hy] at hn1 hn4;have HP:=I (fun R w h=>sv y.sh σ.told m σ.wait y.ps.length R w h hov hn1 hn4);have HS:=I (fun(w':S) (h:O w' (aa b #[.pointer (D (J y.f 0 E)),o C 0,.slice y.A y.ps.length y.c,.pointer (D (J y.sh 0 E)),U N,.slice G g.length gd] 114*(cj (.slice y.A y.ps.length y.c) y.ps*(ao (.slice G g.length gd) g*(aI y.sh m (eM y.ps.length)*(aU y.ps σ.cs*(dn y.f σ.s*R)))))))=>
  dR (b:=b) (σ:=σ.post σ.s m g) (y:=⟨y.f,y.sh,y.A,y.c,y.ps,G,gd⟩) (R:=R) hy (by rw[hy] at h;unfold co;rw[hy];exact h))
 clear h hov hy;obtain⟨c0,c1,c2,c3,c4,c5⟩:=h0.cells6;obtain⟨f0,f1,f2,f3,f4,f5⟩:=h0.frees6;have cl:=h0.lt;generalize σ.told=td at*
 generalize σ.wait=wt at*
 generalize σ.busy=bz at*
 generalize σ.gone.length=ogl at*
 go_enter func99,ntmps99;go_upto_region 2 with fail;have h1:=(h0.set 4 (U N)).set 5 (.slice G g.length gd);have x1:=(x0.set (J b 4 E) (U N)).set (J b 5 E) (.slice G g.length gd);have h2:O _ (aI y.sh td wt*(aa b #[.pointer (D (J y.f 0 E)),o C 0,.slice y.A y.ps.length y.c,.pointer (D (J y.sh 0 E)),U N,.slice G g.length gd] 114*(aa w.heap.size #[o C m.page,o C m.size,o C m.frame,o C m.rights] 39*(aa (w.heap.size+1) #[o C 0,U F,o C 0,o C 0,o C 0,U F] 36*(cj (.slice y.A y.ps.length y.c) y.ps*(aU y.ps σ.cs*(dn y.f σ.s*(ao (.slice G g.length gd) g*R)))))))):=h1.eq (show _=_ by ac_rfl);clear h0 x0 h1 c0 c1 c2 c3 c4 c5 f0 f1 f2 f3 f4 f5 cl;generalize (((w.alloc (.cells #[o C m.page,o C m.size,o C m.frame,o C m.rights] 39)).alloc (.cells #[o C 0,U F,o C 0,o C 0,o C 0,U F] 36)).setCell (J b 4 E) (U N)).setCell (J b 5 E) (.slice G g.length gd)=w1 at*
 have HK:=I (fun(w':S) (P Q:ab) (h:O w' (P*(aa b #[.pointer (D (J y.f 0 E)),o C 0,.slice y.A y.ps.length y.c,.pointer (D (J y.sh 0 E)),U N,.slice G g.length gd] 114*(aa w.heap.size #[o C m.page,o C m.size,o C m.frame,o C m.rights] 39*Q))))=>(⟨h.right.cell 2,h.right.cell 3,h.right.right.cell 0,h.right.right.cell 1,h.right.right.cell 2,h.right.right.cell 3⟩:
  w'.cell? (J b 2 E)=D (.slice y.A y.ps.length y.c)∧w'.cell? (J b 3 E)=D (.pointer (D (J y.sh 0 E)))∧w'.cell? (J w.heap.size 0 E)=D (o C m.page)∧w'.cell? (J w.heap.size 1 E)=D (o C m.size)∧w'.cell? (J w.heap.size 2 E)=D (o C m.frame)∧w'.cell? (J w.heap.size 3 E)=D (o C m.rights)))
 have cl:=h2.right.lt;have ml:=h2.right.right.lt;have hd:=h2.drew;have xd:=x1.drew;go_region_held3 (fun w'=>w'.cell? (J b 2 E)=D (.slice y.A y.ps.length y.c)∧w'.cell? (J b 3 E)=D (.pointer (D (J y.sh 0 E)))∧w'.cell? (J w.heap.size 0 E)=D (o C m.page)∧w'.cell? (J w.heap.size 1 E)=D (o C m.size)∧w'.cell? (J w.heap.size 2 E)=D (o C m.frame)∧w'.cell? (J w.heap.size 3 E)=D (o C m.rights)) (first|(with_reducible exact HK.out _ _ _ hd)|(with_reducible exact HK.out _ _ _ h5)|go_keep) (first|(go_at_call 156;(with_reducible refine(HP.out _ _ hd).mono ?_);rintro e w5 ⟨rfl,h5,x5⟩))
 all_goals
  have h6:O w5 (aa (w.heap.size+1) #[o C 0,U F,o C 0,o C 0,o C 0,U F] 36*(aa w.heap.size #[o C m.page,o C m.size,o C m.frame,o C m.rights] 39*(aa b #[.pointer (D (J y.f 0 E)),o C 0,.slice y.A y.ps.length y.c,.pointer (D (J y.sh 0 E)),U N,.slice G g.length gd] 114*(cj (.slice y.A y.ps.length y.c) y.ps*(ao (.slice G g.length gd) g*(aI y.sh m (eM y.ps.length)*(aU y.ps σ.cs*(dn y.f σ.s*R)))))))):=h5.eq (by ac_rfl);have x6:=xd.trans x5;clear hd xd h5 x5 h2 x1 HK HP;obtain⟨c0,c1,c2,c3,c4,c5⟩:=h6.cells6;obtain⟨f0,f1,f2,f3,f4,f5⟩:=h6.frees6;have el:=h6.lt;go_wp2_with fail
  refine ak (fun wz=>O wz (aa (w.heap.size+1) #[o C 0,U F,o C 0,o C 0,o C 0,U F] 36*(aa w.heap.size #[o C m.page,o C m.size,o C m.frame,o C m.rights] 39*(aa b #[.pointer (D (J y.f 0 E)),o C 0,.slice y.A y.ps.length y.c,.pointer (D (J y.sh 0 E)),U N,.slice G g.length gd] 114*(cj (.slice y.A y.ps.length y.c) y.ps*(ao (.slice G g.length gd) g*(aI y.sh m (eM y.ps.length)*(aU y.ps σ.cs*(dn y.f σ.s*R))))))))∧Ext w wz) ⟨h6.set6 _ _ _ _ _ _,ah⟩ ?_;rintro wz ⟨hz,xz⟩;exact ag (aD results99 rfl (aN hz)) rfl ⟨rfl,HS.out _ hz.right.right,xz⟩
theorem vD(p XA XR:Nat)(L:List Y)(a:Ac)(r:An)(hl:a4 L)(ha:cL a.page)(R:ab)(w:S)(h:O w (bq p L*(aa XA #[o C a.page,o C a.kind,U a.user] 41*(aa XR #[o C r.fin,o C r.frame,o C r.rights] 34*R)))):
  af prog 144 #[.pointer (D (J p 0 E)),.pointer (D (J XA 0 E)),.pointer (D (J XR 0 E))] w (b0 (U (decide (V L a=r))) w):=by
 have HA:=I (fun u=>tH p L a _ _ hl ha (h.via u));obtain⟨c0,c1,c2⟩:=h.right.cells3;obtain⟨d0,d1,d2⟩:=h.right.right.cells3;have v0:=ae c0;have v1:=ae c1;have v2:=ae c2;have u0:=ae d0;have u1:=ae d1;have u2:=ae d2;unfold An.val at HA;clear h c0 c1 c2 d0 d1 d2;obtain⟨r0,r1,r2⟩:=r;dsimp only at*
 generalize V L a=z at*
 obtain⟨z0,z1,z2⟩:=z;dsimp only at*
 by_cases he:(⟨z0,z1,z2⟩:An)=⟨r0,r1,r2⟩
 ·rw[decide_eq_true he]
  injection he with e0 e1 e2
  subst e0;subst e1;subst e2;go_enter func144,ntmps144;go_wp2_with fail
  refine ap (by kernel_rfl) (by kernel_rfl) ?_;repeat(first|go_big_quiet_step ((go_at_call 145;exact Pure.via (HA.out _)))|quiet_step ((go_at_call 145;exact Pure.via (HA.out _))))
  refine wpQuiet_nil ?_;intro _ hw';obtain⟨uq,hw''⟩:=hw';subst hw'';go_wp2_with fail
  go_ret;exact⟨by simp,aB _ _⟩
 ·rw[decide_eq_false he]
  have hd:(z0==r0)=F∨(z1==r1)=F∨(z2==r2)=F:=by
   by_cases e0:z0=r0
   ·by_cases e1:z1=r1
    ·right;right
     have:z2≠r2:=fun e2=>he (by rw[e0,e1,e2]);simpa using this
    ·right;left;simpa using e1
   ·left;simpa using e0
  clear he;rcases hd with hd|hd|hd
  ·go_enter func144,ntmps144
   go_wp2_with fail
   refine ap (by kernel_rfl) (by kernel_rfl) ?_;repeat(first|go_big_quiet_step ((go_at_call 145;exact Pure.via (HA.out _)))|quiet_step ((go_at_call 145;exact Pure.via (HA.out _))))
   refine wpQuiet_nil ?_;intro _ hw';obtain⟨uq,hw''⟩:=hw';subst hw'';go_wp2_with fail
   go_ret;exact⟨by simp,aB _ _⟩
  ·go_enter func144,ntmps144
   go_wp2_with fail
   refine ap (by kernel_rfl) (by kernel_rfl) ?_;repeat(first|go_big_quiet_step ((go_at_call 145;exact Pure.via (HA.out _)))|quiet_step ((go_at_call 145;exact Pure.via (HA.out _))))
   refine wpQuiet_nil ?_;intro _ hw';obtain⟨uq,hw''⟩:=hw';subst hw'';go_wp2_with fail
   go_ret;exact⟨by simp,aB _ _⟩
  ·go_enter func144,ntmps144
   go_wp2_with fail
   refine ap (by kernel_rfl) (by kernel_rfl) ?_;repeat(first|go_big_quiet_step ((go_at_call 145;exact Pure.via (HA.out _)))|quiet_step ((go_at_call 145;exact Pure.via (HA.out _))))
   refine wpQuiet_nil ?_;intro _ hw';obtain⟨uq,hw''⟩:=hw';subst hw'';go_wp2_with fail
   go_ret;exact⟨by simp,aB _ _⟩
structure xU (w:S) (g i0:Nat) (ps:List Nat):Prop where
 at_:∀j p,ps[j]? =D p→w.cell? ⟨g,i0+j,E⟩=D (.pointer (D (J p 0 E)))
 lt:ps≠[]→g<w.heap.size
theorem vE(XA XR g i0 c:Nat)(ps:List Nat)(Hs:List (List Y))(a:Ac)(r:An)(ha:cL a.page)(hlen:ps.length=Hs.length)(hsm:ps.length≤1000000)(hok:∀L∈Hs,a4 L)
  (hwas:(Hs.any fun L=>decide (V L a=r))=N) (R:ab) (w:S) (hb:xU w g i0 ps) (h:O w (bc ps Hs*(aa XA #[o C a.page,o C a.kind,U a.user] 41*(aa XR #[o C r.fin,o C r.frame,o C r.rights] 34*R)))):
  af prog 179 #[.slice (D (J g i0 E)) ps.length c,.func (.func 144) #[] #[.pointer (D (J XA 0 E)),.pointer (D (J XR 0 E))]] w
   (fun e w'=>∃z:Nat,e= .returned (o C z)∧Below w.heap.size w w'):=by
 have HW:=I hwas;have HO:=I hok;have HBK:=I hb;have HLN:=I hlen;clear hwas hok hb hlen;go_enter func179,ntmps179;go_wp2_with fail
 go_loopw [8] (fun t wr=>∃j:Nat,j≤ps.length∧t=o C j∧Hid (∀k L,k<j→Hs[k]? =D L→V L a≠r)∧Below w.heap.size w wr) (fun t _=>ps.length - (intOf t).toNat)
 case atStart=>exact⟨0,by omega,rfl,I (fun k L hk=>absurd hk (by omega)),Below.refl _ _⟩
 case round=>
  obtain⟨j,hj,rfl,HA,BW⟩:=hrel;by_cases hlt:j<ps.length
  ·obtain⟨p,hp⟩:∃p,ps[j]? =D p:=⟨ps[j],K hlt⟩
   have hjh:j<Hs.length:=by rw[←HLN.out];exact hlt
   obtain⟨L,hL⟩:∃L,Hs[j]? =D L:=⟨Hs[j],K hjh⟩;obtain⟨Q,hQ⟩:=km hp hL;have h2:O wr (bq p L*(aa XA #[o C a.page,o C a.kind,U a.user] 41*(aa XR #[o C r.fin,o C r.frame,o C r.rights] 34*(Q*R)))):=(h.below BW).eq (by rw[hQ];ac_rfl);have HF:=I (vD p XA XR L a r (HO.out L (List.mem_of_getElem? hL)) ha _ wr h2);have c0:=(HBK.out.at_ j p hp);have cw:=(BW.cell (World.block_lt_of_cell? w _ c0)).trans c0;have cl:g<wr.heap.size:=World.block_lt_of_cell? wr _ cw;have BW':=I BW;have HL:=I hL;clear h2 hQ hp hL c0 BW hjh h;by_cases he:V L a=r
   ·rw[decide_eq_true he] at HF
    clear he HA;go_wp2_with(first|(refine HF.out.mono ?_;rintro e w3 ⟨rfl,b3⟩))
    go_ret;exact⟨j,rfl,BW'.out.trans (b3.mono BW'.out.size)⟩
   ·rw[decide_eq_false he] at HF
    have HA2:Hid (∀k L,k<j+1→Hs[k]? =D L→V L a≠r):=I fun k M hk hM=>by
     by_cases hkj:k=j
     ·subst hkj
      rw[HL.out] at hM;injection hM with hM
      subst hM;exact he
     ·exact HA.out k M (by omega) hM
    clear he HA HL;go_wp2_with(first|(refine HF.out.mono ?_;rintro e w3 ⟨rfl,b3⟩))
    go_roundw
    case rel=>exact⟨j+1,by omega,by go_num,HA2,BW'.out.trans (b3.mono BW'.out.size)⟩
    case measure=>simp[intOf];omega
  ·obtain rfl:j=ps.length:=by omega
   exfalso;obtain⟨L,hL,hd⟩:=List.any_eq_true.1 HW.out;obtain⟨k,hk,hkL⟩:=List.getElem_of_mem hL;exact HA.out k L (by rw[HLN.out];exact hk) (by rw[K hk,hkL]) (of_decide_eq_true hd)
theorem rf(XA XR g i0 c:Nat)(ps:List Nat)(Hs:List (List Y))(a:Ac)(r:An)(ha:cL a.page)(hlen:ps.length=Hs.length)(hsm:ps.length≤1000000)(hok:∀L∈Hs,a4 L)
  (hwas:(Hs.any fun L=>decide (V L a=r))=N) (R:ab) (w:S) (hb:xU w g i0 ps) (h:O w (bc ps Hs*(aa XA #[o C a.page,o C a.kind,U a.user] 41*(aa XR #[o C r.fin,o C r.frame,o C r.rights] 34*R)))):
  af prog 143 #[.slice (D (J g i0 E)) ps.length c,.func (.func 144) #[] #[.pointer (D (J XA 0 E)),.pointer (D (J XR 0 E))]] w (b0 (U N) w):=by
 have HI:=I (vE XA XR g i0 c ps Hs a r ha hlen hsm hok hwas R w hb h);clear hlen hok hwas hb h;go_enter func143,ntmps143;go_wp2_with(refine HI.out.mono ?_;rintro e w2 ⟨z,rfl,b2⟩)
 go_ret;exact⟨by simp,b2⟩
theorem lY:∀(i:Nat) (ps:List Nat) (Ls:List (List Y)),ps.length=Ls.length→∃Q,bc ps Ls=Q*bc (ps.drop i) (Ls.drop i)
 |0,ps,Ls,_=>⟨dN True,(fv _).symm⟩
 |i+1,[],Ls,h=>⟨dN True,by
   have:Ls=[]:=List.length_eq_zero_iff.1 h.symm;subst this;exact(fv _).symm⟩
 |i+1,p::ps,[],h=>by simp at h
 |i+1,p::ps,L::Ls,h=>by
  obtain⟨Q,hQ⟩:=lY i ps Ls (by simpa using h);refine⟨bq p L*Q,?_⟩;show bq p L*bc ps Ls=_;rw[hQ];show _=(bq p L*Q)*bc (ps.drop i) (Ls.drop i);ac_rfl
theorem vF(b sp:Nat)(H:List (List Y))(f:Nat)(since:List Int)(a:Ac)(r:An)(i:Nat)(ha:cL a.page)(hi:i<H.length)(hH:H.length≤1000000)(hok:∀L∈H,a4 L)(hwas:sD H i a r=N)(R:ab)(w:S)(h:O w (aZ b sp H f since*R)):
  af prog 86 #[.pointer (D (J b 0 E)),.agg #[o C a.page,o C a.kind,U a.user],.agg #[o C r.fin,o C r.frame,o C r.rights],o C i] w (b0 (U N) w):=by
 have hold:=aT w;obtain⟨y,hy,h⟩:=dU h;obtain⟨yA,yc,ybs,yG,yd,yz⟩:=y;dsimp only at*
 have hib:i<ybs.length:=by omega
 have h0:=(h.new #[o C a.page,o C a.kind,U a.user] 41).new #[o C r.fin,o C r.frame,o C r.rights] 34;simp only[ad] at h0;have g0:O _ (bS w w.heap.size):=((hold.new #[o C a.page,o C a.kind,U a.user] 41).new #[o C r.fin,o C r.frame,o C r.rights] 34).right.right;have x0:=((Ext.refl w).alloc (.cells #[o C a.page,o C a.kind,U a.user] 41)).alloc (.cells #[o C r.fin,o C r.frame,o C r.rights] 34);unfold cN at h0;dsimp only at h0;have h1:O _ (aa b #[.pointer (D (J sp 0 E)),.slice yA ybs.length yc,o C f,.slice yG since.length yd,o C 0,o C 0,o C yz] 82*(dt (.slice yA ybs.length yc) ybs*(bc ybs H*(aa w.heap.size #[o C a.page,o C a.kind,U a.user] 41*(aa (w.heap.size+1) #[o C r.fin,o C r.frame,o C r.rights] 34*(ao (.slice yG since.length yd) since*R)))))):=h0.eq (by ac_rfl);obtain⟨bA,hA,lA,cA⟩:=nJ h1.right (K hib);subst hA;have hcap:ybs.length≤yc:=by
  rcases(Has.rowCases (e:=150) (size:=1) h1.right) with ⟨hv,_⟩|⟨g,cap,cur,hv,hn,_⟩
  ·cases hv
  ·injection hv with _ _ hc
   omega
 obtain⟨Q,hQ⟩:=lY i ybs H hy;have HB:xU ((w.alloc (.cells #[o C a.page,o C a.kind,U a.user] 41)).alloc (.cells #[o C r.fin,o C r.frame,o C r.rights] 34)) bA i (ybs.drop i):=⟨fun j p hj=>by
  rw[List.getElem?_drop] at hj;obtain⟨b2,e2,_,q2⟩:=nJ h1.right hj;injection e2 with e2;injection e2 with e2
  subst e2;exact q2,fun _=>lA⟩
 have hl:(ybs.drop i).length =ybs.length - i:=List.length_drop;have HC:=I (rf w.heap.size (w.heap.size+1) bA i (yc - i) (ybs.drop i) (H.drop i) a r ha (by simp[hy]) (by rw[hl];omega) (fun L hL=>hok L (List.mem_of_mem_drop hL)) hwas _ _ HB (h1.right.right.eq (show _=bc (ybs.drop i) (H.drop i)*(aa w.heap.size #[o C a.page,o C a.kind,U a.user] 41*(aa (w.heap.size+1) #[o C r.fin,o C r.frame,o C r.rights] 34*(Q*(ao (.slice yG since.length yd) since*R)))) by rw[hQ];ac_rfl)));rw[hl] at HC;have c1:=h1.cell 1;have cl:=h1.lt;have hci:¬yc=i:=by omega
 have hib':(i:Int)≤ybs.length:=by omega
 have hcap':(ybs.length:Int)≤yc:=by omega
 have hsm:ybs.length≤1000000:=by omega
 clear hwas hok hQ HB hl hy h h0 h1 cA hH hi hold;go_enter func86,ntmps86;go_wp2_with(refine HC.out.mono ?_;rintro e w2 ⟨rfl,b2⟩)
 go_ret;exact⟨rfl,aq (g0.below b2) (x0.below b2)⟩
end Go.Proofs.YtmfheghbgihdmaaGreat
