/- What holds of a space behind each step: its tables are a tree, walks stand in it, lines say what is mapped or was till now; plain law, with no program in sight. -/
import Derived.Test.YtmfheghbgihdmaaGreatDoorInsM2
import Derived.Test.YtmfheghbgihdmaaGreatDoorWalkM2
import Derived.Test.YtmfheghbgihdmaaGreatDoorPage
import Derived.Test.YtmfheghbgihdmaaGreatDoorTblM3
import Derived.Test.YtmfheghbgihdmaaGreatDoorEntBits
namespace Go.Proofs.YtmfheghbgihdmaaGreatDoor
open Bool renaming true→o,false→v
open Go.Proofs.YtmfheghbgihdmaaGreatDoor.Sc renaming change→A,put_len→D,core_ok→F,act→N,evict→O,new→Q,walk→T,ack→U,access→ad
open Option renaming some→B
open Go.Proofs.YtmfheghbgihdmaaGreatDoor renaming Stp→C,over→E,Mp→G,Sc→S,OnTree→V,Ms→Y,Wf→Z
open List renaming getElem?_eq_some_iff→I,getElem?_eq_getElem→J,length_append→R
open Go.RowKit
structure uW (σ:S) (P:List G) (k:Nat) (c:Cr):Prop where
 walk:c.k.on=o→V σ.s 0 c.k∨(σ.wait k=o∧Lost σ.s 0 σ.gone c.k)
 line:∀x∈c.l,Kept σ.s 0 x∨(σ.wait k=o∧ey x.m σ.told=o∧Bk.find P x.m.page=B x.m)
structure Safe (σ:S) (P:List G):Prop where
 ok:σ.Ok
 wf:Z σ.s 0 σ.gone (fun _=>False)
 quiet:σ.busy=v→σ.gone=[]∧∀i,σ.wait i=v
 busy:σ.busy=o→∃i,i<σ.cs.length∧σ.wait i=o
 core:∀k c,σ.cs[k]? =B c→uW σ P k c
 prev:Bk.Ok P
namespace Safe
variable {σ:S} {P:List G}
theorem at_core{σ:S}{k:Nat}(hk:k<σ.cs.length):σ.cs[k]? =B (σ.core k):=by
 unfold Sc.core;rw[List.getD_eq_getElem?_getD,J hk];rfl
theorem set_core{cs:List Cr}{k j:Nat}{c x:Cr}(h:(cs.set k c)[j]? =B x):(j=k∧x=c)∨(j≠k∧cs[j]? =B x):=by
 rw[List.getElem?_set] at h;split at h
 ·rename_i hkj
  subst hkj;split at h
  ·injection h with h;exact .inl ⟨rfl,h.symm⟩
  ·cases h
 ·rename_i hkj
  exact .inr ⟨fun e=>hkj e.symm,h⟩
theorem evict(h:Safe σ P){k:Nat}(hk:k<σ.cs.length):Safe (σ.evict k).1 P:=by
 unfold O;split
 ·exact h
 ·have hc:=F h.ok k
  have hi:=h.core k _ (at_core hk);refine⟨h.ok.put k hc.1.evict hc.2,h.wf,h.quiet,fun hb=>by have:=h.busy hb;rwa [D],fun j c hj=> ?_,h.prev⟩;rcases set_core hj with ⟨rfl,rfl⟩|⟨hne,hj⟩
  ·exact⟨hi.walk,fun x hx=>hi.line x (List.mem_of_mem_tail hx)⟩
  ·exact⟨(h.core j c hj).walk,(h.core j c hj).line⟩
theorem begin_tree(s:Y)(k:Ck)(a:Ac):V s 0 (k.begin 0 a):=⟨0,by omega,rfl,rfl⟩
theorem access(h:Safe σ P){k:Nat}(hk:k<σ.cs.length)(a:Ac):Safe (σ.access k a).1 P:=by
 have hc:=F h.ok k;have hi:=h.core k _ (at_core hk);refine⟨h.ok.put k hc.1 (vv hc.2),h.wf,h.quiet,fun hb=>by have:=h.busy hb;unfold ad;rwa [D],fun j c hj=> ?_,h.prev⟩;rcases set_core hj with ⟨rfl,rfl⟩|⟨hne,hj⟩
 ·refine⟨fun hon=> ?_,hi.line⟩
  show V σ.s 0 (dv _ 0 _ a).c ∨_;unfold dv at hon⊢;split;· rename_i hx;rw[if_pos hx] at hon;exact hi.walk hon
  rename_i hx;rw[if_neg hx] at hon;split;· rename_i hy;rw[if_pos hy] at hon;exact hi.walk hon
  rename_i hy;rw[if_neg hy] at hon;cases hh:mS (σ.core j).l a with
  |some r=>rw[hh] at hon;exact hi.walk hon
  |none=>exact .inl (begin_tree _ _ _)
 ·exact⟨(h.core j c hj).walk,(h.core j c hj).line⟩
theorem keep_mem{l:List Ln}{r:Rs}{x:Ln}(h:x∈iz l r):x∈l∨(r.fin=o∧r.an.fin=0∧x=r.ln):=by
 unfold iz at h;split at h
 ·rename_i hr
  unfold Tl.put at h;split at h
  ·rw[List.mem_append] at h
   rcases h with h|h
   ·exact .inl ((List.mem_filter.1 ((Tl.room_sub _).subset h)).1)
   ·simp at h
    exact .inr ⟨hr.1,hr.2,h⟩
  ·exact .inl h
 ·exact .inl h
theorem step_off{s:Y}{r:Int}{k:Ck}(h:k.on=v):be s r k=⟨k,s,Rs.zero,9⟩:=by unfold be;rw[if_pos h]
theorem keep_zero(l:List Ln):iz l Rs.zero=l:=by unfold iz;rw[if_neg (by simp[Rs.zero])]
theorem walk_stepIn(h:Safe σ P){k:Nat}(hk:k<σ.cs.length)(hon:(σ.core k).k.on =o):oH σ.s 0 σ.gone (σ.core k).k (be σ.s 0 (σ.core k).k):=by
 have hc:=F h.ok k;exact tf h.wf h.ok.s.inv hc.2 hon (((h.core k _ (at_core hk)).walk hon).imp id (fun x=>x.2))
theorem walk(h:Safe σ P){k:Nat}(hk:k<σ.cs.length):Safe (σ.walk k).1 P:=by
 have hc:=F h.ok k;have hi:=h.core k _ (at_core hk);cases hon:(σ.core k).k.on with
 |false=>
  unfold T;rw[step_off hon,keep_zero];refine⟨⟨h.ok.s,(h.ok.put k hc.1 hc.2).c,(h.ok.put k hc.1 hc.2).few,(h.ok.put k hc.1 hc.2).one,(h.ok.put k hc.1 hc.2).w,h.ok.told⟩,h.wf,h.quiet,fun hb=>by have:=h.busy hb;rwa [show({σ.put k ⟨(σ.core k).l,(σ.core k).k⟩ with s:=σ.s}:S).cs.length =σ.cs.length from D _ _ _],fun j c hj=> ?_,h.prev⟩;rcases set_core hj with ⟨rfl,rfl⟩|⟨hne,hj⟩
  ·exact⟨hi.walk,hi.line⟩
  ·exact⟨(h.core j c hj).walk,(h.core j c hj).line⟩
 |true=>
  have hs:=h.walk_stepIn hk hon;have hpu:=h.ok.put k (c:=⟨iz (σ.core k).l (be σ.s 0 (σ.core k).k).r,(be σ.s 0 (σ.core k).k).c⟩) (vw hc.1 _) (hc.2.step _ _);refine⟨⟨⟨hs.inv,by rw[show(σ.walk k).1.s.n=σ.s.n from hs.mark.n];exact h.ok.s.small⟩,hpu.c,hpu.few,hpu.one,hpu.w,h.ok.told⟩,hs.wf,h.quiet,fun hb=> ?_,fun j c hj=> ?_,h.prev⟩
  ·have:=h.busy hb
   rwa [show(σ.walk k).1.cs.length=σ.cs.length from D _ _ _]
  ·rcases set_core hj with ⟨rfl,rfl⟩|⟨hne,hj⟩
   ·refine⟨fun hon'=> ?_,fun x hx=> ?_⟩
    ·rcases hs.fin with hf|hf
     ·have:((σ.core j).k.idle).on =o:=by rw[←hf.off];exact hon'
      cases this
     ·left
      show V (be σ.s 0 (σ.core j).k).s 0 _;rw[hf.same];exact hf.tree
    ·rcases keep_mem hx with hx|⟨h1,h2,h3⟩
     ·rcases hi.line x hx with hl|hl
      ·exact .inl (hl.mark hs.mark)
      ·exact .inr hl
     ·rcases hs.fin with hf|hf
      ·rw[h3];exact .inl (hf.kept h2).1
      ·rw[hf.z] at h1;cases h1
   ·have hj':=h.core j c hj
    refine⟨fun hon'=> ?_,fun x hx=> ?_⟩
    ·have hp:=dY ((h.ok.c c (List.mem_of_getElem? hj)).2.acc hon')
     rcases hj'.walk hon' with hl|hl
     ·exact .inl (hl.mark hp hs.mark)
     ·exact .inr ⟨hl.1,hl.2.mark hp hs.mark⟩
    ·rcases hj'.line x hx with hl|hl
     ·exact .inl (hl.mark hs.mark)
     ·exact .inr hl
theorem overB_false{ws:Nat→Bool}(h:ga ws=v):∃i,i<4∧ws i=o:=by
 unfold ga at h;cases h0:ws 0 with
 |true=>exact⟨0,by omega,h0⟩
 |false=>
  cases h1:ws 1 with
  |true=>exact⟨1,by omega,h1⟩
  |false=>
   cases h2:ws 2 with
   |true=>exact⟨2,by omega,h2⟩
   |false=>
    cases h3:ws 3 with
    |true=>exact⟨3,by omega,h3⟩
    |false=>rw[h0,h1,h2,h3] at h;cases h
theorem ack_ne(ws:Nat→Bool){k j:Nat}(h:j≠k):fv ws k j=ws j:=by unfold fv;rw[if_neg h]
theorem heed_core(h:Safe σ P){k:Nat}(hk:k<σ.cs.length):∀j c,(σ.heed k).cs[j]? =B c→uW (σ.heed k) P j c:=by
 intro j c hj;have hi:=h.core k _ (at_core hk);rcases set_core hj with ⟨rfl,rfl⟩|⟨hne,hj⟩
 ·refine⟨fun hon=> .inl ?_,fun x hx=> .inl ?_⟩
  ·have hon':(σ.core j).k.on =o:=by
    unfold Ck.again at hon;split at hon
    ·assumption
    ·exact hon
   exact(mA σ.s 0 hon').1
  ·rcases hi.line x ((List.mem_filter.1 hx).1) with hl|hl
   ·exact hl
   ·have:=Tl.drop_apart _ _ x hx
    rw[hl.2.1] at this;cases this
 ·have hj':=h.core j c hj
  refine⟨fun hon=>(hj'.walk hon).imp id fun hl=>⟨(ack_ne _ hne).trans hl.1,hl.2⟩,fun x hx=>(hj'.line x hx).imp id fun hl=>⟨(ack_ne _ hne).trans hl.1,hl.2⟩⟩
theorem heed_ok(h:Safe σ P)(k:Nat):(σ.heed k).Ok :=by
 have hc:=F h.ok k;have hp:=h.ok.put k (c:=⟨Tl.drop (σ.core k).l σ.told,(σ.core k).k.again 0⟩) (hc.1.drop _) (hc.2.again 0);refine⟨h.ok.s,hp.c,hp.few,hp.one,fun i hi=> ?_,h.ok.told⟩;have:=h.ok.w i (by have e:(σ.heed k).cs.length =σ.cs.length:=List.length_set ..;omega);show fv σ.wait k i=v;unfold fv;split
 ·rfl
 ·exact this
theorem ack(h:Safe σ P){k:Nat}(hk:k<σ.cs.length):Safe (σ.ack k).1 P:=by
 unfold U;split
 ·exact h
 rename_i hwk;have hwk:σ.wait k=o:=by simpa using hwk
 have hb:σ.busy=o:=by
  cases hb:σ.busy with
  |true=>rfl
  |false=>rw[(h.quiet hb).2 k] at hwk;cases hwk
 have hlen:(σ.heed k).cs.length =σ.cs.length:=List.length_set ..;have hok:=h.heed_ok k;have hcore:=h.heed_core hk;split
 ·rename_i ho
  have hz:∀i,(σ.heed k).wait i=v:=by
   intro i;obtain⟨a0,a1,a2,a3⟩:=nJ ho;by_cases hi:i<4
   ·match i,hi with
    |0,_=>exact a0
    |1,_=>exact a1
    |2,_=>exact a2
    |3,_=>exact a3
   ·exact hok.w i (by have:=hok.few;omega)
  have hwf:Z (bK σ.s σ.gone) 0 [] (fun _=>False):=h.wf.give h.ok.s.inv;obtain⟨g1,g2,_⟩:=iu σ.gone σ.s h.ok.s.inv;refine⟨⟨⟨g1,by show(bK σ.s σ.gone).n ≤128;rw[g2];exact h.ok.s.small⟩,hok.c,hok.few,hok.one,hok.w,hok.told⟩,hwf,fun _=>⟨rfl,hz⟩,fun hx=>(by cases hx),fun j c hj=> ?_,h.prev⟩;have hj':=hcore j c hj;refine⟨fun hon=> ?_,fun x hx=> ?_⟩
  ·rcases hj'.walk hon with hl|hl
   ·obtain⟨d,hd,hlv,ht⟩:=hl
    have hp:=dY ((hok.c c (List.mem_of_getElem? hj)).2.acc hon);exact .inl ⟨d,hd,hlv,(fS h.wf h.ok.s.inv hp d (by omega)).trans ht⟩
   ·rw[hz j] at hl;cases hl.1
  ·rcases hj'.line x hx with hl|hl
   ·have e:=pP h.wf h.ok.s.inv hl.inP
    exact .inl ⟨hl.inP,(eh e).trans hl.map,by show(bo (bK σ.s σ.gone) 0 _).e.used =o;rw[e];exact hl.used,fun hd=>by show(bo (bK σ.s σ.gone) 0 _).e.dirty =o;rw[e];exact hl.dirty hd⟩
   ·rw[hz j] at hl;cases hl.1
 ·rename_i ho
  refine⟨hok,h.wf,fun hx=>(by rw[show(σ.heed k).busy =σ.busy from rfl,hb] at hx;cases hx),fun _=> ?_,hcore,h.prev⟩;obtain⟨i,_,hi⟩:=overB_false (by simpa using ho);refine⟨i,?_,hi⟩;refine Decidable.byContradiction fun hn=> ?_;have hn:¬i< (σ.heed k).cs.length :=hn;rw[hok.w i (by omega)] at hi;cases hi
theorem lk(h:Safe σ P):Lk σ.s 0 (cJ σ.s 0):=(fE h.wf).2.1
theorem findM_ok{s:Y}{g:List Int}{X:Int→Prop}(hw:Z s 0 g X){p:Int}(hf:bm s 0 p=0):ba s 0 p=B (bJ s 0 p)∧MapOk (bJ s 0 p)∧cH p:=by
 obtain⟨d,t,he,hl,hwe,hm,h3,ho⟩:=hw.found hf;exact⟨hm,(hw.self (fJ hf) hm).2,fJ hf⟩
theorem mapOk_ok{m:G}(h:MapOk m):m.ok:=by
 have:=h.p0;have:=h.p1;have:=h.sp;have:=h.f0;have:=h.f1;have:=h.r0;have:=h.r7;refine⟨?_,?_,?_,?_⟩<;>unfold bX
 ·omega
 ·rcases h.size with ⟨a,_⟩|⟨a,_⟩|⟨a,_⟩<;>omega
 ·omega
 ·omega
theorem stale{P:List G}{s:Y}{x:Ln}{m:G}(hL:Lk s 0 P)(hk:Kept s 0 x)(ho:E m x.m.page=o):ey x.m m=o∧Bk.find P x.m.page=B x.m:=
 ⟨by unfold ey;rw[ho];simp,(hL.same _ hk.inP).trans hk.map⟩
def prevOf(σ:S)(P:List G)(x:C):List G:=if σ.busy=v∧(x.kind=2∨x.kind=3)∧(σ.change x).2.code=0 then cJ σ.s 0 else P
theorem post_wait{n i:Nat}(h:i<n):fA n i=o:=by unfold fA;simp[h]
theorem change(h:Safe σ P)(x:C)(hx:1≤x.kind∧x.kind≤3):Safe (σ.change x).1 (prevOf σ P x):=by
 cases hb:σ.busy with
 |true=>
  have e1:(σ.change x).1=σ:=by unfold A;rw[if_pos hb]
  have e2:prevOf σ P x=P:=by unfold prevOf;rw[if_neg (by rw[hb];simp)]
  rw[e1,e2];exact h
 |false=>
  obtain⟨hg,hwt⟩:=h.quiet hb;have hwf:=h.wf;rw[hg] at hwf;have hL:=h.lk;have hLok:Bk.Ok (cJ σ.s 0):=hL.ok;have hfew:=h.ok.few;have hone:=h.ok.one;by_cases h1:x.kind=1
  ·have e1:(σ.change x).1={σ with s:=eB σ.s 0 x.m}:=by unfold A;rw[if_neg (by rw[hb];simp),if_pos h1]
   have e2:prevOf σ P x=P:=by unfold prevOf;rw[if_neg (by omega)]
   rw[e1,e2];obtain⟨w1,w2,w3,w4⟩:=oM hwf h.ok.s.inv h.ok.s.small x.m;refine⟨⟨⟨w2,by show(eB σ.s 0 x.m).n ≤128;rw[w3];exact h.ok.s.small⟩,h.ok.c,h.ok.few,h.ok.one,h.ok.w,h.ok.told⟩,by show Z (eB σ.s 0 x.m) 0 σ.gone _;rw[hg];exact w1,fun _=>⟨hg,hwt⟩,fun hbb=>(by rw[show({σ with s:=eB σ.s 0 x.m}:S).busy =σ.busy from rfl,hb] at hbb;cases hbb),fun j c hj=> ?_,h.prev⟩;have hj':=h.core j c hj;refine⟨fun hon=> ?_,fun y hy=> ?_⟩
   ·have hp:=dY ((h.ok.c c (List.mem_of_getElem? hj)).2.acc hon)
    rcases hj'.walk hon with ⟨d,hd,hlv,ht⟩|hl
    ·exact .inl ⟨d,hd,hlv,uN hwf h.ok.s.inv h.ok.s.small x.m hp hd ht⟩
    ·rw[hwt j] at hl;cases hl.1
   ·rcases hj'.line y hy with hl|hl
    ·have e:=(w4 _ hl.inP).2.1 (by rw[hl.map];simp)
     exact .inl ⟨hl.inP,(eh e).trans hl.map,by show(bo (eB σ.s 0 x.m) 0 _).e.used =o;rw[e];exact hl.used,fun hd=>by show(bo (eB σ.s 0 x.m) 0 _).e.dirty =o;rw[e];exact hl.dirty hd⟩
    ·rw[hwt j] at hl;cases hl.1
  by_cases h2:x.kind=2
  ·by_cases hf:bm σ.s 0 x.m.page=0
   ·have e0:σ.change x=(σ.post (dn σ.s 0 x.m.page) (bJ σ.s 0 x.m.page) (gR σ.s 0 x.m.page),.no 0):=by unfold A;rw[if_neg (by rw[hb];simp),if_neg h1,if_pos h2,if_pos hf]
    have e2:prevOf σ P x=cJ σ.s 0:=by unfold prevOf;rw[if_pos ⟨hb,.inl h2,by rw[e0];rfl⟩]
    rw[e0,e2];obtain⟨w1,w2,w3,w4,w5,w6⟩:=mQ hwf h.ok.s.inv hf;have hgn:(gR σ.s 0 x.m.page).Nodup :=by
     have:=w1.nd;rw[List.append_nil] at this;exact(List.pairwise_reverse.1 this).imp fun h=>h.symm
    have hw':Z (dn σ.s 0 x.m.page) 0 (gR σ.s 0 x.m.page) (fun _=>False):=w1.perm (fun t=>by simp) hgn;obtain⟨f1,f2,f3⟩:=findM_ok hwf hf;refine⟨⟨⟨w2,by show(dn σ.s 0 x.m.page).n ≤128;rw[w3];exact h.ok.s.small⟩,h.ok.c,hfew,hone,fun i hi=> ?_,mapOk_ok f2⟩,hw',fun hbb=>(by cases hbb),fun _=>⟨0,hone,post_wait hone⟩,fun j c hj=> ?_,hLok⟩
    ·show fA σ.cs.length i=v
     have hi:σ.cs.length≤i:=hi;unfold fA;simp;omega
    ·have hj':=h.core j c hj
     have hjl:j<σ.cs.length:=(I.1 hj).1;refine⟨fun hon=> ?_,fun y hy=> ?_⟩
     ·have hp:=dY ((h.ok.c c (List.mem_of_getElem? hj)).2.acc hon)
      rcases hj'.walk hon with ⟨d,hd,hlv,ht⟩|hl
      ·rcases uM hwf h.ok.s.inv hf hp hd ht with ht'|ht'
       ·exact .inl ⟨d,hd,hlv,ht'⟩
       ·exact .inr ⟨post_wait hjl,ht'.1,ht'.2⟩
      ·rw[hwt j] at hl;cases hl.1
     ·rcases hj'.line y hy with hl|hl
      ·by_cases ho:E (bJ σ.s 0 x.m.page) y.m.page=o
       ·obtain⟨s1,s2⟩:=stale hL hl ho
        exact .inr ⟨post_wait hjl,s1,s2⟩
       ·have e:=(w6 _ hl.inP).2 (by simpa using ho) (by rw[hl.map];simp)
        exact .inl ⟨hl.inP,(eh e).trans hl.map,by show(bo (dn σ.s 0 x.m.page) 0 _).e.used =o;rw[e];exact hl.used,fun hd=>by show(bo (dn σ.s 0 x.m.page) 0 _).e.dirty =o;rw[e];exact hl.dirty hd⟩
      ·rw[hwt j] at hl;cases hl.1
   ·have e0:σ.change x=(σ,.no (bm σ.s 0 x.m.page)):=by unfold A;rw[if_neg (by rw[hb];simp),if_neg h1,if_pos h2,if_neg hf]
    have e2:prevOf σ P x=P:=by unfold prevOf;rw[if_neg (by rw[e0];exact fun hh=>hf hh.2.2)]
    rw[e0,e2];exact h
  ·have h3:x.kind=3:=by omega
   by_cases hf:iV σ.s 0 x.m.page x.m.rights=0
   ·have e0:σ.change x=(σ.post (iH σ.s 0 x.m.page x.m.rights) (nu σ.s 0 x.m.page x.m.rights) [],.no 0):=by unfold A;rw[if_neg (by rw[hb];simp),if_neg h1,if_neg h2,if_pos hf]
    have e2:prevOf σ P x=cJ σ.s 0:=by unfold prevOf;rw[if_pos ⟨hb,.inr h3,by rw[e0];rfl⟩]
    rw[e0,e2];obtain⟨w1,w2,w3,w4,w5,w6⟩:=rX hwf h.ok.s.inv hf;have hf0:bm σ.s 0 x.m.page=0:=by
     unfold iV at hf;split at hf
     ·cases hf
     ·exact hf
    have hr:0≤x.m.rights∧x.m.rights≤7:=by
     unfold iV at hf;split at hf
     ·cases hf
     ·omega
    obtain⟨f1,f2,f3⟩:=findM_ok hwf hf0;have em:nu σ.s 0 x.m.page x.m.rights={bJ σ.s 0 x.m.page with rights:=x.m.rights}:=by unfold nu;rw[if_pos hf]
    refine⟨⟨⟨w2,by show(iH σ.s 0 x.m.page x.m.rights).n ≤128;rw[w3];exact h.ok.s.small⟩,h.ok.c,hfew,hone,fun i hi=> ?_,?_⟩,w1,fun hbb=>(by cases hbb),fun _=>⟨0,hone,post_wait hone⟩,fun j c hj=> ?_,hLok⟩
    ·show fA σ.cs.length i=v
     have hi:σ.cs.length≤i:=hi;unfold fA;simp;omega
    ·show(nu σ.s 0 x.m.page x.m.rights).ok
     rw[em];have:=mapOk_ok f2;exact⟨this.1,this.2.1,this.2.2.1,by unfold bX;dsimp only;omega⟩
    ·have hj':=h.core j c hj
     have hjl:j<σ.cs.length:=(I.1 hj).1;refine⟨fun hon=> ?_,fun y hy=> ?_⟩
     ·have hp:=dY ((h.ok.c c (List.mem_of_getElem? hj)).2.acc hon)
      rcases hj'.walk hon with ⟨d,hd,hlv,ht⟩|hl
      ·exact .inl ⟨d,hd,hlv,(wR hwf hf hp d (by omega)).trans ht⟩
      ·rw[hwt j] at hl;cases hl.1
     ·rcases hj'.line y hy with hl|hl
      ·by_cases ho:E (bJ σ.s 0 x.m.page) y.m.page=o
       ·obtain⟨s1,s2⟩:=stale (m:=nu σ.s 0 x.m.page x.m.rights) hL hl (by rw[em];exact ho)
        exact .inr ⟨post_wait hjl,s1,s2⟩
       ·have e:=(w6 _ hl.inP).2 (by simpa using ho)
        exact .inl ⟨hl.inP,(eh e).trans hl.map,by show(bo (iH σ.s 0 x.m.page x.m.rights) 0 _).e.used =o;rw[e];exact hl.used,fun hd=>by show(bo (iH σ.s 0 x.m.page x.m.rights) 0 _).e.dirty =o;rw[e];exact hl.dirty hd⟩
      ·rw[hwt j] at hl;cases hl.1
   ·have e0:σ.change x=(σ,.no (iV σ.s 0 x.m.page x.m.rights)):=by unfold A;rw[if_neg (by rw[hb];simp),if_neg h1,if_neg h2,if_neg hf]
    have e2:prevOf σ P x=P:=by unfold prevOf;rw[if_neg (by rw[e0];exact fun hh=>hf hh.2.2)]
    rw[e0,e2];exact h
theorem prev_not{x:C}(hx:¬(1≤x.kind∧x.kind≤3)):prevOf σ P x=P:=by unfold prevOf;rw[if_neg (by omega)]
theorem act(h:Safe σ P)(x:C):Safe (σ.act x).1 (prevOf σ P x):=by
 unfold N;split
 ·rename_i hx;exact h.change x hx
 rename_i hx;rw[prev_not hx];split;· exact h
 split;· exact h
 rename_i hc;have hk:x.core.toNat<σ.cs.length:=by omega
 split;· exact h.access hk x.a
 split;· exact h.walk hk
 split;· exact h.ack hk
 exact h.evict hk
end Safe
theorem Bk.find_iff{L:List G}(h:Bk.Ok L){q:Int}{m:G}:Bk.find L q=B m↔m∈L∧E m q=o:=by
 constructor
 ·exact Bk.find_mem
 ·rintro⟨hm,ho⟩
  obtain⟨k,hk,rfl⟩:=List.getElem_of_mem hm;exact(Bk.over_at h hk ho).2
section
variable {s:Y} {r:Int} {gone:List Int} {X:Int→Prop} {L:List G}
theorem yY(hw:Z s r gone (fun _=>False))(hi:s.Inv)(hn:s.n≤128)(hL:Lk s r L){x:G}(hc:dm s r x=0):Lk (eB s r x) r (Bk.add L x)∧Bk.addC L x=0:=by
 have hac:Bk.addC L x=0:=by
  rcases vu hw hL x with h|h
  ·rw[hc] at h;cases h.1
  ·rw[←h];exact hc
 refine⟨?_,hac⟩;unfold Bk.addC at hac;by_cases hk:bp x=0
 ·rw[if_neg (by simpa using hk)] at hac
  have hx:=dL hk;have hb:Bk.bad L x=v:=by
   cases hb:Bk.bad L x with
   |false=>rfl
   |true=>rw[hb,if_pos rfl] at hac;cases hac
  have hadd:Bk.add L x=Bk.ins L x:=by unfold Bk.add;rw[if_pos ⟨hk,hb⟩]
  have hok:Bk.Ok (Bk.ins L x):=hL.ok.ins hx hb;rw[hadd];obtain⟨_,_,_,w4⟩:=oM hw hi hn x;refine⟨hok,fun q hq=> ?_⟩;rw[(w4 q hq).1,←hL.same q hq];refine Option.ext fun m=> ?_;rw[Bk.find_iff hok,Bk.mem_ins];by_cases ho:E x q=o
  ·rw[if_pos ⟨hc,ho⟩]
   constructor
   ·rintro⟨rfl|hm,h2⟩
    ·rfl
    ·have:=rT (hL.ok.chk m hm) hx h2 ho
     rw[Bk.bad_false hb m hm] at this;cases this
   ·intro h
    injection h with h
    subst h;exact⟨.inl rfl,ho⟩
  ·rw[if_neg (fun h=>ho h.2),Bk.find_iff hL.ok]
   constructor
   ·rintro⟨rfl|hm,h2⟩
    ·exact absurd h2 ho
    ·exact⟨hm,h2⟩
   ·rintro⟨hm,h2⟩
    exact⟨.inr hm,h2⟩
 ·rw[if_pos hk] at hac
  exact absurd hac hk
theorem pX(hw:Z s r gone (fun _=>False))(hL:Lk s r L){p:Int}(hf:bm s r p=0):cH p∧cN p=o∧Bk.find L p=B (bJ s r p)∧bJ s r p∈L∧E (bJ s r p) p=o:=by
 have hp:=fJ hf;have hB:cN p=o:=by unfold cN;rw[decide_eq_true hp.1,decide_eq_true hp.2];rfl
 obtain⟨d,t,he,hl,hwe,hm,h3,ho⟩:=hw.found hf;have:=(hL.same p hp).trans hm;exact⟨hp,hB,this,Bk.find_mem this⟩
theorem yZ(hw:Z s r gone (fun _=>False))(hi:s.Inv)(hL:Lk s r L){p:Int}(hf:bm s r p=0):Lk (dn s r p) r (Bk.dropL L p):=by
 obtain⟨hp,hB,h1,h2,h3⟩:=pX hw hL hf;have hd:Bk.dropL L p=Bk.del L p:=by unfold Bk.dropL;rw[if_pos hB]
 have hok:Bk.Ok (Bk.del L p):=hL.ok.del p;rw[hd];obtain⟨_,_,_,_,_,w6⟩:=mQ hw hi hf;generalize bJ s r p=M at*
 refine⟨hok,fun q hq=> ?_⟩;rw[(w6 q hq).1,←hL.same q hq];refine Option.ext fun m=> ?_;have one:∀m,m∈L→E m p=o→m=M:=fun m hm ho=>by
  have:=(Bk.find_iff hL.ok).2 ⟨hm,ho⟩;rw[h1] at this;injection this with this
  exact this.symm
 rw[Bk.find_iff hok];unfold Bk.del;rw[List.mem_filter];by_cases ho:E M q=o
 ·rw[if_pos ho]
  constructor
  ·rintro⟨⟨hm,hn⟩,hq'⟩
   have e1:=(Bk.find_iff hL.ok).2 ⟨hm,hq'⟩;have e2:=(Bk.find_iff hL.ok).2 ⟨h2,ho⟩;rw[e1] at e2;injection e2 with e2
   subst e2;rw[h3] at hn;cases hn
  ·intro h;cases h
 ·rw[if_neg ho,Bk.find_iff hL.ok]
  constructor
  ·rintro⟨⟨hm,_⟩,hq'⟩;exact⟨hm,hq'⟩
  ·rintro⟨hm,hq'⟩
   refine⟨⟨hm,?_⟩,hq'⟩;cases hov:E m p with
   |false=>rfl
   |true=>
    rw[one m hm hov] at hq';exact absurd hq' ho
theorem Ad(hw:Z s r gone (fun _=>False))(hi:s.Inv)(hL:Lk s r L){p ri:Int}(hf:iV s r p ri=0):Lk (iH s r p ri) r (Bk.protL L p ri):=by
 have hr:0≤ri∧ri≤7:=by
  unfold iV at hf;split at hf
  ·cases hf
  ·omega
 have hf0:bm s r p=0:=by
  unfold iV at hf;rw[if_neg (by omega)] at hf;exact hf
 obtain⟨hp,hB,h1,h2,h3⟩:=pX hw hL hf0;have hd:Bk.protL L p ri=Bk.prot L p ri:=by unfold Bk.protL;rw[if_pos (Bk.protB_iff.2 ⟨hp.1,hp.2,hr.1,hr.2⟩)]
 have hok:Bk.Ok (Bk.prot L p ri):=hL.ok.prot p hr.1 hr.2;rw[hd];obtain⟨_,_,_,_,_,w6⟩:=rX hw hi hf;generalize bJ s r p=M at*
 refine⟨hok,fun q hq=> ?_⟩;refine Option.ext fun m=> ?_;have one:∀m,m∈L→E m p=o→m=M:=fun m hm ho=>by
  have:=(Bk.find_iff hL.ok).2 ⟨hm,ho⟩;rw[h1] at this;injection this with this
  exact this.symm
 have oneq:E M q=o→∀m,m∈L→E m q=o→m=M:=fun hq' m hm ho=>by
  have e1:=(Bk.find_iff hL.ok).2 ⟨hm,ho⟩;have e2:=(Bk.find_iff hL.ok).2 ⟨h2,hq'⟩;rw[e1] at e2;injection e2
 rw[Bk.find_iff hok];unfold Bk.prot;rw[List.mem_map];by_cases ho:E M q=o
 ·rw[((w6 q hq).1 ho).2.1]
  constructor
  ·rintro⟨⟨y,hy,rfl⟩,hq'⟩
   have e:y=M:=by
    by_cases hyp:E y p=o
    ·exact one y hy hyp
    ·rw[if_neg hyp] at hq'
     exact oneq ho y hy hq'
   subst e;rw[if_pos h3]
  ·intro h
   injection h with h
   subst h;exact⟨⟨M,h2,by rw[if_pos h3]⟩,ho⟩
 ·have e:=(w6 q hq).2 (by simpa using ho)
  rw[eh e,←hL.same q hq,Bk.find_iff hL.ok];constructor
  ·rintro⟨⟨y,hy,rfl⟩,hq'⟩
   by_cases hyp:E y p=o
   ·rw[if_pos hyp,one y hy hyp] at hq'
    exact absurd hq' ho
   ·rw[if_neg hyp] at hq'⊢
    exact⟨hy,hq'⟩
  ·rintro⟨hm,hq'⟩
   have hn:¬E m p=o:=fun hov=>by
    rw[one m hm hov] at hq';exact ho hq'
   exact⟨⟨m,hm,by rw[if_neg hn]⟩,hq'⟩
end
theorem pY:∀(n:Nat) (l:List Nat),l.Nodup→(∀k,k<n→k∈l)→n≤l.length
 |0,_,_,_=>Nat.zero_le _
 |n+1,l,nd,h=>by
  have hm:=h n (by omega);have h1:=pY n (l.erase n) (nd.erase n) (fun k hk=>(List.Nodup.mem_erase_iff nd).2 ⟨by omega,h k (by omega)⟩);rw[List.length_erase_of_mem hm] at h1;have:=List.length_pos_of_mem hm;omega
section
variable {s:Y} {gone:List Int} {X:Int→Prop}
theorem uX(hw:Z s 0 gone X){t:Int}(h:rZ s 0 t):0≤t∧t<s.n∧s.tk t.toNat=o:=by
 obtain⟨p,d,hp,hd,ht⟩:=h;exact hw.nat hp hd ht
theorem q9(hw:Z s 0 gone X)(hi:s.Inv):(fi s 0).length +gone.length+s.frees.length=s.n:=by
 obtain⟨_,_,nd,hm⟩:=fE hw;have h0:∀t∈fi s 0,0≤t∧t<s.n∧s.tk t.toNat=o:=fun t ht=>uX hw ((hm t).1 ht);have hg:∀t∈gone,0≤t∧t<s.n∧s.tk t.toNat=o:=fun t ht=>by
  have a:=(hw.gz t ht).1;have b:s.tk t.toNat=o:=(hw.use _).2 (.inr (by rw[Int.toNat_of_nonneg a];exact ht));have:=hi.tkl _ b;have:=hi.le;exact⟨a,by omega,b⟩
 have inj:∀l:List Int,l.Nodup→(∀t∈l,0≤t)→(l.map Int.toNat).Nodup :=by
  intro l;induction l with
  |nil=>intro _ _;exact List.nodup_nil
  |cons x l ih=>
   intro nd h;rw[List.nodup_cons] at nd;rw[List.map_cons,List.nodup_cons];refine⟨fun hx=> ?_,ih nd.2 fun t ht=>h t (List.mem_cons_of_mem _ ht)⟩;obtain⟨y,hy,he⟩:=List.mem_map.1 hx;have h1:=h x (List.mem_cons_self ..);have h2:=h y (List.mem_cons_of_mem _ hy);have:y=x:=by omega
   exact nd.1 (this▸hy)
 have hnd:((fi s 0).map Int.toNat++(gone.map Int.toNat++s.frees)).Nodup :=by
  rw[List.nodup_append,List.nodup_append];refine⟨inj _ nd fun t ht=>(h0 t ht).1,⟨inj _ hw.nd fun t ht=>(hg t ht).1,Ms.frees_nodup hi,?_⟩,?_⟩
  ·intro a ha b hb
   obtain⟨t,ht,rfl⟩:=List.mem_map.1 ha;rintro rfl;have:=((Ms.frees_mem hi _).1 hb).2;rw[(hg t ht).2.2] at this;cases this
  ·intro a ha b hb
   obtain⟨t,ht,rfl⟩:=List.mem_map.1 ha;rintro rfl;rcases List.mem_append.1 hb with hb|hb
   ·obtain⟨u,hu,he⟩:=List.mem_map.1 hb
    have h1:=(h0 t ht).1;have h2:=(hg u hu).1;have:u=t:=by omega
    subst this;exact hw.gt u hu ((hm u).1 ht)
   ·have:=((Ms.frees_mem hi _).1 hb).2
    rw[(h0 t ht).2.2] at this;cases this
 have hall:∀k,k∈(fi s 0).map Int.toNat++(gone.map Int.toNat++s.frees)↔k<s.n:=by
  intro k;rw[List.mem_append,List.mem_append];constructor
  ·rintro(h|h|h)
   ·obtain⟨t,ht,rfl⟩:=List.mem_map.1 h
    have:=h0 t ht;omega
   ·obtain⟨t,ht,rfl⟩:=List.mem_map.1 h
    have:=hg t ht;omega
   ·exact((Ms.frees_mem hi _).1 h).1
  ·intro hk
   cases ht:s.tk k with
   |false=>exact .inr (.inr ((Ms.frees_mem hi _).2 ⟨hk,ht⟩))
   |true=>
    rcases(hw.use k).1 ht with h|h
    ·exact .inl (List.mem_map.2 ⟨k,(hm _).2 h,by simp⟩)
    ·exact .inr (.inl (List.mem_map.2 ⟨k,h,by simp⟩))
 have h1:=kw s.n _ hnd fun x hx=>(hall x).1 hx;have h2:=pY s.n _ hnd fun k hk=>(hall k).2 hk;rw[R,R,List.length_map,List.length_map] at h1 h2;omega
end
theorem mF{n:Nat}(h:1≤n):(Ms.new n).takeS ={n:=n,tk:=ch (fun _=>v) 0 o,wd:=fun a _=>if a=0 then 0 else 0,next:=1,back:=[]}:=by
 have ht:(Ms.new n).top =B 0:=by
  show(if 0<n then B 0 else none)=B 0;rw[if_pos (by omega)]
 unfold Ms.takeS;rw[ht];rfl
theorem mG{n:Nat}(h:1≤n):Z (Ms.new n).takeS 0 [] (fun _=>False):=by
 rw[mF h];generalize hs:({n:=n,tk:=ch (fun _=>v) 0 o,wd:=fun a _=>if a=0 then 0 else 0,next:=1,back:=[]}:Y)=s;have hz:∀t i,ar s t i=0:=fun t i=>by
  subst hs;show(if t.toNat=0 then(0:Int) else 0)=0;split<;>rfl
 have hn:s.n=n:=by subst hs;rfl
 have htk:∀k:Nat,s.tk k=o↔k=0:=fun k=>by
  subst hs;show ch (fun _=>v) 0 o k=o↔k=0;unfold ch;split<;>simp_all
 have hhas:s.has 0=o:=Ms.has_iff.2 ⟨by omega,by omega,(htk _).2 rfl⟩;have hno:∀p d,d≤3→aW s 0 p (d+1)=none:=by
  intro p d hd;cases hh:aW s 0 p d with
  |none=>exact bj hh _ (by omega)
  |some u=>exact cR hh (fq (by omega) (hz _ _))
 have h0:∀p d t,d≤3→aW s 0 p d=B t→d=0∧t=0:=by
  intro p d t hd ht;cases d with
  |zero=>injection ht with ht;exact⟨rfl,ht.symm⟩
  |succ d=>rw[hno p d (by omega)] at ht;cases ht
 refine⟨fun p hp=>⟨0,0,by omega,rfl,hhas,?_,fq (by omega) (hz _ _)⟩,fun p q d e t hp hq hd he h1 h2=> ?_,fun p d t hp hd ht=> ?_,fun k=> ?_,List.nodup_nil,fun g hg=>(by cases hg),fun g hg=>(by cases hg)⟩
 ·rw[hz];exact(dC (by omega)).1
 ·obtain⟨rfl,_⟩:=h0 p d t hd h1
  obtain⟨rfl,_⟩:=h0 q e t he h2;exact⟨rfl,xv hp hq⟩
 ·rw[hno p d (by omega)] at ht;cases ht
 ·rw[htk]
  constructor
  ·rintro rfl
   exact .inl ⟨0,0,⟨by omega,by omega⟩,by omega,rfl⟩
  ·rintro(⟨p,d,_,hd,ht⟩|h)
   ·have:=(h0 p d _ hd ht).2
    omega
   ·cases h
theorem uY{n:Nat}(h:1≤n):Lk (Ms.new n).takeS 0 []:=by
 have hw:=mG h;refine⟨Bk.Ok.nil,fun q hq=> ?_⟩;have hz:∀t i,ar (Ms.new n).takeS t i=0:=fun t i=>by
  rw[mF h];show(if t.toNat=0 then(0:Int) else 0)=0;split<;>rfl
 obtain⟨d,t,he⟩:=hw.ends q hq;rw[aT hq he,iE (by omega) (hz _ _)];rfl
section
variable {s:Y} {L:List G}
theorem drop_head{x:G}(h:Bk.Ok (x::L)):Bk.dropL (x::L) x.page=L∧Bk.dropC (x::L) x.page=0:=by
 have hx:=h.chk x (List.mem_cons_self ..);have hp:=hx.inP;have hB:cN x.page=o:=by unfold cN;rw[decide_eq_true hp.1,decide_eq_true hp.2];rfl
 have ho:E x x.page=o:=dr.2 ⟨by omega,by have:=hx.sp;omega⟩;unfold Bk.dropL Bk.dropC;rw[if_pos hB,if_pos hB];constructor
 ·unfold Bk.del
  rw[List.filter_cons,ho];simp only[Bool.not_true,Bool.false_eq_true,if_false];refine List.filter_eq_self.2 fun y hy=> ?_;have h1:=(List.pairwise_cons.1 h.up).1 y hy;have:=hx.sp;have:E y x.page=v:=cT.2 (.inl (by omega));rw[this];rfl
 ·unfold Bk.find
  rw[List.find?_cons_of_pos (by exact ho)];rfl
end
section
variable {s s':Y} {mk p:Int}
end
def jN(p:Int)(L:Nat):Int:=p / az L*4+L
def tm(l:List Int)(k:Int):List Int:=if k∈l then l else l++[k]
def jn(p:Int):Nat→List Int→List Int
 |0,l=>l
 |n+1,l=>tm (jn p n l) (jN p (3 - n))
def rN(l:List Int)(m:G):List Int:=jn m.page (3 - m.size).toNat l
def iY(l:List G):List Int:=l.foldl rN []
theorem ra{l:List Int}(h:l.Nodup)(k:Int):(tm l k).Nodup :=by
 unfold tm;split
 ·exact h
 ·rename_i hk
  rw[List.nodup_append];exact⟨h,by simp,fun a ha b hb=>by simp at hb;rintro rfl;exact hk (hb▸ha)⟩
theorem uZ{l:List Int}{k x:Int}:x∈tm l k↔x∈l∨x=k:=by
 unfold tm;split
 ·rename_i hk
  constructor
  ·exact .inl
  ·rintro(h|rfl)
   ·exact h
   ·exact hk
 ·simp
theorem mH{p:Int}{l:List Int}(h:l.Nodup):∀n,(jn p n l).Nodup
 |0=>h
 |n+1=>ra (mH h n) _
theorem pZ{p x:Int}{l:List Int}:∀n,x∈jn p n l↔x∈l∨∃i,i<n∧x=jN p (3 - i)
 |0=>by simp[jn]
 |n+1=>by
  show x∈tm _ _↔_;rw[uZ,pZ n];constructor
  ·rintro((h|⟨i,hi,he⟩)|he)
   ·exact .inl h
   ·exact .inr ⟨i,by omega,he⟩
   ·exact .inr ⟨n,by omega,he⟩
  ·rintro(h|⟨i,hi,he⟩)
   ·exact .inl (.inl h)
   ·by_cases hn:i=n
    ·subst hn;exact .inr he
    ·exact .inl (.inr ⟨i,by omega,he⟩)
theorem p4(l:List G):(iY l).Nodup :=by
 have:∀(l:List G) (s:List Int),s.Nodup→(l.foldl rN s).Nodup :=by
  intro l;induction l with
  |nil=>intro s h;exact h
  |cons m l ih=>intro s h;exact ih _ (mH h _)
 exact this l [] List.nodup_nil
theorem nS(l:List G)(x:Int):x∈iY l↔∃m∈l,∃i,i< (3 - m.size).toNat ∧x=jN m.page (3 - i):=by
 have:∀(l:List G) (s:List Int),x∈l.foldl rN s↔x∈s∨∃m∈l,∃i,i< (3 - m.size).toNat ∧x=jN m.page (3 - i):=by
  intro l;induction l with
  |nil=>intro s;simp
  |cons m l ih=>
   intro s;rw[List.foldl_cons,ih];unfold rN;rw[pZ];constructor
   ·rintro((h|h)|⟨m',hm,h⟩)
    ·exact .inl h
    ·exact .inr ⟨m,List.mem_cons_self ..,h⟩
    ·exact .inr ⟨m',List.mem_cons_of_mem _ hm,h⟩
   ·rintro(h|⟨m',hm,h⟩)
    ·exact .inl (.inl h)
    ·rcases List.mem_cons.1 hm with rfl|hm
     ·exact .inl (.inr h)
     ·exact .inr ⟨m',hm,h⟩
 have:=this l [];simpa [iY] using this
theorem kJ{α:Type}[BEq α][LawfulBEq α]:∀(a b:List α),a.Nodup→(∀x,x∈a→x∈b)→a.length≤b.length
 | [],_,_,_=>Nat.zero_le _
 |x::a,b,nd,h=>by
  rw[List.nodup_cons] at nd;have hx:=h x (List.mem_cons_self ..);have h1:=kJ a (b.erase x) nd.2 (fun y hy=>(List.mem_erase_of_ne (by rintro rfl;exact nd.1 hy)).2 (h y (List.mem_cons_of_mem _ hy)));rw[List.length_erase_of_mem hx] at h1;have:=List.length_pos_of_mem hx;simp only[List.length_cons];omega
section
variable {s:Y} {gone:List Int} {L:List G}
theorem x00(hw:Z s 0 gone (fun _=>False)){q:Int}{m:G}(hq:cH q)(hm:ba s 0 q=B m):∃(d:Nat) (t:Int),Ends s 0 q d t∧1≤d∧m.size=((3 - d:Nat):Int)∧m.page=q / az (3 - d)*az (3 - d):=by
 obtain⟨d,t,he⟩:=hw.ends q hq;rw[aT hq he] at hm;split at hm
 ·rename_i hl
  injection hm with hm
  obtain⟨h3,_,_⟩:=he.map hq hl;have hef:ao (cq s q t (3 - d)) ((3 - d:Nat):Int)=0:=(gh he.dec).1;rw[fL hq hef hl (dR h3)] at hm;exact⟨d,t,he,by omega,by rw[←hm],by rw[←hm]⟩
 ·cases hm
theorem mI{q:Int}{a b:Nat}(h:a≤b):q / az a*az a / az b=q / az b:=by
 have e:(q / az a*az a) / az a=q / az a:=Int.mul_ediv_cancel _ (by have:=dE a;omega);exact gQ h e
def gF(s:Y)(k:Int):Int:=(aW s 0 (k / 4*az (k % 4).toNat) (4 - (k % 4).toNat)).getD 0
theorem kK(p:Int){l:Nat}(h:l<4):jN p l / 4=p / az l∧(jN p l % 4).toNat =l:=by
 unfold jN;generalize p / az l=x;omega
theorem kt(hw:Z s 0 gone (fun _=>False))(hL:Lk s 0 L){k:Int}(hk:k∈iY L):∃(p:Int) (l:Nat),cH p∧1≤l∧l≤3∧k=jN p l∧aW s 0 p (4 - l)=B (gF s k):=by
 obtain⟨m,hm,i,hi,rfl⟩:=(nS L k).1 hk;have hp:=(hL.ok.chk m hm).inP;obtain⟨d,t,he,hd1,hsz,hpg⟩:=x00 hw hp (hL.mem hm);have hle:=he.le;have hi':i<d:=by omega
 obtain⟨u,hu⟩:=du he.tab (show i+1≤d by omega);refine⟨m.page,3 - i,hp,by omega,by omega,rfl,?_⟩;have e4:4 - (3 - i)=i+1:=by omega
 rw[e4,hu];obtain⟨k1,k2⟩:=kK m.page (show 3 - i<4 by omega);unfold gF;rw[k1,k2,e4];have h8:=dE (3 - i);have hq:cH (m.page / az (3 - i)*az (3 - i)):=by
  have h1:=Int.ediv_mul_le m.page (show az (3 - i)≠0 by omega);have h2:0≤m.page / az (3 - i)*az (3 - i):=Int.mul_nonneg (Int.ediv_nonneg hp.1 (by omega)) (by omega);exact⟨h2,by have:=hp.2;omega⟩
 have:=bI s 0 hq hp (i+1) (by omega) (by rw[show 4 - (i+1)=3 - i by omega];exact mI (Nat.le_refl _));rw[this,hu];rfl
theorem p5(hw:Z s 0 gone (fun _=>False))(hL:Lk s 0 L):(fi s 0).length =(iY L).length +1:=by
 obtain⟨_,_,nd,hm⟩:=fE hw;have h0:∀t d p,cH p→d≤3→1≤d→aW s 0 p d=B t→t≠0:=by
  rintro t d p hp hd h1 ht rfl;have:=(hw.inj p p d 0 0 hp hp hd (by omega) ht rfl).1;omega
 have hin:∀k k',k∈iY L→k'∈iY L→gF s k=gF s k'→k=k':=by
  intro k k' hk hk' he;obtain⟨p,l,hp,hl1,hl3,rfl,ht⟩:=kt hw hL hk;obtain⟨p',l',hp',hl1',hl3',rfl,ht'⟩:=kt hw hL hk';rw[he] at ht;obtain⟨e1,e2⟩:=hw.inj p p' (4 - l) (4 - l') _ hp hp' (by omega) (by omega) ht ht';have:l=l':=by omega
  subst this;rw[show 4 - (4 - l)=l by omega] at e2;unfold jN;rw[e2]
 have hnd:(0::(iY L).map (gF s)).Nodup :=by
  rw[List.nodup_cons];constructor
  ·intro h
   obtain⟨k,hk,he⟩:=List.mem_map.1 h;obtain⟨p,l,hp,hl1,hl3,_,ht⟩:=kt hw hL hk;exact h0 _ (4 - l) p hp (by omega) (by omega) ht he
  ·have:∀l:List Int,l.Nodup→(∀k∈l,k∈iY L)→(l.map (gF s)).Nodup :=by
    intro l;induction l with
    |nil=>intro _ _;exact List.nodup_nil
    |cons x l ih=>
     intro nd h;rw[List.nodup_cons] at nd;rw[List.map_cons,List.nodup_cons];refine⟨fun hx=> ?_,ih nd.2 fun k hk=>h k (List.mem_cons_of_mem _ hk)⟩;obtain⟨y,hy,he⟩:=List.mem_map.1 hx;have:=hin y x (h y (List.mem_cons_of_mem _ hy)) (h x (List.mem_cons_self ..)) he;exact nd.1 (this▸hy)
   exact this _ (p4 L) fun k hk=>hk
 have hmem:∀t,t∈0::(iY L).map (gF s)↔t∈fi s 0:=by
  intro t;rw[hm];constructor
  ·intro h
   rcases List.mem_cons.1 h with rfl|h
   ·exact⟨0,0,⟨by omega,by omega⟩,by omega,rfl⟩
   ·obtain⟨k,hk,rfl⟩:=List.mem_map.1 h
    obtain⟨p,l,hp,hl1,hl3,_,ht⟩:=kt hw hL hk;exact⟨p,4 - l,hp,by omega,ht⟩
  ·rintro⟨p,d,hp,hd,ht⟩
   cases d with
   |zero=>injection ht with ht;rw[←ht];exact List.mem_cons_self ..
   |succ d=>
    obtain⟨q,hq,hpre,hne⟩:=hw.some_map (2 - d) d (by omega) hp ht;have hqt:aW s 0 q (d+1)=B t:=by
     rw[←ht];exact bI s 0 hq hp (d+1) (by omega) (by rw[show 4 - (d+1)=3 - d by omega];exact hpre)
    cases hmq:ba s 0 q with
    |none=>exact absurd hmq hne
    |some m=>
     obtain⟨e,u,he,he1,hsz,hpg⟩:=x00 hw hq hmq;have hle:=he.le;have hde:d+1≤e:=by
      rcases Nat.lt_or_ge e (d+1) with h|h
      ·have:=bj (cR he.tab he.no) (d+1) h
       rw[hqt] at this;cases this
      ·exact h
     have hmL:m∈L:=by
      have:=hL.same q hq;rw[hmq] at this;exact(Bk.find_mem this).1
     have hk:jN m.page (3 - d)∈iY L:=(nS L _).2 ⟨m,hmL,d,by omega,rfl⟩;refine List.mem_cons_of_mem _ (List.mem_map.2 ⟨_,hk,?_⟩);obtain⟨p',l,hp',hl1,hl3,hke,ht'⟩:=kt hw hL hk;obtain⟨a1,a2⟩:=kK m.page (show 3 - d<4 by omega);obtain⟨b1,b2⟩:=kK p' (show l<4 by omega);rw[hke] at a1 a2;rw[b2] at a2;subst a2;have e4:4 - (3 - d)=d+1:=by omega
     rw[e4] at ht';have hpp:p' / az (3 - d)=q / az (3 - d):=by
      rw[←b1,a1,hpg];exact mI (by omega)
     have:=bI s 0 hp' hq (d+1) (by omega) (by rw[show 4 - (d+1)=3 - d by omega];exact hpp);rw[this,hqt] at ht';injection ht' with ht'
     exact ht'.symm
 have h1:=kJ _ _ hnd fun x hx=>(hmem x).1 hx;have h2:=kJ _ _ nd fun x hx=>(hmem x).2 hx;simp only[List.length_cons,List.length_map] at h1 h2;omega
end
section
variable {s:Y} {L:List G} {n:Nat}
theorem nT(x:G):bp x=0∨bp x=1∨bp x=2∨bp x=3:=by unfold bp;split<;>(try split)<;>(try split)<;>omega
end
def cW(L:List G)(x:C)(c:Int):List G:=
 if c=0∧1≤x.kind∧x.kind≤3 then(if x.kind=1 then Bk.add L x.m else if x.kind=2 then Bk.dropL L x.m.page else Bk.protL L x.m.page x.m.rights) else L
theorem tn{L:List G}{x:C}{c:Int}(h:¬(1≤x.kind∧x.kind≤3)):cW L x c=L:=by unfold cW;rw[if_neg (fun hh=>h hh.2)]
theorem jG{L:List G}{x:C}{c:Int}(h:c≠0):cW L x c=L:=by unfold cW;rw[if_neg (fun hh=>h hh.1)]
theorem p6{L:List G}(h:Bk.Ok L)(x:C)(c:Int):Bk.Ok (cW L x c):=by
 unfold cW;split
 ·split
  ·exact h.add _
  ·split
   ·exact h.dropL _
   ·exact h.protL _ _
 ·exact h
theorem Lk.all{s:Y}{L:List G}{g:List Int}{X:Int→Prop}(hw:Z s 0 g X)(h:Lk s 0 L):cJ s 0=L:=((fE hw).2.1).unique h
theorem Lk.same_maps{s s':Y}{L:List G}(h:Lk s 0 L)(hm:∀q,cH q→ba s' 0 q=ba s 0 q):Lk s' 0 L:=⟨h.ok,fun q hq=>(h.same q hq).trans (hm q hq).symm⟩
namespace Safe
variable {σ:S} {P:List G}
theorem book_walk(h:Safe σ P){k:Nat}(hk:k<σ.cs.length):cJ (σ.walk k).1.s 0=cJ σ.s 0:=by
 cases hon:(σ.core k).k.on with
 |false=>
  unfold T;rw[step_off hon]
 |true=>
  have hs:=h.walk_stepIn hk hon;exact Lk.all hs.wf (h.lk.same_maps hs.mark.map)
theorem book_ack(h:Safe σ P)(k:Nat):cJ (σ.ack k).1.s 0=cJ σ.s 0:=by
 unfold U;split
 ·rfl
 split
 ·show cJ (bK σ.s σ.gone) 0=_
  exact Lk.all (h.wf.give h.ok.s.inv) (h.lk.same_maps fun q hq=>eh (pP h.wf h.ok.s.inv hq))
 ·rfl
theorem book_change(h:Safe σ P)(x:C)(hx:1≤x.kind∧x.kind≤3):cJ (σ.change x).1.s 0=cW (cJ σ.s 0) x (σ.change x).2.code:=by
 cases hb:σ.busy with
 |true=>
  have e:σ.change x=(σ,.no 8):=by unfold A;rw[if_pos hb]
  rw[e,jG (by show(8:Int)≠0;decide)]
 |false=>
  obtain⟨hg,_⟩:=h.quiet hb;have hwf:=h.wf;rw[hg] at hwf;by_cases h1:x.kind=1
  ·have e:σ.change x=({σ with s:=eB σ.s 0 x.m},⟨dm σ.s 0 x.m,v,An.zero,decide (dm σ.s 0 x.m=0)⟩):=by unfold A;rw[if_neg (by rw[hb];simp),if_pos h1]
   rw[e];show cJ (eB σ.s 0 x.m) 0=cW _ x (dm σ.s 0 x.m);by_cases hc:dm σ.s 0 x.m=0
   ·have:cW (cJ σ.s 0) x (dm σ.s 0 x.m)=Bk.add (cJ σ.s 0) x.m:=by unfold cW;rw[if_pos ⟨hc,hx⟩,if_pos h1]
    rw[this];exact Lk.all (oM hwf h.ok.s.inv h.ok.s.small x.m).1 (yY hwf h.ok.s.inv h.ok.s.small h.lk hc).1
   ·rw[jG hc]
    have:eB σ.s 0 x.m=σ.s:=by unfold eB;rw[if_neg hc]
    rw[this]
  by_cases h2:x.kind=2
  ·by_cases hf:bm σ.s 0 x.m.page=0
   ·have e:σ.change x=(σ.post (dn σ.s 0 x.m.page) (bJ σ.s 0 x.m.page) (gR σ.s 0 x.m.page),.no 0):=by unfold A;rw[if_neg (by rw[hb];simp),if_neg h1,if_pos h2,if_pos hf]
    rw[e];show cJ (dn σ.s 0 x.m.page) 0=cW _ x 0;have:cW (cJ σ.s 0) x 0=Bk.dropL (cJ σ.s 0) x.m.page:=by unfold cW;rw[if_pos ⟨rfl,hx⟩,if_neg h1,if_pos h2]
    rw[this];exact Lk.all (mQ hwf h.ok.s.inv hf).1 (yZ hwf h.ok.s.inv h.lk hf)
   ·have e:σ.change x=(σ,.no (bm σ.s 0 x.m.page)):=by unfold A;rw[if_neg (by rw[hb];simp),if_neg h1,if_pos h2,if_neg hf]
    rw[e];exact(jG hf).symm
  ·have h3:x.kind=3:=by omega
   by_cases hf:iV σ.s 0 x.m.page x.m.rights=0
   ·have e:σ.change x=(σ.post (iH σ.s 0 x.m.page x.m.rights) (nu σ.s 0 x.m.page x.m.rights) [],.no 0):=by unfold A;rw[if_neg (by rw[hb];simp),if_neg h1,if_neg h2,if_pos hf]
    rw[e];show cJ (iH σ.s 0 x.m.page x.m.rights) 0=cW _ x 0;have:cW (cJ σ.s 0) x 0=Bk.protL (cJ σ.s 0) x.m.page x.m.rights:=by unfold cW;rw[if_pos ⟨rfl,hx⟩,if_neg h1,if_neg h2]
    rw[this];exact Lk.all (rX hwf h.ok.s.inv hf).1 (Ad hwf h.ok.s.inv h.lk hf)
   ·have e:σ.change x=(σ,.no (iV σ.s 0 x.m.page x.m.rights)):=by unfold A;rw[if_neg (by rw[hb];simp),if_neg h1,if_neg h2,if_neg hf]
    rw[e];exact(jG hf).symm
theorem book_act(h:Safe σ P)(x:C):cJ (σ.act x).1.s 0=cW (cJ σ.s 0) x (σ.act x).2.code:=by
 unfold N;split
 ·rename_i hx;exact h.book_change x hx
 rename_i hx;rw[tn hx];split;· rfl
 split;· rfl
 rename_i hc;have hk:x.core.toNat<σ.cs.length:=by omega
 split;· rfl
 split;· exact h.book_walk hk
 split;· exact h.book_ack _
 unfold O;split<;>rfl
theorem n_act(h:Safe σ P)(x:C):(σ.act x).1.s.n=σ.s.n∧(σ.act x).1.cs.length=σ.cs.length:=by
 have hch:(σ.change x).1.s.n=σ.s.n∧(σ.change x).1.cs.length=σ.cs.length:=by
  cases hb:σ.busy with
  |true=>have e:(σ.change x).1=σ:=by unfold A;rw[if_pos hb]
         rw[e];exact⟨rfl,rfl⟩
  |false=>
   obtain⟨hg,_⟩:=h.quiet hb;have hwf:=h.wf;rw[hg] at hwf;unfold A;rw[if_neg (by rw[hb];simp)];split
   ·exact⟨(oM hwf h.ok.s.inv h.ok.s.small x.m).2.2.1,rfl⟩
   split
   ·split
    ·rename_i hf;exact⟨(mQ hwf h.ok.s.inv hf).2.2.1,rfl⟩
    ·exact⟨rfl,rfl⟩
   ·split
    ·rename_i hf;exact⟨(rX hwf h.ok.s.inv hf).2.2.1,rfl⟩
    ·exact⟨rfl,rfl⟩
 unfold N;split;· exact hch
 split;· exact⟨rfl,rfl⟩
 split;· exact⟨rfl,rfl⟩
 rename_i hc;have hk:x.core.toNat<σ.cs.length:=by omega
 split;· exact⟨rfl,D _ _ _⟩
 split
 ·refine⟨?_,D _ _ _⟩
  cases hon:(σ.core x.core.toNat).k.on with
  |false=>unfold T;rw[step_off hon]
  |true=>exact(h.walk_stepIn hk hon).mark.n
 split
 ·unfold U
  split;· exact⟨rfl,rfl⟩
  split
  ·exact⟨(iu σ.gone σ.s h.ok.s.inv).2.1,List.length_set ..⟩
  ·exact⟨rfl,List.length_set ..⟩
 ·unfold O
  split
  ·exact⟨rfl,rfl⟩
  ·exact⟨rfl,D _ _ _⟩
theorem new{cores n:Nat}(h1:1≤cores)(h4:cores≤4)(hn:1≤n)(hn2:n≤128):Safe (Q cores n) []∧(Q cores n).s.n =n∧(Q cores n).cs.length =cores:=by
 have hwf:=mG hn;have e:=mF hn;refine⟨⟨⟨⟨?_,?_⟩,fun c hc=> ?_,?_,?_,fun _ _=>rfl,Sc.mp_ok_zero⟩,hwf,fun _=>⟨rfl,fun _=>rfl⟩,fun hx=>(by cases hx),fun k c hc=> ?_,Bk.Ok.nil⟩,?_,?_⟩
 ·exact(Ms.Ok.new hn2).takeS.inv
 ·show((Ms.new n).takeS).n ≤128
  rw[e];exact hn2
 ·rw[List.eq_of_mem_replicate hc]
  exact⟨Tl.Ok.nil,Ck.Ok.zero⟩
 ·show(List.replicate cores Cr.zero).length ≤4
  rw[List.length_replicate];exact h4
 ·show 1≤(List.replicate cores Cr.zero).length
  rw[List.length_replicate];exact h1
 ·have hm:=List.mem_of_getElem? hc
  rw[List.eq_of_mem_replicate hm];exact⟨fun hx=>(by cases hx),fun x hx=>(by cases hx)⟩
 ·show((Ms.new n).takeS).n =n
  rw[e]
 ·show(List.replicate cores Cr.zero).length =cores
  rw[List.length_replicate]
theorem book_new{cores n:Nat}(hn:1≤n):cJ (Q cores n).s 0=[]:=Lk.all (mG hn) (uY hn)
theorem counts(h:Safe σ P):(fi σ.s 0).length +σ.gone.length+σ.s.frees.length=σ.s.n∧(fi σ.s 0).length =(iY (cJ σ.s 0)).length +1∧(fi σ.s 0).Nodup :=
 ⟨q9 h.wf h.ok.s.inv,p5 h.wf h.lk,(fE h.wf).2.2.1⟩
theorem way_zero(h:Safe σ P)(p:Int):(bo σ.s 0 p).code =0∨(bo σ.s 0 p).code =1:=by
 by_cases hp:cH p
 ·exact .inl (jx h.wf hp).1
 ·exact .inr (qu hp)
theorem find_few(h:Safe σ P)(p:Int):bm σ.s 0 p=0∨bm σ.s 0 p=1∨bm σ.s 0 p=5:=by
 unfold bm;rcases h.way_zero p with e|e<;>rw[e]
 ·rw[if_neg (by decide)]
  split
  ·exact .inr (.inr rfl)
  ·exact .inl rfl
 ·rw[if_pos (by decide)]
  exact .inr (.inl rfl)
theorem change_few(h:Safe σ P)(x:C):(σ.change x).2.code≠12∧(σ.change x).2.fin=v∧(σ.change x).2.an=An.zero:=by
 unfold A;split;· exact⟨by show(8:Int)≠12;decide,rfl,rfl⟩
 split
 ·refine⟨?_,rfl,rfl⟩
  show dm σ.s 0 x.m≠12;unfold dm;have hc:=nT x.m;split;· omega
  split
  ·rcases h.way_zero x.m.page with e|e<;>rw[e]<;>decide
  split;· decide
  split<;>decide
 split
 ·split
  ·exact⟨by show(0:Int)≠12;decide,rfl,rfl⟩
  ·refine⟨?_,rfl,rfl⟩
   show bm σ.s 0 x.m.page≠12;rcases h.find_few x.m.page with e|e|e<;>rw[e]<;>decide
 ·split
  ·exact⟨by show(0:Int)≠12;decide,rfl,rfl⟩
  ·refine⟨?_,rfl,rfl⟩
   show iV σ.s 0 x.m.page x.m.rights≠12;unfold iV;split
   ·decide
   ·rcases h.find_few x.m.page with e|e|e<;>rw[e]<;>decide
theorem access_few(a:Ac)(k:Nat):(σ.access k a).2.code=aH a∨(σ.access k a).2.code=8∨(σ.access k a).2.code=0:=by
 show(dv _ 0 _ a).code =_∨(dv _ 0 _ a).code =_∨(dv _ 0 _ a).code =_;unfold dv;split;· exact .inl rfl
 split;· exact .inr (.inl rfl)
 split<;>exact .inr (.inr rfl)
theorem checkAccess_few(a:Ac):aH a=0∨aH a=1∨aH a=2:=by unfold aH;split<;>(try split)<;>omega
theorem walk_few(h:Safe σ P){k:Nat}(hk:k<σ.cs.length):(σ.walk k).2.code=if(σ.core k).k.on =o then 0 else 9:=by
 show(be σ.s 0 (σ.core k).k).code =_;cases hon:(σ.core k).k.on with
 |false=>rw[step_off hon];rfl
 |true=>exact(h.walk_stepIn hk hon).code
end Safe
def tq(σ:S)(x:C):Ac:=if x.kind=4 then x.a else σ.acc x.core
namespace Safe
variable {σ:S} {P:List G}
end Safe
theorem mJ(L:List G)(a:Ac):Bk.ans L a=yW (Bk.find L a.page) a:=by
 unfold Bk.ans yW;cases Bk.find L a.page<;>rfl
def dj(H:List (List G))(x:C)(e:Ev):List (List G):=if e.code=0∧1≤x.kind∧x.kind≤3 then H++[cW (H.getLastD []) x 0] else H
def eJ(f:Nat)(H:List (List G))(e:Ev):Nat:=if e.back=o then H.length - 1 else f
def vb(H:List (List G))(i:Nat)(a:Ac)(r:An):Bool:=(H.drop i).any fun L=>decide (Bk.ans L a=r)
structure Hist (σ:S) (P:List G) (H:List (List G)) (f:Nat):Prop where
 last:H.getLast?=B (cJ σ.s 0)
 ok:∀L∈H,Bk.Ok L
 quiet:σ.busy=v→f+1=H.length
 busy:σ.busy=o→f+2=H.length∧H[f]? =B P
theorem oK(σ:S)(x:C)(hx:1≤x.kind∧x.kind≤3):
  ((σ.change x).2.code≠0∧(σ.change x).2.back=v∧(σ.change x).1.busy=σ.busy)∨
  ((σ.change x).2.code=0∧(σ.change x).2.back=o∧(σ.change x).1.busy=v∧σ.busy=v)∨
  ((σ.change x).2.code=0∧(σ.change x).2.back=v∧(σ.change x).1.busy=o∧σ.busy=v∧(x.kind=2∨x.kind=3)):=by
 unfold A;by_cases hb:σ.busy=o
 ·rw[if_pos hb]
  exact .inl ⟨by show(8:Int)≠0;decide,rfl,rfl⟩
 have hb':σ.busy=v:=by simpa using hb
 rw[if_neg hb];by_cases h1:x.kind=1
 ·rw[if_pos h1]
  by_cases hc:dm σ.s 0 x.m=0
  ·exact .inr (.inl ⟨hc,decide_eq_true hc,hb',hb'⟩)
  ·exact .inl ⟨hc,decide_eq_false hc,rfl⟩
 rw[if_neg h1];by_cases h2:x.kind=2
 ·rw[if_pos h2]
  by_cases hc:bm σ.s 0 x.m.page=0
  ·rw[if_pos hc]
   exact .inr (.inr ⟨rfl,rfl,rfl,hb',.inl h2⟩)
  ·rw[if_neg hc]
   exact .inl ⟨hc,rfl,rfl⟩
 rw[if_neg h2];by_cases hc:iV σ.s 0 x.m.page x.m.rights=0
 ·rw[if_pos hc]
  exact .inr (.inr ⟨rfl,rfl,rfl,hb',.inr (by omega)⟩)
 ·rw[if_neg hc]
  exact .inl ⟨hc,rfl,rfl⟩
theorem rb{σ:S}{x:C}(hx:1≤x.kind∧x.kind≤3):σ.act x=σ.change x:=by unfold N;rw[if_pos hx]
theorem tr{σ:S}{x:C}(hx:¬(1≤x.kind∧x.kind≤3)):((σ.act x).2.back=v∧(σ.act x).1.busy=σ.busy)∨((σ.act x).2.back=o∧(σ.act x).1.busy=v):=by
 unfold N;rw[if_neg hx];split;· exact .inl ⟨rfl,rfl⟩
 split;· exact .inl ⟨rfl,rfl⟩
 split;· exact .inl ⟨rfl,rfl⟩
 split;· exact .inl ⟨rfl,rfl⟩
 split
 ·unfold U
  split;· exact .inl ⟨rfl,rfl⟩
  split
  ·exact .inr ⟨rfl,rfl⟩
  ·exact .inl ⟨rfl,rfl⟩
 ·unfold O
  split<;>exact .inl ⟨rfl,rfl⟩
section
variable {σ:S} {P:List G} {H:List (List G)} {f:Nat}
theorem Hist.ne(hh:Hist σ P H f):1≤H.length:=by
 have:=hh.last;cases H with
 |nil=>cases this
 |cons=>simp
theorem Hist.lastD(hh:Hist σ P H f):H.getLastD []=cJ σ.s 0:=by
 rw[List.getLastD_eq_getLast?,hh.last];rfl
theorem Hist.le(hh:Hist σ P H f):f+1≤H.length:=by
 cases hb:σ.busy with
 |false=>exact Nat.le_of_eq (hh.quiet hb)
 |true=>have:=(hh.busy hb).1;omega
theorem Hist.act(h:Safe σ P)(hh:Hist σ P H f)(x:C):Hist (σ.act x).1 (Safe.prevOf σ P x) (dj H x (σ.act x).2) (eJ f (dj H x (σ.act x).2) (σ.act x).2):=by
 have hb:=h.book_act x;have hl:=hh.lastD;have hne:=hh.ne;have hlast:(dj H x (σ.act x).2).getLast? =B (cJ (σ.act x).1.s 0):=by
  rw[hb];unfold dj;by_cases hc:(σ.act x).2.code=0∧1≤x.kind∧x.kind≤3
  ·rw[if_pos hc,hl,hc.1];simp
  ·rw[if_neg hc,hh.last];unfold cW;rw[if_neg hc]
 have hok:∀L∈dj H x (σ.act x).2,Bk.Ok L:=by
  unfold dj;intro L hL;split at hL
  ·rcases List.mem_append.1 hL with hL|hL
   ·exact hh.ok L hL
   ·simp at hL
    rw[hL,←List.getLastD_eq_getLast?,hl];exact p6 h.lk.ok _ _
  ·exact hh.ok L hL
 by_cases hx:1≤x.kind∧x.kind≤3
 ·have e:=rb (σ:=σ) hx
  have hpv:Safe.prevOf σ P x=if σ.busy=v∧(x.kind=2∨x.kind=3)∧(σ.change x).2.code=0 then cJ σ.s 0 else P:=rfl
  rw[e] at hlast hok⊢;rcases oK σ x hx with ⟨c0,c1,c2⟩|⟨c0,c1,c2,c3⟩|⟨c0,c1,c2,c3,c4⟩
  ·have e1:dj H x (σ.change x).2=H:=by unfold dj;rw[if_neg (fun hc=>c0 hc.1)]
   have e2:Safe.prevOf σ P x=P:=by rw[hpv,if_neg (fun hc=>c0 hc.2.2)]
   rw[e1] at hlast hok⊢;rw[e2,show eJ f H (σ.change x).2=f by unfold eJ;rw[c1];rfl];exact⟨hlast,hok,fun hq=>hh.quiet (c2▸hq),fun hq=>hh.busy (c2▸hq)⟩
  ·have e1:dj H x (σ.change x).2=H++[cW (H.getLastD []) x 0]:=by unfold dj;rw[if_pos ⟨c0,hx⟩]
   refine⟨hlast,hok,fun _=> ?_,fun hq=>by rw[c2] at hq;cases hq⟩;unfold eJ;rw[if_pos c1,e1];simp
  ·have e1:dj H x (σ.change x).2=H++[cW (H.getLastD []) x 0]:=by unfold dj;rw[if_pos ⟨c0,hx⟩]
   have e2:Safe.prevOf σ P x=cJ σ.s 0:=by rw[hpv,if_pos ⟨c3,c4,c0⟩]
   have hq:=hh.quiet c3;refine⟨hlast,hok,fun hq=>(by rw[c2] at hq;cases hq),fun _=> ?_⟩;rw[e1,e2,show∀H',eJ f H' (σ.change x).2=f by intro H';unfold eJ;rw[c1];rfl];refine⟨by simp;omega,?_⟩;rw[List.getElem?_append_left (by omega)];have:=hh.last;rw[List.getLast?_eq_getElem?] at this;rw[←this];congr 1
   omega
 ·have e1:dj H x (σ.act x).2=H:=by unfold dj;rw[if_neg (fun hc=>hx hc.2)]
  rw[e1] at hlast hok⊢;rw[Safe.prev_not hx];rcases tr (σ:=σ) hx with ⟨c1,c2⟩|⟨c1,c2⟩
  ·rw[show eJ f H (σ.act x).2=f by unfold eJ;rw[c1];rfl]
   exact⟨hlast,hok,fun hq=>hh.quiet (c2▸hq),fun hq=>hh.busy (c2▸hq)⟩
  ·refine⟨hlast,hok,fun _=> ?_,fun hq=>by rw[c2] at hq;cases hq⟩
   unfold eJ;rw[if_pos c1];omega
theorem Hist.mono(_:Safe σ P)(hh:Hist σ P H f)(x:C):f≤eJ f (dj H x (σ.act x).2) (σ.act x).2:=by
 have:=hh.le;unfold eJ;split
 ·unfold dj
  split
  ·simp;omega
  ·omega
 ·omega
theorem Safe.fin_right(h:Safe σ P)(x:C)(hf:(σ.act x).2.fin=o):
  (x.kind=4∨x.kind=5)∧0≤x.core∧x.core<σ.cs.length∧(σ.act x).2.code=0∧(σ.act x).2.back=v∧(x.kind=5→σ.on x.core=o)∧
   (Bk.ans (cJ σ.s 0) (tq σ x)=(σ.act x).2.an∨(x.kind=4∧σ.busy=o∧Bk.ans P (tq σ x)=(σ.act x).2.an)):=by
 unfold tq;unfold N at hf⊢;split at hf
 ·rw[(h.change_few x).2.1] at hf
  cases hf
 rename_i h13;rw[if_neg h13];split at hf;· cases hf
 rename_i h17;rw[if_neg h17];split at hf;· cases hf
 rename_i hc;rw[if_neg hc];have hk:x.core.toNat<σ.cs.length:=by omega
 split at hf
 ·rename_i h4
  rw[if_pos h4,if_pos h4];have hi:=h.core _ _ (at_core hk);unfold ad at hf⊢;dsimp only at hf⊢;unfold dv at hf⊢;split at hf;· cases hf
  rename_i hca;rw[if_neg hca];split at hf;· cases hf
  rename_i hon;rw[if_neg hon];have hp:=dY (a:=x.a) (by omega);cases hh:mS (σ.core x.core.toNat).l x.a with
  |none=>rw[hh] at hf;cases hf
  |some r=>
   dsimp only;refine⟨.inl h4,by omega,by omega,rfl,rfl,fun h5=>by omega,?_⟩;unfold mS at hh;cases hfi:Tl.find (σ.core x.core.toNat).l x.a.page with
   |none=>rw[hfi] at hh;cases hh
   |some y=>
    rw[hfi] at hh;dsimp only at hh;split at hh
    ·injection hh with hh
     have hmem:y∈(σ.core x.core.toNat).l :=List.mem_of_find?_eq_some hfi;have hov:E y.m x.a.page=o:=by simpa using List.find?_some hfi
     rcases hi.line y hmem with hl|⟨hw,_,hl⟩
     ·left
      rw[mJ,h.lk.same _ hp,Wf.overMap h.wf hl.inP hp hl.map hov h.wf];exact hh
     ·right
      refine⟨h4,?_,?_⟩
      ·cases hb:σ.busy with
       |true=>rfl
       |false=>rw[(h.quiet hb).2] at hw;cases hw
      ·rw[mJ,(Bk.find_iff h.prev).2 ⟨((Bk.find_iff h.prev).1 hl).1,hov⟩]
       exact hh
    ·cases hh
 rename_i h4;rw[if_neg h4,if_neg h4];split at hf
 ·rename_i h5
  rw[if_pos h5];cases hon:(σ.core x.core.toNat).k.on with
  |false=>
   unfold T at hf;rw[step_off hon] at hf;cases hf
  |true=>
   have hs:=h.walk_stepIn hk hon;have hon':σ.on x.core=o:=by
    unfold Sc.on;rw[decide_eq_true (by omega),decide_eq_true (by omega),hon];rfl
   have ea:σ.acc x.core=(σ.core x.core.toNat).k.a :=by unfold Sc.acc;rw[if_pos hon']
   have hp:=dY ((F h.ok x.core.toNat).2.acc hon);rw[ea];refine⟨.inr h5,by omega,by omega,hs.code,rfl,fun _=>hon',.inl ?_⟩;rcases hs.fin with he|he
   ·rw[mJ,h.lk.same _ hp]
    exact he.an.symm
   ·have:(be σ.s 0 (σ.core x.core.toNat).k).r.fin =o:=hf
    rw[he.z] at this;cases this
 rename_i h5;split at hf
 ·exfalso
  unfold U at hf;split at hf;· cases hf
  split at hf<;>cases hf
 ·exfalso
  unfold O at hf;split at hf<;>cases hf
theorem vc{i j:Nat}{L:List G}{a:Ac}{r:An}(hj:H[j]? =B L)(hi:i≤j)(ha:Bk.ans L a=r):vb H i a r=o:=by
 unfold vb;refine List.any_eq_true.2 ⟨L,?_,decide_eq_true ha⟩;refine List.mem_of_getElem? (i:=j - i) ?_;rw[List.getElem?_drop,show i+(j - i)=j by omega];exact hj
theorem Hist.right(h:Safe σ P)(hh:Hist σ P H f)(x:C)(hf:(σ.act x).2.fin=o){i:Nat}(hi:i≤f):vb H i (tq σ x) (σ.act x).2.an=o:=by
 obtain⟨_,_,_,_,_,_,hr⟩:=h.fin_right x hf;have hle:=hh.le;rcases hr with hr|⟨k4,hb,hr⟩
 ·refine vc (j:=H.length - 1) ?_ (by omega) hr
  have:=hh.last;rw[List.getLast?_eq_getElem?] at this;exact this
 ·exact vc (hh.busy hb).2 hi hr
end
structure Wc where
 σ:S
 H:List (List G)
 f:Nat
 since:List Int
theorem y9{σ:S}{x:C}(h:4≤x.kind)(hc:(σ.act x).2.code=0):0≤x.core∧x.core<σ.cs.length:=by
 unfold N at hc;rw[if_neg (by omega)] at hc;split at hc
 ·exact absurd hc (by show(2:Int)≠0;decide)
 split at hc
 ·exact absurd hc (by show(1:Int)≠0;decide)
 ·omega
namespace Wc
def new(cores n:Nat):Wc:=⟨Q cores n,[[]],0,List.replicate cores 0⟩
def sinceN(W:Wc)(x:C)(e:Ev):List Int:=if e.code=0∧x.kind=4 then W.since.set x.core.toNat W.f else W.since
def act(W:Wc)(x:C):Wc×Ev:=(⟨(W.σ.act x).1,dj W.H x (W.σ.act x).2,eJ W.f (dj W.H x (W.σ.act x).2) (W.σ.act x).2,W.sinceN x (W.σ.act x).2⟩,(W.σ.act x).2)
structure Ok (W:Wc) (P:List G):Prop where
 safe:Safe W.σ P
 hist:Hist W.σ P W.H W.f
 len:W.since.length=W.σ.cs.length
 le:∀i∈W.since,0≤i∧i≤W.f
theorem Ok.new{cores n:Nat}(h1:1≤cores)(h4:cores≤4)(hn:1≤n)(hn2:n≤128):Ok (Wc.new cores n) []:=by
 obtain⟨a,_,c⟩:=Safe.new h1 h4 hn hn2;refine⟨a,⟨?_,fun L hL=> ?_,fun _=>rfl,fun hb=>(by cases hb)⟩,?_,fun i hi=> ?_⟩
 ·show B []=B (cJ (Q cores n).s 0)
  rw[Safe.book_new hn]
 ·have:L=[]:=by simpa [Wc.new] using hL
  rw[this];exact a.prev
 ·show(List.replicate cores (0:Int)).length =(Q cores n).cs.length
  rw[c,List.length_replicate]
 ·have:i=0:=by
   have:i∈List.replicate cores (0:Int):=hi;exact(List.mem_replicate.1 this).2
  rw[this];exact⟨Int.le_refl 0,Int.natCast_nonneg _⟩
theorem Ok.act{W:Wc}{P:List G}(h:W.Ok P)(x:C):(W.act x).1.Ok (Safe.prevOf W.σ P x):=by
 refine⟨h.safe.act x,h.hist.act h.safe x,?_,fun i hi=> ?_⟩
 ·show(W.sinceN x (W.σ.act x).2).length =(W.σ.act x).1.cs.length
  rw[(h.safe.n_act x).2,←h.len];unfold sinceN;split
  ·rw[List.length_set]
  ·rfl
 ·have hm:=h.hist.mono h.safe x
  have hi:i∈W.sinceN x (W.σ.act x).2:=hi;show 0≤i∧i≤((eJ W.f (dj W.H x (W.σ.act x).2) (W.σ.act x).2:Nat):Int);unfold sinceN at hi;split at hi
  ·rcases List.mem_or_eq_of_mem_set hi with hi|hi
   ·have:=h.le i hi;omega
   ·omega
  ·have:=h.le i hi;omega
theorem hist_len(W:Wc)(x:C):(W.act x).1.H.length≤W.H.length+1:=by
 show(dj W.H x (W.σ.act x).2).length ≤_;unfold dj;split
 ·simp
 ·omega
theorem hist_same{H:List (List G)}{x:C}{e:Ev}(h:¬(1≤x.kind∧x.kind≤3)):dj H x e=H:=by unfold dj;rw[if_neg (fun hc=>h hc.2)]
theorem hist_bad{H:List (List G)}{x:C}{e:Ev}(h:e.code≠0):dj H x e=H:=by unfold dj;rw[if_neg (fun hc=>h hc.1)]
def from_(W:Wc)(x:C):Int:=(W.sinceN x (W.σ.act x).2).getD x.core.toNat 0
theorem Ok.right{W:Wc}{P:List G}(h:W.Ok P)(x:C)(hf:(W.σ.act x).2.fin=o):
  0≤W.from_ x∧W.from_ x≤W.f∧vb W.H (W.from_ x).toNat (tq W.σ x) (W.σ.act x).2.an=o:=by
 obtain⟨h45,hc0,hcl,he,_,_,_⟩:=h.safe.fin_right x hf;have hk:x.core.toNat<W.since.length:=by rw[h.len];omega
 unfold from_;by_cases h4:x.kind=4
 ·have e:W.sinceN x (W.σ.act x).2=W.since.set x.core.toNat W.f:=by unfold sinceN;rw[if_pos ⟨he,h4⟩]
  rw[e,List.getD_eq_getElem?_getD,List.getElem?_set_self hk];refine⟨Int.natCast_nonneg _,Int.le_refl _,?_⟩;exact h.hist.right h.safe x hf (Nat.le_refl _)
 ·have e:W.sinceN x (W.σ.act x).2=W.since:=by unfold sinceN;rw[if_neg (fun hc=>h4 hc.2)]
  rw[e,List.getD_eq_getElem?_getD,J hk];have hle:=h.le _ (List.getElem_mem hk);refine⟨hle.1,hle.2,?_⟩;exact h.hist.right h.safe x hf (by show(W.since[x.core.toNat]).toNat ≤W.f;omega)
end Wc
def cM(k:Int):C:=⟨6,k,⟨0,0,0,0⟩,⟨0,0,v⟩⟩
namespace Safe
variable {σ:S} {P:List G}
theorem idle(h:Safe σ P)(hw:∀i,i<σ.cs.length→σ.wait i=v):σ.busy=v:=by
 cases hb:σ.busy with
 |false=>rfl
 |true=>
  obtain⟨i,hi,hi2⟩:=h.busy hb;rw[hw i hi] at hi2;cases hi2
end Safe
def bO(k:Int):C:=⟨5,k,⟨0,0,0,0⟩,⟨0,0,v⟩⟩
section
variable {σ:S} {n K:Nat} {L:List G} {x:C}
end
section
variable {σ τ:S} {n K:Nat} {L:List G}
end
def ka(s:Y)(c:Ck):Nat:=if c.on=v then 0 else if c.mark=o then(if c.word s=c.w then 1 else 7) else c.level.toNat+2
theorem Ae{s:Y}{c:Ck}(h:c.Ok):ka s c≤7:=by
 unfold ka;split;· omega
 rename_i hon;split
 ·split<;>omega
 ·have:=h.l3 (by simpa using hon)
  omega
theorem vd{s:Y}{c:Ck}(h:c.on=o):1≤ka s c:=by
 unfold ka;rw[if_neg (by rw[h];simp)];split
 ·split<;>omega
 ·omega
theorem oL{s:Y}{c:Ck}(h:c.on=v):ka s c=0:=by unfold ka;rw[if_pos h]
theorem wU{s:Y}{c:Ck}(h:c.Ok)(hon:c.on=o)(hc:(be s 0 c).code =0):ka (be s 0 c).s (be s 0 c).c <ka s c:=by
 have hp:=vd (s:=s) hon;unfold be at hc⊢;rw[if_neg (by rw[hon];simp)] at hc⊢;split
 ·rename_i hx
  rw[if_pos hx] at hc;cases hc
 rename_i hx;rw[if_neg hx] at hc;split
 ·rename_i hm
  show ka s (c.again 0)<_;have e1:ka s c=7:=by unfold ka;rw[if_neg (by rw[hon];simp),if_pos hm.1,if_neg hm.2]
  have e2:ka s (c.again 0)=5:=by
   unfold Ck.again;rw[if_pos hon];unfold ka;dsimp only;rw[if_neg (by rw[hon];simp),if_neg (by simp)];rfl
  omega
 rename_i hm;rw[if_neg hm] at hc;split
 ·rename_i hd
  rw[if_pos hd] at hc;exact absurd hc hd
 rename_i hd;rw[if_neg hd] at hc;split
 ·show ka s c.idle<_
  rw[oL (by rfl)];omega
 rename_i ht;split
 ·rename_i hl
  have hmk:c.mark=v:=by
   cases hmk:c.mark with
   |false=>rfl
   |true=>
    have e:c.word s=c.w:=Decidable.byContradiction fun e=>hm ⟨hmk,e⟩;have:=(h.leaf hmk).2;rw[←e,hl] at this;cases this
  have h0:=h.l0 hon;have hd':bv (c.word s) c.level=0:=by simpa using hd
  have hpos:0<c.level:=by
   refine Decidable.byContradiction fun hn=> ?_;have e0:c.level=0:=by omega
   rw[e0] at hd' ht hl;rcases d9 hd' with hy|hy
   ·exact ht hy
   ·rw[hl] at hy;cases hy
  show ka s {c with t:=_,level:=c.level - 1}<_;unfold ka;dsimp only;rw[if_neg (by rw[hon];simp),if_neg (by rw[hmk];simp),if_neg (by rw[hon];simp),if_neg (by rw[hmk];simp)];omega
 split
 ·show ka s c.idle<_
  rw[oL (by rfl)];omega
 split
 ·show ka _ c.idle<_
  rw[oL (by rfl)];omega
 rename_i hmk;split
 ·show ka s c.idle<_
  rw[oL (by rfl)];omega
 ·show ka s {c with mark:=o,w:=c.word s}<_
  have e1:ka s c=c.level.toNat+2:=by unfold ka;rw[if_neg (by rw[hon];simp),if_neg hmk]
  have e2:ka s {c with mark:=o,w:=c.word s}=1:=by
   unfold ka;dsimp only;rw[if_neg (by rw[hon];simp),if_pos rfl,if_pos (by rfl)]
  omega
def dZ:Nat→Nat→S→S×List Ev
 |0,_,σ=>(σ,[])
 |m+1,k,σ=>if σ.waits k=o then((dZ m (k+1) (σ.act (cM k)).1).1,(σ.act (cM k)).2::(dZ m (k+1) (σ.act (cM k)).1).2) else dZ m (k+1) σ
def fx:Nat→Nat→S→S×List Ev
 |0,_,σ=>(σ,[])
 |m+1,k,σ=>if σ.on k=o then((fx m k (σ.act (bO k)).1).1,(σ.act (bO k)).2::(fx m k (σ.act (bO k)).1).2) else(σ,[])
def dA:Nat→Nat→S→S×List Ev
 |0,_,σ=>(σ,[])
 |m+1,k,σ=>((dA m (k+1) (fx 7 k σ).1).1,(fx 7 k σ).2++(dA m (k+1) (fx 7 k σ).1).2)
def fB(σ:S):S×List Ev:=((dA σ.cs.length 0 (dZ σ.cs.length 0 σ).1).1,(dZ σ.cs.length 0 σ).2++(dA σ.cs.length 0 (dZ σ.cs.length 0 σ).1).2)
theorem yh{σ:S}{k:Nat}(hk:k<σ.cs.length):σ.on k=(σ.core k).k.on :=by
 unfold Sc.on;rw[decide_eq_true (by omega),decide_eq_true (by omega)];rfl
theorem vg{σ:S}{k:Nat}(hk:k<σ.cs.length):σ.act (bO k)=σ.walk k:=by
 unfold N bO;dsimp only;rw[if_neg (by omega),if_neg (by omega),if_neg (by omega),if_neg (by omega),if_pos rfl];rfl
theorem tt{σ:S}{k:Nat}(hk:k<σ.cs.length):(σ.walk k).1.core k=⟨iz (σ.core k).l (be σ.s 0 (σ.core k).k).r,(be σ.s 0 (σ.core k).k).c⟩:=by
 unfold Sc.core T Sc.put;dsimp only;rw[List.getD_eq_getElem?_getD,List.getElem?_set_self hk];rfl
theorem tu{k:Nat}:¬(1≤(cM k).kind ∧(cM k).kind ≤3):=by unfold cM;dsimp only;omega
theorem rc{k:Nat}:¬(1≤(bO k).kind ∧(bO k).kind ≤3):=by unfold bO;dsimp only;omega
end Go.Proofs.YtmfheghbgihdmaaGreatDoor
