/- Insert, Remove and Protect on a tree of tables, against a book; with no program in sight. -/
import Derived.Test.YtmfheghbgihdmaaGreatDoorWalkM2
import Derived.Test.YtmfheghbgihdmaaGreatDoorSep
import Derived.ProofKit
import Derived.OpenShut
import Derived.ChangeOld
import Derived.Below
import Derived.Deep.Slices
import Derived.Test.YtmfheghbgihdmaaGreatDoorProg
import Derived.Laws.StructEq
import Derived.KernelRfl
import Derived.Lib.Hide
import Derived.WalkSpells
import Derived.Outline
import Derived.BigQuiet
namespace Go.Proofs.YtmfheghbgihdmaaGreatDoor
open Bool renaming true→B,false→C
open Option renaming none→D,some→E
open Go.Value renaming int→F,bool→V
open Go renaming World→G,Value→M,bodyPost_ret→Q,Calls→U
open Go.Lib renaming hid→I
open Go.IntKind renaming i64→J,u64→T
open Go.Proofs.YtmfheghbgihdmaaGreatDoor renaming over→N,Ms→S,Has→W,Mp→Z,Same→ad,MapOk→af
open Int renaming eq_ofNat_of_zero_le→O
open Go.Addr renaming mk→Y
open Tryz
open Go.RowKit
structure Lk (s:S) (r:Int) (L:List Z):Prop where
 ok:Bk.Ok L
 same:∀q,cH q→Bk.find L q=ba s r q
section
variable {s:S} {r:Int} {gone:List Int} {X:Int→Prop} {L:List Z}
theorem MapOk.inP{x:Z}(h:af x):cH x.page:=⟨h.p0,by have:=h.p1;have:=h.sp;omega⟩
theorem Bk.mem_find{L:List Z}(h:Bk.Ok L){m:Z}(hm:m∈L):Bk.find L m.page=E m:=by
 obtain⟨k,hk,rfl⟩:=List.getElem_of_mem hm;have hc:=h.chk _ (List.getElem_mem hk);exact(Bk.over_at h hk (dr.2 ⟨by omega,by have:=hc.sp;omega⟩)).2
theorem Bk.find_mem{L:List Z}{p:Int}{m:Z}(h:Bk.find L p=E m):m∈L∧N m p=B:=⟨List.mem_of_find?_eq_some h,by have:=List.find?_some h;exact this⟩
theorem Lk.mem(h:Lk s r L){m:Z}(hm:m∈L):ba s r m.page=E m:=by
 rw[←h.same _ (h.ok.chk _ hm).inP];exact Bk.mem_find h.ok hm
theorem Bk.ext_find{a b:List Z}(ha:Bk.Ok a)(hb:Bk.Ok b)(h:∀q,cH q→Bk.find a q=Bk.find b q):a=b:=by
 refine Bk.Ok.ext ha hb fun x=> ?_;constructor
 ·intro hx
  have:=Bk.mem_find ha hx;rw[h _ (ha.chk _ hx).inP] at this;exact(Bk.find_mem this).1
 ·intro hx
  have:=Bk.mem_find hb hx;rw[←h _ (hb.chk _ hx).inP] at this;exact(Bk.find_mem this).1
theorem Lk.unique{K:List Z}(h:Lk s r L)(k:Lk s r K):L=K:=Bk.ext_find h.ok k.ok fun q hq=>(h.same q hq).trans (k.same q hq).symm
theorem rT{a b:Z}(ha:af a)(hb:af b){q:Int}(h1:N a q=B)(h2:N b q=B):ey a b=B:=by
 cases h:ey a b with
 |true=>rfl
 |false=>
  have:=(fH ha hb).1 h;have:=dr.1 h1;have:=dr.1 h2;omega
theorem Wf.some_map(hw:Wf s r gone (fun _=>False)):∀(n d:Nat),n+d=2→∀{p t:Int},cH p→aW s r p (d+1)=E t→∃q,cH q∧q / az (3 - d)=p / az (3 - d)∧ba s r q≠D:=by
 intro n;induction n with
 |zero=>
  intro d hd p t hp ht;obtain rfl:d=2:=by omega
  rcases hw.full p 2 t hp (by omega) ht with h|⟨i,hi,hne⟩
  ·cases h
  obtain⟨q,hq,hpre,hix,_⟩:=ly hp (show 0≤3 by omega) i hi;have hq':aW s r q 3=E t:=by rw[←ht];exact bI s r hq hp 3 (by omega) hpre
  obtain⟨h1,h2⟩:=hw.at_ hq (by omega) hq';have hd0:bv (ar s t (ai q (0:Nat))) (0:Nat)=0:=h2;have hl:=d9 hd0;have hE:Ends s r q 3 t:=by
   refine⟨by omega,hq',h1,h2,?_⟩;unfold gP cq;show(_&&(_&&((aC (ar s t (ai q (0:Nat))) (0:Nat)).there && !(aC (ar s t (ai q (0:Nat))) (0:Nat)).leaf)))=C;rcases hl with e|e<;>simp_all
  refine⟨q,hq,hpre,?_⟩;rw[aT hq hE];have ht':(cq s q t (3 - 3)).there =B:=by
   cases h:(cq s q t (3 - 3)).there with
   |true=>rfl
   |false=>
    have:=(hE.not h).2;have hix':ai q (3 - 3:Nat)=i:=hix;rw[hix'] at this;exact absurd this hne
  rw[if_pos (hE.leafOf ht')];simp
 |succ n ih=>
  intro d hd p t hp ht;rcases hw.full p d t hp (by omega) ht with h|⟨i,hi,hne⟩
  ·cases h
  obtain⟨q,hq,hpre,hix,_⟩:=ly hp (show 2 - d≤3 by omega) i hi;have e1:2 - d+1=3 - d:=by omega
  have e2:3 - (d+1)=2 - d:=by omega
  rw[e1] at hpre;have hq':aW s r q (d+1)=E t:=by rw[←ht];exact bI s r hq hp (d+1) (by omega) (by rw[show 4 - (d+1)=3 - d by omega];exact hpre)
  cases hg:gP s q t (3 - (d+1)) with
  |true=>
   have hv:aW s r q (d+1+1)=E (cq s q t (3 - (d+1))).frame :=eX.2 ⟨t,hq',hg,rfl⟩;obtain⟨x,hx,hxp,hxm⟩:=ih (d+1) (by omega) hq hv;refine⟨x,hx,?_,hxm⟩;rw[←hpre];exact gQ (by omega) hxp
  |false=>
   obtain⟨h1,h2⟩:=hw.at_ hq (by omega) hq';have hE:Ends s r q (d+1) t:=⟨by omega,hq',h1,h2,hg⟩;refine⟨q,hq,hpre,?_⟩;rw[aT hq hE];have ht':(cq s q t (3 - (d+1))).there =B:=by
    cases h:(cq s q t (3 - (d+1))).there with
    |true=>rfl
    |false=>
     have:=(hE.not h).2;rw[e2,hix] at this;exact absurd this hne
   rw[if_pos (hE.leafOf ht')];simp
theorem tx(hw:Wf s r gone (fun _=>False))(hL:Lk s r L){x:Z}(hx:af x):((bo s r x.page).e.there =B∨(bo s r x.page).lev <x.size)↔Bk.bad L x=B:=by
 have hp:=hx.inP;obtain⟨d,t,he⟩:=hw.ends _ hp;have hle:=he.le;obtain⟨z,hz,hz3⟩:∃z:Nat,x.size=z∧z<3:=by
  rcases hx.size with ⟨a,_⟩|⟨a,_⟩|⟨a,_⟩
  ·exact⟨0,a,by omega⟩
  ·exact⟨1,a,by omega⟩
  ·exact⟨2,a,by omega⟩
 have hsp:bE x.size=az z:=by rw[hz];exact dR hz3
 have hxe:x=⟨x.page / az z*az z,z,x.frame,x.rights⟩:=by
  have:=hx.al;rw[hsp] at this;have h8:=eG z;have e:x.page / az z*az z=x.page:=by have:=Int.mul_ediv_add_emod x.page (az z);rw[Int.mul_comm];omega
  rw[e,←hz]
 have hov:∀q,N x q=decide (q / az z=x.page / az z):=fun q=>by
  conv=>lhs;rw[hxe]
  exact mY hz3 _ _ _ _
 rw[bM hp.1 hp.2 he];dsimp only;rw[hz];constructor
 ·rintro(h|h)
  ·have hl:=he.leafOf h
   have hm:ba s r x.page=E (aK (cq s x.page t (3 - d)) ((3 - d:Nat):Int) x.page):=by rw[aT hp he,if_pos hl]
   obtain⟨h1,h2⟩:=hw.self hp hm;rw[←hL.same _ hp] at hm;exact Bk.bad_find (by rw[hm];rfl)
  ·have hz1:3 - d<z:=by omega
   obtain⟨u,hu⟩:=du he.tab (show 3 - z+1≤d by omega);obtain⟨q,hq,hpre,hqm⟩:=hw.some_map (z - 1) (3 - z) (by omega) hp hu;rw[show 3 - (3 - z)=z by omega] at hpre;cases hm:ba s r q with
   |none=>exact absurd hm hqm
   |some m=>
    obtain⟨h1,h2⟩:=hw.self hq hm;rw[←hL.same _ hq] at hm;have hmem:=(Bk.find_mem hm).1;have:ey m x=B:=rT h2 hx h1 (by rw[hov];exact decide_eq_true hpre);exact List.any_eq_true.2 ⟨m,hmem,this⟩
 ·intro hb
  obtain⟨m,hm,hmeet⟩:=List.any_eq_true.1 hb;have hmo:=hL.ok.chk _ hm;have hma:=hL.mem hm;apply Classical.byContradiction;intro hn;rw[not_or] at hn;have ht:(cq s x.page t (3 - d)).there =C:=by simpa using hn.1
  have hzl:z≤3 - d:=by omega
  unfold ey at hmeet;rcases Bool.or_eq_true_iff.1 hmeet with h|h
  ·have:=Wf.overMap hw hmo.inP hp hma h hw
   rw[aT hp he,(he.not ht).1] at this;cases this
  ·rw[hov] at h
   have hpre:=gQ hzl (of_decide_eq_true h);obtain⟨hs,hse⟩:=he.same hp hmo.inP hpre;rw[aT hmo.inP hs,hse,(he.not ht).1] at hma;cases hma
theorem vu(hw:Wf s r gone (fun _=>False))(hL:Lk s r L)(x:Z):(dm s r x=6∧bp x=0∧Bk.bad L x=C∧s.frees.length<3)∨dm s r x=Bk.addC L x:=by
 unfold dm Bk.addC;by_cases hc:bp x=0
 ·have hx:=dL hc
  have hp:=hx.inP;have hwc:=(jx hw hp).1;have hb:=tx hw hL hx;have hcn:¬(bp x≠0):=by omega
  have hwn:¬((bo s r x.page).code ≠0):=by rw[hwc];simp
  rw[if_neg hcn,if_neg hwn,if_neg hcn];by_cases h:(bo s r x.page).e.there =B∨(bo s r x.page).lev <x.size
  ·rw[if_pos h,if_pos (hb.1 h)]
   exact .inr rfl
  ·rw[if_neg h]
   have hbf:Bk.bad L x=C:=by
    cases hbb:Bk.bad L x with
    |false=>rfl
    |true=>exact absurd (hb.2 hbb) h
   by_cases hf:(s.frees.length:Int)< (bo s r x.page).lev - x.size
   ·rw[if_pos hf]
    refine .inl ⟨rfl,hc,hbf,?_⟩;obtain⟨d,t,he⟩:=hw.ends _ hp;rw[bM hp.1 hp.2 he] at hf;dsimp only at hf;have h0:0≤x.size:=by rcases hx.size with ⟨a,_⟩|⟨a,_⟩|⟨a,_⟩<;>omega
    by_cases hd:d=0
    ·subst hd
     by_cases h3:s.frees.length<3
     ·exact h3
     ·exfalso
      rcases hx.size with ⟨a,_⟩|⟨a,_⟩|⟨a,_⟩<;>omega
    ·omega
   ·rw[if_neg hf,if_neg (by rw[hbf];simp)]
    exact .inr rfl
 ·rw[if_pos hc,if_pos hc]
  exact .inr rfl
theorem oM(hw:Wf s r gone (fun _=>False))(hi:s.Inv)(hn:s.n≤128)(x:Z):
  Wf (eB s r x) r gone (fun _=>False)∧(eB s r x).Inv ∧(eB s r x).n =s.n∧
  ∀q,cH q→ba (eB s r x) r q=(if dm s r x=0∧N x q=B then E x else ba s r q)∧
   (ba s r q≠D→bo (eB s r x) r q=bo s r q)∧
   (dm s r x=0∧N x q=B→ba s r q=D∧(bo (eB s r x) r q).e =dU x):=by
 unfold eB;by_cases hc:dm s r x=0
 ·rw[if_pos hc]
  have hc0:=hc;unfold dm at hc0;by_cases hk:bp x=0
  ·have hx:=dL hk
   have hp:=hx.inP;have hwc:=(jx hw hp).1;rw[if_neg (by omega),if_neg (by rw[hwc];simp)] at hc0;by_cases h:(bo s r x.page).e.there =B∨(bo s r x.page).lev <x.size
   ·rw[if_pos h] at hc0;cases hc0
   rw[if_neg h] at hc0;by_cases hf:(s.frees.length:Int)< (bo s r x.page).lev - x.size
   ·rw[if_pos hf] at hc0;cases hc0
   rw[not_or] at h;obtain⟨d,t,he⟩:=hw.ends _ hp;have hle:=he.le;rw[bM hp.1 hp.2 he] at h hf⊢;dsimp only at h hf⊢;rw[iW he.tab];obtain⟨z,hz,hz3⟩:∃z:Nat,x.size=z∧z<3:=by
    rcases hx.size with ⟨a,_⟩|⟨a,_⟩|⟨a,_⟩
    ·exact⟨0,a,by omega⟩
    ·exact⟨1,a,by omega⟩
    ·exact⟨2,a,by omega⟩
   have hsp:bE x.size=az z:=by rw[hz];exact dR hz3
   have h8:=eG z;have hal:x.page / az z*az z=x.page:=by have:=Int.mul_ediv_add_emod x.page (az z);have h2:=hx.al;rw[hsp] at h2;rw[Int.mul_comm];omega
   have hxe:x=⟨x.page / az z*az z,z,x.frame,x.rights⟩:=by rw[hal,←hz]
   have hov:∀q,N x q=decide (q / az z=x.page / az z):=fun q=>by
    conv=>lhs;rw[hxe]
    exact mY hz3 _ _ _ _
   have hfa:ao (dU x) z=0:=by
    refine jq rfl ⟨by omega,by omega,hx.r0,hx.r7,hx.f0,hx.f1,fun _=>⟨by omega,?_⟩,fun h=>by cases h⟩;have:=hx.fa;rw[hz] at this;exact this
   obtain⟨k1,k2,k3⟩:=ky hfa;have hrg:0≤bF (dU x) z∧bF (dU x) z<18446744073709551616:=by
    have:=jr (dB hfa rfl);unfold bF;rw[if_pos ⟨hfa,rfl⟩];omega
   have ht:(cq s x.page t (3 - d)).there =C:=by simpa using h.1
   rw[hz] at h hf⊢;rw[Int.toNat_natCast];obtain⟨n,hnn⟩:∃n:Nat,((3 - d:Nat):Int) - z=n:=⟨3 - d - z,by omega⟩;rw[hnn,Int.toNat_natCast];obtain⟨i1,i2,i3,i4,i5⟩:=vV (p:=x.page) (lw:=bF (dU x) z) (sz:=z) hp hz3 k1 (by rw[k2];rfl) hrg n d t s r gone (fun _=>False) (by omega) hi hn (by omega) hw (fun _ h=>h.elim) he ht;refine⟨i1,i2,i3,fun q hq=> ?_⟩;have:=i5 q hq;by_cases hpre:q / az z=x.page / az z
   ·rw[if_pos hpre,k2] at this
    have ho:N x q=B:=by rw[hov];exact decide_eq_true hpre
    have hlm:aK (dU x) z q=x:=by
     rw[fL hq hfa rfl (dR hz3),hpre];exact hxe.symm
    have hnone:ba s r q=D:=by
     obtain⟨hs,hse⟩:=he.same hp hq (gQ (show z≤3 - d by omega) hpre);rw[aT hq hs,hse,(he.not ht).1];rfl
    refine⟨?_,fun hne=>absurd hnone hne,fun _=>⟨hnone,this.2⟩⟩;rw[this.1,hlm,if_pos ⟨hc,ho⟩]
   ·rw[if_neg hpre] at this
    have ho:¬N x q=B:=by rw[hov];simpa using hpre
    refine⟨?_,this.2,fun h=>absurd h.2 ho⟩;rw[this.1,if_neg (fun h=>ho h.2)]
  ·rw[if_pos hk] at hc0
   exact absurd hc0 hk
 ·rw[if_neg hc]
  exact⟨hw,hi,rfl,fun q hq=>⟨by rw[if_neg (fun h=>hc h.1)],fun _=>rfl,fun h=>absurd h.1 hc⟩⟩
end
structure Ln where
 m:Z
 dirty:Bool
 deriving DecidableEq
def Ln.cells(x:Ln):List M:=[F J x.m.page,F J x.m.size,F J x.m.frame,F J x.m.rights,V x.dirty]
def bW(l:List Ln):List M:=l.flatMap Ln.cells
theorem gI(l:List Ln):(bW l).length =l.length*5:=by
 induction l with
 |nil=>rfl
 |cons x l ih=>
  show(x.cells++bW l).length =_;rw[List.length_append,ih];simp[Ln.cells];omega
theorem jQ(a b:List Ln):bW (a++b)=bW a++bW b:=by simp[bW]
namespace Tl
def drop(l:List Ln)(m:Z):List Ln:=l.filter fun x=> !ey x.m m
def room(l:List Ln):List Ln:=if l.length=6 then l.tail else l
def put(l:List Ln)(x:Ln):List Ln:=if bp x.m=0 then room (drop l x.m)++[x] else l
def evict(l:List Ln):List Ln:=l.tail
def find(l:List Ln)(p:Int):Option Ln:=l.find? fun x=>N x.m p
structure Ok (l:List Ln):Prop where
 len:l.length≤6
 chk:∀x∈l,bp x.m=0
 apart:l.Pairwise fun a b=>ey a.m b.m=C
theorem Ok.nil:Ok []:=⟨by simp,fun x h=>(by cases h),List.Pairwise.nil⟩
theorem Ok.sub{l k:List Ln}(h:Ok l)(s:k.Sublist l):Ok k:=
 ⟨Nat.le_trans s.length_le h.len,fun x hx=>h.chk x (s.subset hx),h.apart.sublist s⟩
theorem Ok.drop{l:List Ln}(h:Ok l)(m:Z):Ok (drop l m):=h.sub List.filter_sublist
theorem Ok.evict{l:List Ln}(h:Ok l):Ok (evict l):=h.sub (List.tail_sublist l)
theorem drop_apart(l:List Ln)(m:Z):∀x∈drop l m,ey x.m m=C:=fun x hx=>by
 have:=(List.mem_filter.1 hx).2;simpa using this
theorem room_sub(l:List Ln):(room l).Sublist l:=by
 unfold room;split
 ·exact List.tail_sublist l
 ·exact List.Sublist.refl l
theorem room_len{l:List Ln}(h:l.length≤6):(room l).length ≤5:=by
 unfold room;split
 ·simp;omega
 ·omega
theorem Ok.put{l:List Ln}(h:Ok l)(x:Ln):Ok (put l x):=by
 unfold Tl.put;split
 ·rename_i hc
  have hd:=h.drop x.m;have hr:=hd.sub (room_sub _);refine⟨?_,fun y hy=> ?_,?_⟩
  ·have:=room_len hd.len
   simp;omega
  ·rcases List.mem_append.1 hy with hy|hy
   ·exact hr.chk y hy
   ·rw[List.mem_singleton.1 hy]
    exact hc
  ·rw[List.pairwise_append]
   refine⟨hr.apart,List.pairwise_singleton _ _,fun a ha b hb=> ?_⟩;rw[List.mem_singleton.1 hb];exact drop_apart l x.m a ((room_sub _).subset ha)
 ·exact h
end Tl
structure Ck where
 on:Bool
 a:Ac
 t:Int
 level:Int
 mark:Bool
 w:Int
structure Rs where
 fin:Bool
 an:An
 ln:Ln
def Rs.zero:Rs:=⟨C,An.zero,⟨Mp.zero,C⟩⟩
def Ck.zero:Ck:=⟨C,Ac.zero,0,0,C,0⟩
def Ck.idle(c:Ck):Ck:={c with on:=C,a:=Ac.zero,mark:=C}
def Ck.again(c:Ck)(root:Int):Ck:=if c.on=B then {c with t:=root,level:=3,mark:=C} else c
def Ck.begin(c:Ck)(root:Int)(a:Ac):Ck:={c with on:=B,a:=a,t:=root,level:=3,mark:=C}
def fI(e:En)(a:Ac):Bool:=e.used&&(e.dirty||a.kind !=1)
def b8(e:En)(a:Ac):En:={e with used:=B,dirty:=e.dirty||a.kind==1}
structure Sp where
 c:Ck
 s:S
 r:Rs
 code:Int
def Ck.word(c:Ck)(s:S):Int:=ar s c.t (ai c.a.page c.level)
def Ck.leafEnd(c:Ck)(s:S)(e:En):Sp:=
 ⟨c.idle,s,⟨B,cv (aK e c.level c.a.page) c.a,⟨aK e c.level c.a.page,e.dirty⟩⟩,0⟩
def Ck.endWith(c:Ck)(s:S)(f:Int):Sp:=⟨c.idle,s,⟨B,⟨f,0,0⟩,⟨Mp.zero,C⟩⟩,0⟩
def be(s:S)(root:Int)(c:Ck):Sp:=
 if c.on=C then⟨c,s,Rs.zero,9⟩
 else if s.has c.t=C then⟨c,s,Rs.zero,12⟩
 else if c.mark=B∧c.word s≠c.w then⟨c.again root,s,Rs.zero,0⟩
 else if bv (c.word s) c.level≠0 then⟨c,s,Rs.zero,bv (c.word s) c.level⟩
 else if(aC (c.word s) c.level).there =C then c.endWith s 1
 else if(aC (c.word s) c.level).leaf =C then⟨{c with t:=(aC (c.word s) c.level).frame,level:=c.level - 1},s,Rs.zero,0⟩
 else if may (aC (c.word s) c.level).rights c.a=C then c.endWith s 2
 else if c.mark=B then
  c.leafEnd (s.setW c.t.toNat (ai c.a.page c.level).toNat (bF (b8 (aC (c.word s) c.level) c.a) c.level)) (b8 (aC (c.word s) c.level) c.a)
 else if fI (aC (c.word s) c.level) c.a=B then c.leafEnd s (aC (c.word s) c.level)
 else⟨{c with mark:=B,w:=c.word s},s,Rs.zero,0⟩
structure Ck.Ok (c:Ck):Prop where
 acc:c.on=B→aH c.a=0
 l0:c.on=B→0≤c.level
 l3:c.on=B→c.level≤3
 off:c.on=C→c.a=Ac.zero∧c.mark=C
 dec:c.mark=B→bv c.w c.level=0
 leaf:c.mark=B→(aC c.w c.level).there =B∧(aC c.w c.level).leaf =B
 may:c.mark=B→may (aC c.w c.level).rights c.a=B
 need:c.mark=B→fI (aC c.w c.level) c.a=C
theorem Ck.Ok.zero:Ck.zero.Ok:=⟨fun h=>(by cases h),fun h=>(by cases h),fun h=>(by cases h),fun _=>⟨rfl,rfl⟩,fun h=>(by cases h),fun h=>(by cases h),fun h=>(by cases h),fun h=>(by cases h)⟩
theorem Ck.Ok.idle{c:Ck}:c.idle.Ok:=⟨fun h=>(by cases h),fun h=>(by cases h),fun h=>(by cases h),fun _=>⟨rfl,rfl⟩,fun h=>(by cases h),fun h=>(by cases h),fun h=>(by cases h),fun h=>(by cases h)⟩
theorem Ck.Ok.begin{c:Ck}(root:Int){a:Ac}(h:aH a=0):(c.begin root a).Ok :=
 ⟨fun _=>h,fun _=>(by show(0:Int)≤3;omega),fun _=>(by show(3:Int)≤3;omega),fun h=>(by cases h),fun h=>(by cases h),fun h=>(by cases h),fun h=>(by cases h),fun h=>(by cases h)⟩
theorem Ck.Ok.again{c:Ck}(h:c.Ok)(root:Int):(c.again root).Ok :=by
 unfold Ck.again;split
 ·rename_i hon
  exact⟨fun _=>h.acc hon,fun _=>(by show(0:Int)≤3;omega),fun _=>(by show(3:Int)≤3;omega),fun h=>(by rw[hon] at h;cases h),fun h=>(by cases h),fun h=>(by cases h),fun h=>(by cases h),fun h=>(by cases h)⟩
 ·exact h
theorem Ck.Ok.step{c:Ck}(h:c.Ok)(s:S)(root:Int):(be s root c).c.Ok :=by
 unfold be;split
 ·exact h
 rename_i hon;have hon:c.on=B:=by simpa using hon
 split
 ·exact h
 split
 ·exact h.again root
 rename_i hm;split
 ·exact h
 rename_i hd;have hd:bv (c.word s) c.level=0:=by simpa using hd
 split
 ·exact Ck.Ok.idle
 rename_i ht;split
 ·rename_i hl
  have hmk:c.mark=C:=by
   cases hmk:c.mark with
   |false=>rfl
   |true=>
    have e:c.word s=c.w:=Decidable.byContradiction fun e=>hm ⟨hmk,e⟩;have:=(h.leaf hmk).2;rw[←e,hl] at this;cases this
  have h0:=h.l0 hon;have hpos:0<c.level:=by
   refine Decidable.byContradiction fun hn=> ?_;have e0:c.level=0:=by omega
   rw[e0] at hd ht hl;rcases d9 hd with hx|hx
   ·exact ht hx
   ·rw[hl] at hx;cases hx
  have h3:=h.l3 hon;exact⟨fun _=>h.acc hon,fun _=>(by show 0≤c.level - 1;omega),fun _=>(by show c.level - 1≤3;omega),fun hx=>(by have:c.on=C:=hx;rw[hon] at this;cases this),fun hx=>(by have:c.mark=B:=hx;rw[hmk] at this;cases this),
   fun hx=>(by have:c.mark=B:=hx;rw[hmk] at this;cases this),fun hx=>(by have:c.mark=B:=hx;rw[hmk] at this;cases this),fun hx=>(by have:c.mark=B:=hx;rw[hmk] at this;cases this)⟩
 rename_i hl;split
 ·exact Ck.Ok.idle
 rename_i hmay;split
 ·exact Ck.Ok.idle
 split
 ·exact Ck.Ok.idle
 rename_i hr;exact⟨h.acc,h.l0,h.l3,fun hx=>(by have:c.on=C:=hx;rw[hon] at this;cases this),fun _=>hd,fun _=>⟨by simpa using ht,by simpa using hl⟩,fun _=>(by simpa using hmay),fun _=>(by simpa using hr)⟩
theorem rp(e:En)(a:Ac):b8 e a=e↔fI e a=B:=by
 obtain⟨t,l,r,u,d,f⟩:=e;unfold b8 fI;constructor
 ·intro h
  injection h with _ _ _ h4 h5 _
  cases u<;>cases d<;>simp_all
 ·intro h
  cases u<;>cases d<;>simp_all
section
variable {s:S} {r:Int} {gone:List Int} {X:Int→Prop} {L:List Z}
theorem tz{L:Nat}(h:L≤3):jS 0 L:=⟨(dC h).1,by rw[(dC h).2];simp[En.zero]⟩
theorem rU(hw:Wf s r gone X){p t v:Int}{d:Nat}(hp:cH p)(he:Ends s r p d t)(hv:jS v (3 - d)):∀q,cH q→
  if q / az (3 - d)=p / az (3 - d) then bo (cm s p t d v) r q=⟨0,ct s r q (d+1),((3 - d:Nat):Int),aC v (3 - d:Nat)⟩∧bo s r q=⟨0,ct s r q (d+1),((3 - d:Nat):Int),cq s p t (3 - d)⟩
  else bo (cm s p t d v) r q=bo s r q:=by
 intro q hq;obtain⟨e,u,hu⟩:=hw.ends q hq;obtain⟨hu',hE⟩:=mT hw hp he.le he.tab he.no hv hq hu;have htabs:ct (cm s p t d v) r q (e+1)=ct s r q (e+1):=by
  unfold ct;refine List.map_congr_left fun x hx=> ?_;rw[fp hw hp he.le he.tab he.no hv hq x (by have:=List.mem_range.1 hx;have:=hu.le;omega)]
 by_cases hpre:q / az (3 - d)=p / az (3 - d)
 ·rw[if_pos hpre]
  obtain⟨hs,hse⟩:=he.same hp hq hpre;obtain⟨rfl,rfl⟩:=hs.unique hu;rw[if_pos ⟨rfl,hpre⟩] at hE;rw[bM hq.1 hq.2 hu',bM hq.1 hq.2 hu,hE,hse,htabs];exact⟨rfl,rfl⟩
 ·rw[if_neg hpre]
  rw[if_neg (fun h=>hpre h.2)] at hE;rw[bM hq.1 hq.2 hu',bM hq.1 hq.2 hu,hE,htabs]
theorem eh{s s':S}{r q:Int}(h:bo s' r q=bo s r q):ba s' r q=ba s r q:=by unfold ba;rw[h]
theorem fJ{p:Int}(h:bm s r p=0):cH p:=by
 apply Classical.byContradiction;intro hn;have:=qu (s:=s) (r:=r) hn;unfold bm at h;rw[this] at h;cases h
theorem Wf.found(hw:Wf s r gone X){p:Int}(h:bm s r p=0):∃d t,Ends s r p d t∧(cq s p t (3 - d)).leaf =B∧bo s r p=⟨0,ct s r p (d+1),((3 - d:Nat):Int),cq s p t (3 - d)⟩∧ba s r p=E (bJ s r p)∧
  3 - d<3∧∀q,N (bJ s r p) q=decide (q / az (3 - d)=p / az (3 - d)):=by
 have hp:=fJ h;obtain⟨d,t,he⟩:=hw.ends p hp;have hwe:=bM hp.1 hp.2 he;have hf:=hw.find hp;rw[h] at hf;have hm:ba s r p=E (bJ s r p):=by
  cases hh:ba s r p with
  |none=>rw[hh] at hf;cases hf.1
  |some m=>rw[hf.2,hh];rfl
 have hl:(cq s p t (3 - d)).leaf =B:=by
  rw[aT hp he] at hm;split at hm
  ·assumption
  ·cases hm
 have hfm:bJ s r p=aK (cq s p t (3 - d)) ((3 - d:Nat):Int) p:=by
  rw[aT hp he,if_pos hl] at hm;injection hm with hm
  exact hm.symm
 obtain⟨h3,_,ho⟩:=he.map hp hl;refine⟨d,t,he,hl,hwe,hm,h3,fun q=> ?_⟩;rw[hfm];exact ho q
theorem mQ(hw:Wf s r gone (fun _=>False))(hi:s.Inv){p:Int}(hf:bm s r p=0):
  Wf (dn s r p) r ((gR s r p).reverse ++gone) (fun _=>False)∧(dn s r p).Inv ∧(dn s r p).n =s.n∧(dn s r p).frees =s.frees∧(∀u,(dn s r p).tk u=s.tk u)∧
  ∀q,cH q→ba (dn s r p) r q=(if N (bJ s r p) q=B then D else ba s r q)∧(N (bJ s r p) q=C→ba s r q≠D→bo (dn s r p) r q=bo s r q):=by
 have hp:=fJ hf;obtain⟨d,t,he,hl,hwe,hm,h3,ho⟩:=hw.found hf;have hle:=he.le;unfold dn gR;rw[if_pos hf,if_pos hf,hwe];dsimp only;rw[kR,Nat.add_sub_cancel];have hv:=tz (show 3 - d≤3 by omega);have hP:=hw.put hp he.le he.tab he.no hv;have hX:Wf (cm s p t d 0) r gone (fun u=>u=t):=hP.mono (by
  rintro u (⟨a,_⟩|a)
  ·exact a.elim
  ·exact a.2)
 have hmp:=rU hw hp he hv;have hmap:∀q,cH q→ba (cm s p t d 0) r q=(if N (bJ s r p) q=B then D else ba s r q)∧(N (bJ s r p) q=C→ba s r q≠D→bo (cm s p t d 0) r q=bo s r q):=fun q hq=>by
  have:=hmp q hq;rw[ho q];split at this
  ·rename_i hpre
   rw[decide_eq_true hpre,if_pos rfl];refine⟨?_,fun h=>by cases h⟩;unfold ba;rw[this.1,(dC (show 3 - d≤3 by omega)).2];rfl
  ·rename_i hpre
   rw[decide_eq_false hpre,if_neg (by simp)];exact⟨eh this,fun _ _=>this⟩
 have hPi:(cm s p t d 0).Inv :=hi.setW _ _ (by omega);cases d with
 |zero=>
  have htr:t=r:=by have:=he.tab;injection this with this;exact this.symm
  have e0:(ct s r p 1).getD 0 0=t:=iF he.tab (by omega);have es:fy p (ct s r p (0+1)) 0 s=(cm s p t 0 0,[]):=by unfold fy;rw[e0]
  rw[es];subst htr;exact⟨hX.no_root,hPi,rfl,rfl,fun _=>rfl,hmap⟩
 |succ k=>
  have e0:(ct s r p (k+1+1)).getD (k+1) 0=t:=iF he.tab (by omega);have ez:s.setW ((ct s r p (k+1+1)).getD (k+1) 0).toNat (ai p (3 - (k+1):Nat)).toNat 0=cm s p t (k+1) 0:=by rw[e0]
  unfold fy;rw[ez,e0];by_cases hz:i7 (cm s p t (k+1) 0) t=B
  ·rw[if_pos hz]
   have htab:∀j,j≤k+1→aW (cm s p t (k+1) 0) r p j=aW s r p j:=fun j hj=>fp hw hp he.le he.tab he.no hv hp j (by omega);obtain⟨i1,i2,i3,i4,i5,i6⟩:=xE hp k (cm s p t (k+1) 0) r gone t (ct s r p (k+1+1)) (by omega) hPi hX (by rw[htab _ (Nat.le_refl _)];exact he.tab) hz (fun j hj=>by
    rw[htab j (by omega)];obtain⟨u,hu⟩:=du he.tab (show j≤k+1 by omega);rw[iF hu (by omega),hu];rfl)
   refine⟨?_,i2,i3,i4,i5,fun q hq=> ?_⟩
   ·dsimp only
    rw[List.reverse_cons,List.append_assoc];exact i1
   ·have a:=i6 q hq
    have b:=hmap q hq;refine⟨a.1.trans b.1,fun h1 h2=> ?_⟩;have hb:=b.2 h1 h2;have:ba (cm s p t (k+1) 0) r q≠D:=by rw[eh hb];exact h2
    exact(a.2 this).trans hb
  ·rw[if_neg hz]
   exact⟨hX.no_full (by simpa using hz),hPi,rfl,rfl,fun _=>rfl,hmap⟩
theorem rV(hw:Wf s r gone (fun _=>False))(hi:s.Inv){p t:Int}{d:Nat}(hp:cH p)(he:Ends s r p d t){e':En}(hf:ao e' (3 - d:Nat)=0)(hl':e'.leaf=B):
  Wf (cm s p t d (bF e' (3 - d:Nat))) r gone (fun _=>False)∧(cm s p t d (bF e' (3 - d:Nat))).Inv ∧
  ∀q,cH q→if q / az (3 - d)=p / az (3 - d) then bo (cm s p t d (bF e' (3 - d:Nat))) r q=⟨0,ct s r q (d+1),((3 - d:Nat):Int),e'⟩∧bo s r q=⟨0,ct s r q (d+1),((3 - d:Nat):Int),cq s p t (3 - d)⟩
   else bo (cm s p t d (bF e' (3 - d:Nat))) r q=bo s r q:=by
 have ht:e'.there=B:=by
  cases h:e'.there with
  |true=>rfl
  |false=>rw[dy hf h] at hl';cases hl'
 obtain⟨k1,k2,k3⟩:=ky hf;have hv:jS (bF e' (3 - d:Nat)) (3 - d):=⟨k1,by rw[k2,hl'];simp⟩;have hne:bF e' (3 - d:Nat)≠0:=fun h=>by rw[k3.1 h] at ht;cases ht
 have hrg:0≤bF e' (3 - d:Nat)∧bF e' (3 - d:Nat)<18446744073709551616:=by
  have:=jr (dB hf ht);unfold bF;rw[if_pos ⟨hf,ht⟩];omega
 refine⟨(hw.put hp he.le he.tab he.no hv).mono ?_,hi.setW _ _ hrg,fun q hq=> ?_⟩
 ·rintro u (⟨a,_⟩|a)
  ·exact a
  ·exact hne a.1
 ·have:=rU hw hp he hv q hq
  rw[k2] at this;exact this
theorem nX{e:En}{l ri:Int}(hf:ao e l=0)(hl:e.leaf=B)(h0:0≤ri)(h7:ri≤7):ao {e with rights:=ri} l=0:=by
 have ht:e.there=B:=by
  cases h:e.there with
  |true=>rfl
  |false=>rw[dy hf h] at hl;cases hl
 have hk:=dB hf ht;exact jq ht ⟨hk.l0,hk.l4,h0,h7,hk.f0,hk.f1,hk.leaf,fun h=>by rw[hl] at h;cases h⟩
theorem rW{e:En}{l:Int}(a:Ac)(hf:ao e l=0)(hl:e.leaf=B):ao (b8 e a) l=0∧(b8 e a).leaf =B:=by
 have ht:e.there=B:=by
  cases h:e.there with
  |true=>rfl
  |false=>rw[dy hf h] at hl;cases hl
 have hk:=dB hf ht;exact⟨jq ht ⟨hk.l0,hk.l4,hk.r0,hk.r7,hk.f0,hk.f1,hk.leaf,fun h=>by have h':e.leaf=C:=h;rw[hl] at h';cases h'⟩,hl⟩
theorem rX(hw:Wf s r gone (fun _=>False))(hi:s.Inv){p ri:Int}(hf:iV s r p ri=0):
  Wf (iH s r p ri) r gone (fun _=>False)∧(iH s r p ri).Inv ∧(iH s r p ri).n =s.n∧(iH s r p ri).frees =s.frees∧(∀u,(iH s r p ri).tk u=s.tk u)∧
  ∀q,cH q→(N (bJ s r p) q=B→ba s r q=E (bJ s r p)∧ba (iH s r p ri) r q=E {bJ s r p with rights:=ri}∧(bo (iH s r p ri) r q).e ={(bo s r q).e with rights:=ri})∧
   (N (bJ s r p) q=C→bo (iH s r p ri) r q=bo s r q):=by
 have hr:0≤ri∧ri≤7:=by
  unfold iV at hf;split at hf
  ·cases hf
  ·omega
 have hf0:bm s r p=0:=by
  unfold iV at hf;rw[if_neg (by omega)] at hf;exact hf
 have hp:=fJ hf0;obtain⟨d,t,he,hl,hwe,hm,h3,ho⟩:=hw.found hf0;have hef:=(gh he.dec).1;have hf':ao {cq s p t (3 - d) with rights:=ri} (3 - d:Nat)=0:=nX hef hl hr.1 hr.2;have es:iH s r p ri=cm s p t d (bF {cq s p t (3 - d) with rights:=ri} (3 - d:Nat)):=by
  unfold iH;rw[if_pos hf,hwe];dsimp only;rw[iW he.tab]
 rw[es];obtain⟨i1,i2,i3⟩:=rV hw hi hp he hf' hl;refine⟨i1,i2,rfl,rfl,fun _=>rfl,fun q hq=>⟨fun hov=> ?_,fun hov=> ?_⟩⟩
 ·have:=i3 q hq
  rw[ho q] at hov;have hpre:=of_decide_eq_true hov;rw[if_pos hpre] at this;have hmq:ba s r q=E (bJ s r p):=Wf.overMap hw hp hq hm (by rw[ho q];exact hov) hw;refine⟨hmq,?_,?_⟩
  ·unfold ba at hmq⊢
   rw[this.2] at hmq;rw[this.1];dsimp only at hmq⊢;rw[if_pos hl] at hmq;rw[if_pos hl];injection hmq with hmq
   rw[←hmq];have hef2:ao (cq s p t (3 - d)) (3 - d:Nat)=0:=hef;rw[fL hq hf' hl (dR h3),fL hq hef2 hl (dR h3)]
  ·rw[this.1,this.2]
 ·have:=i3 q hq
  rw[ho q] at hov;rw[if_neg (of_decide_eq_false hov)] at this;exact this
end
theorem jJ{a:Ac}(h:aH a=0):cN a.page=B:=by
 unfold aH at h;unfold cN;split at h
 ·cases h
 ·split at h
  ·cases h
  ·simp;omega
theorem iO{e:En}{l p:Int}(a:Ac)(hf:ao e l=0)(hl:e.leaf=B):aK (b8 e a) l p=aK e l p:=by
 obtain⟨h1,h2⟩:=rW a hf hl;unfold aK;rw[h1,h2,hf,hl];rfl
theorem mR{e:En}{l p:Int}(hf:ao e l=0)(hl:e.leaf=B)(hp:cN p=B):(aK e l p).rights =e.rights:=by
 have h:0≤p∧p<4096:=by simpa [cN] using hp
 unfold aK;rw[if_pos ⟨hf,hl,h⟩]
theorem rq(e:En)(a:Ac):fI (b8 e a) a=B:=by
 obtain⟨t,l,r,u,d,f⟩:=e;obtain⟨p,k,us⟩:=a;unfold fI b8;dsimp only;cases d<;>simp
 by_cases h:k=1<;>simp[h]
theorem ju(e:En)(l:Int):0≤bF e l∧bF e l<18446744073709551616:=by
 unfold bF;split
 ·rename_i h
  obtain⟨_,a,b⟩:=jr (dB h.1 h.2);omega
 ·omega
theorem oN{a b:Z}{p:Int}(ha:N a p=B)(hb:N b p=B):ey a b=B:=by
 rw[dr] at ha hb;unfold ey;rw[Bool.or_eq_true,dr,dr];omega
theorem tC(a b:Z):ey a b=ey b a:=Bool.or_comm _ _
namespace Tl
theorem Ok.one{l:List Ln}(h:Ok l){x y:Ln}(hx:x∈l)(hy:y∈l){p:Int}(ox:N x.m p=B)(oy:N y.m p=B):x=y:=by
 obtain⟨i,hi,rfl⟩:=List.getElem_of_mem hx;obtain⟨j,hj,rfl⟩:=List.getElem_of_mem hy;have hm:=oN ox oy;rcases Nat.lt_trichotomy i j with hlt|rfl|hlt
 ·rw[List.pairwise_iff_getElem.1 h.apart i j hi hj hlt] at hm;cases hm
 ·rfl
 ·rw[tC,List.pairwise_iff_getElem.1 h.apart j i hj hi hlt] at hm;cases hm
def idx(l:List Ln)(p:Int):Int:=match l.findIdx? fun x=>N x.m p with|some k=>(k:Int)|none=> -1
theorem idx_find(l:List Ln)(p:Int):(find l p=D∧idx l p= -1)∨∃(k:Nat) (h:k<l.length),idx l p=k∧find l p=E l[k]∧N l[k].m p=B:=by
 unfold find idx;cases hf:l.findIdx? fun x=>N x.m p with
 |none=>
  left;refine⟨?_,rfl⟩;rw[List.find?_eq_none];intro x hx;have:=List.findIdx?_eq_none_iff.1 hf x hx;simpa using this
 |some k=>
  right;obtain⟨hk,h1,h2⟩:=List.findIdx?_eq_some_iff_getElem.1 hf;refine⟨k,hk,rfl,?_,h1⟩;rw[List.find?_eq_some_iff_getElem];exact⟨h1,k,hk,rfl,fun j hj=>by have:=h2 j hj;simpa using this⟩
end Tl
def mS(l:List Ln)(a:Ac):Option An:=
 match Tl.find l a.page with
 |some x=>if x.dirty=B∨a.kind≠1∨may x.m.rights a=C then E (cv x.m a) else D
 |none=>D
structure Bq where
 an:An
 fin:Bool
 code:Int
 c:Ck
def dv(l:List Ln)(root:Int)(k:Ck)(a:Ac):Bq:=
 if aH a≠0 then⟨An.zero,C,aH a,k⟩
 else if k.on=B then⟨An.zero,C,8,k⟩
 else match mS l a with
  |some r=>⟨r,B,0,k⟩
  |none=>⟨An.zero,C,0,k.begin root a⟩
theorem vv{l:List Ln}{root:Int}{k:Ck}{a:Ac}(h:k.Ok):(dv l root k a).c.Ok :=by
 unfold dv;split;· exact h
 rename_i hc;split;· exact h
 split;· exact h
 exact Ck.Ok.begin root (by simpa using hc)
def iz(l:List Ln)(r:Rs):List Ln:=if r.fin=B∧r.an.fin=0 then Tl.put l r.ln else l
theorem tD{s:S}{root:Int}{c:Ck}(h:(be s root c).code ≠0):(be s root c).r =Rs.zero:=by
 unfold be at h⊢;split;· rfl
 rename_i h1;rw[if_neg h1] at h;split;· rfl
 rename_i h2;rw[if_neg h2] at h;split;· rfl
 rename_i h3;rw[if_neg h3] at h;split;· rfl
 rename_i h4;rw[if_neg h4] at h;split
 ·rename_i h5;rw[if_pos h5] at h;exact absurd rfl h
 rename_i h5;rw[if_neg h5] at h;split
 ·rfl
 rename_i h6;rw[if_neg h6] at h;split
 ·rename_i h7;rw[if_pos h7] at h;exact absurd rfl h
 rename_i h7;rw[if_neg h7] at h;split
 ·rename_i h8;rw[if_pos h8] at h;exact absurd rfl h
 rename_i h8;rw[if_neg h8] at h;split
 ·rename_i h9;rw[if_pos h9] at h;exact absurd rfl h
 ·rfl
theorem nq(e:En)(l p:Int):0≤(aK e l p).page ∧(aK e l p).page <4096:=by
 unfold aK;split
 ·rename_i h
  by_cases h0:bE l=0
  ·show 0≤p / bE l*bE l∧p / bE l*bE l<4096
   rw[h0];omega
  have hs:0<bE l:=by rcases qd h0 with ⟨_,e⟩|⟨_,e⟩|⟨_,e⟩<;>omega
  have h1:=Int.ediv_mul_le p h0;have h2:0≤p / bE l:=Int.ediv_nonneg (by omega) (by omega);have h3:0≤p / bE l*bE l:=Int.mul_nonneg h2 (by omega);exact⟨h3,by show p / bE l*bE l<4096;omega⟩
 ·exact⟨by show(0:Int)≤0;omega,by show(0:Int)<4096;omega⟩
theorem rr(s:S)(root:Int)(c:Ck):bX (be s root c).r.ln.m.page :=by
 have hz:bX Mp.zero.page:=by show bX 0;unfold bX;omega
 have hl:∀e l p,bX (aK e l p).page :=fun e l p=>by have:=nq e l p;unfold bX;omega
 unfold be;split;· exact hz
 split;· exact hz
 split;· exact hz
 split;· exact hz
 split;· exact hz
 split;· exact hz
 split;· exact hz
 split;· exact hl _ _ _
 split;· exact hl _ _ _
 exact hz
theorem vw{l:List Ln}(h:Tl.Ok l)(r:Rs):Tl.Ok (iz l r):=by
 unfold iz;split
 ·exact h.put _
 ·exact h
structure Agree (s s':S):Prop where
 n:s.n=s'.n
 tk:∀k,s.tk k=s'.tk k
 fr:s.frees=s'.frees
 wd:∀k i,s.tk k=B→s.wd k i=s'.wd k i
section
variable {s s':S}
theorem Agree.refl(s:S):Agree s s:=⟨rfl,fun _=>rfl,rfl,fun _ _ _=>rfl⟩
theorem Agree.trans{s2:S}(h:Agree s s')(k:Agree s' s2):Agree s s2:=⟨h.n.trans k.n,fun j=>(h.tk j).trans (k.tk j),h.fr.trans k.fr,fun j i ht=>(h.wd j i ht).trans (k.wd j i (by rw[←h.tk];exact ht))⟩
theorem Agree.has(h:Agree s s')(k:Int):s.has k=s'.has k:=by
 unfold Ms.has;rw[h.n,h.tk]
theorem Agree.word(h:Agree s s'){t:Int}(ht:s.has t=B)(i:Int):ar s t i=ar s' t i:=h.wd _ _ (Ms.has_iff.1 ht).2.2
theorem Agree.wayStep(h:Agree s s')(p:Int)(L:Nat)(t:Int)(acc:List Int){f g:Int→Wy}(hfg:∀x,f x=g x):hO s p L t acc f=hO s' p L t acc g:=by
 unfold Go.Proofs.YtmfheghbgihdmaaGreatDoor.hO;rw[←h.has t];cases ht:s.has t with
 |false=>rfl
 |true=>rw[h.word ht,hfg]
theorem Agree.wayA(h:Agree s s')(p:Int):∀(L:Nat) (t:Int) (acc:List Int),cQ s p L t acc=cQ s' p L t acc
 |0,t,acc=>h.wayStep p 0 t acc fun _=>rfl
 |L+1,t,acc=>h.wayStep p (L+1) t acc fun _=>Agree.wayA h p L _ _
theorem Agree.way(h:Agree s s')(r p:Int):bo s r p=bo s' r p:=by
 unfold Go.Proofs.YtmfheghbgihdmaaGreatDoor.bo;rw[h.wayA p 3 r []]
theorem Agree.scanV(h:Agree s s')(L:Nat){t:Int}(ht:s.has t=B)(a:Int){f g:Int→Int→Vs}(hfg:∀x y,f x y=g x y):∀is:List Nat,cK s L t a f is=cK s' L t a g is
 | []=>rfl
 |i::is=>by
  unfold Go.Proofs.YtmfheghbgihdmaaGreatDoor.cK;rw[h.word ht,Agree.scanV h L ht a hfg is];simp only[hfg]
theorem Agree.eachV(h:Agree s s'):∀(L:Nat) (t a:Int),bV s L t a=bV s' L t a
 |0,t,a=>by
  unfold Go.Proofs.YtmfheghbgihdmaaGreatDoor.bV;rw[←h.has t];cases ht:s.has t with
  |false=>rfl
  |true=>rw[if_neg (by simp),if_neg (by simp)];exact h.scanV 0 ht a (fun _ _=>rfl) _
 |L+1,t,a=>by
  unfold Go.Proofs.YtmfheghbgihdmaaGreatDoor.bV;rw[←h.has t];cases ht:s.has t with
  |false=>rfl
  |true=>rw[if_neg (by simp),if_neg (by simp)];exact h.scanV (L+1) ht a (fun x y=>Agree.eachV h L x y) _
theorem Agree.top(h:Agree s s'):s.top=s'.top:=by rw[←Ms.frees_top,←Ms.frees_top,h.fr]
theorem Agree.setW(h:Agree s s')(k i:Nat)(v:Int):Agree (s.setW k i v) (s'.setW k i v):=
 ⟨h.n,h.tk,h.fr,fun a b ht=>by
  show(if a=k∧b=i then v else s.wd a b)=(if a=k∧b=i then v else s'.wd a b);rw[h.wd a b ht]⟩
theorem Agree.findC(h:Agree s s')(r p:Int):bm s r p=bm s' r p:=by unfold Go.Proofs.YtmfheghbgihdmaaGreatDoor.bm;rw[h.way r p]
theorem Agree.findM(h:Agree s s')(r p:Int):bJ s r p=bJ s' r p:=by unfold Go.Proofs.YtmfheghbgihdmaaGreatDoor.bJ;rw[h.way r p,h.findC r p]
theorem Agree.findE(h:Agree s s')(r p:Int):jT s r p=jT s' r p:=by unfold Go.Proofs.YtmfheghbgihdmaaGreatDoor.jT;rw[h.way r p,h.findC r p]
theorem Agree.insC(h:Agree s s')(r:Int)(x:Z):dm s r x=dm s' r x:=by unfold Go.Proofs.YtmfheghbgihdmaaGreatDoor.dm;rw[h.way r x.page,h.fr]
end
open Go.ChangeShapes Go.WideShapes Go.ChangeAt Go.RowKit Go.Deep
section
variable {H:Type} {enc:TypeId×M→H} {P:Program} {w:G} {base:Nat} {spare:Nat→Bool} {held:Bool}
theorem xa{n:Int}(h:(Lit.int .i64 n).wf =B):bX n:=by
 simp[Lit.wf,IntKind.min,IntKind.max,IntKind.signed,IntKind.bits] at h;exact⟨by omega,by omega⟩
theorem vx{t:TypeId}{r:Reach}{b0:Nat}{v:M}{x:DataW H}{p:List MemPlace}(ht:P.underlying t=E (.int .i64))(hv:Value.okWide P w r b0 t v)(h:DataW.Trod enc P w base spare held t v x p):∃n,v=F J n∧bX n:=by
 obtain⟨n,rfl,_,_,hw⟩:=open_int ht hv h;exact⟨n,rfl,xa hw⟩
end
set_option maxRecDepth 100000
theorem zg(d:Nat)(a0 b0:Int)(a1 b1:Int)(a2 b2:Int)(a3 b3:Int)(w:G):(Op.equalIn (d+2) 75 (.agg #[F J a0,F J a1,F J a2,F J a3]) (.agg #[F J b0,F J b1,F J b2,F J b3])).run prog w= .ok (a0==b0&&(a1==b1&&(a2==b2&&(a3==b3)))) w:=by
 have ui:=underlying3;have ci:=Tryz.isAgg3;have zi:=Tryz.sizeOf3;have hS:prog.underlying 75=E (.struct (prog.fieldsOf 75)):=by kernel_rfl
 have hp:prog.stoodInHeld 75=C:=by kernel_rfl
 rw[show d+2=(d+1)+1 from rfl,run_equalIn_agg w (d+1) 75 _ _ hS hp];simp only[Program.fieldsOf,underlying75];go_simp;by_cases h0:a0=b0
 ·skip
  by_cases h1:a1=b1
  ·skip
   by_cases h2:a2=b2
   ·skip
    by_cases h3:a3=b3
    ·skip
     simp[h0,h1,h2,h3]
    ·simp[h0,h1,h2,h3]
   ·simp[h0,h1,h2]
  ·simp[h0,h1]
 ·simp[h0]
@[go_sem] theorem Bj (a0 b0:Int) (a1 b1:Int) (a2 b2:Int) (a3 b3:Int) (w:G):(Op.equalIn 10000 75 (.agg #[F J a0,F J a1,F J a2,F J a3]) (.agg #[F J b0,F J b1,F J b2,F J b3])).run prog w= .ok (a0==b0&&(a1==b1&&(a2==b2&&(a3==b3)))) w:=zg 9998 a0 b0 a1 b1 a2 b2 a3 b3 w
@[go_sem] theorem Al:prog.eqGuardType prog.depth 75=C:=by kernel_rfl
theorem tE(d:Nat)(a0 b0:Int)(a1 b1:Int)(a2 b2:Bool)(w:G):(Op.equalIn (d+2) 77 (.agg #[F J a0,F J a1,V a2]) (.agg #[F J b0,F J b1,V b2])).run prog w= .ok (a0==b0&&(a1==b1&&(a2==b2))) w:=by
 have ub:=underlying4;have cb:=Tryz.isAgg4;have zb:=Tryz.sizeOf4;have ui:=underlying3;have ci:=Tryz.isAgg3;have zi:=Tryz.sizeOf3;have hS:prog.underlying 77=E (.struct (prog.fieldsOf 77)):=by kernel_rfl
 have hp:prog.stoodInHeld 77=C:=by kernel_rfl
 rw[show d+2=(d+1)+1 from rfl,run_equalIn_agg w (d+1) 77 _ _ hS hp];simp only[Program.fieldsOf,underlying77];go_simp;by_cases h0:a0=b0
 ·skip
  by_cases h1:a1=b1
  ·skip
   by_cases h2:a2=b2
   ·skip
    simp[h0,h1,h2]
   ·simp[h0,h1,h2]
  ·simp[h0,h1]
 ·simp[h0]
@[go_sem] theorem Am (a0 b0:Int) (a1 b1:Int) (a2 b2:Bool) (w:G):(Op.equalIn 10000 77 (.agg #[F J a0,F J a1,V a2]) (.agg #[F J b0,F J b1,V b2])).run prog w= .ok (a0==b0&&(a1==b1&&(a2==b2))) w:=tE 9998 a0 b0 a1 b1 a2 b2 w
@[go_sem] theorem yi:prog.eqGuardType prog.depth 77=C:=by kernel_rfl
theorem tF(d:Nat)(a0 b0:Int)(a1 b1:Int)(a2 b2:Int)(w:G):(Op.equalIn (d+2) 70 (.agg #[F J a0,F J a1,F J a2]) (.agg #[F J b0,F J b1,F J b2])).run prog w= .ok (a0==b0&&(a1==b1&&(a2==b2))) w:=by
 have ui:=underlying3;have ci:=Tryz.isAgg3;have zi:=Tryz.sizeOf3;have hS:prog.underlying 70=E (.struct (prog.fieldsOf 70)):=by kernel_rfl
 have hp:prog.stoodInHeld 70=C:=by kernel_rfl
 rw[show d+2=(d+1)+1 from rfl,run_equalIn_agg w (d+1) 70 _ _ hS hp];simp only[Program.fieldsOf,underlying70];go_simp;by_cases h0:a0=b0
 ·skip
  by_cases h1:a1=b1
  ·skip
   by_cases h2:a2=b2
   ·skip
    simp[h0,h1,h2]
   ·simp[h0,h1,h2]
  ·simp[h0,h1]
 ·simp[h0]
@[go_sem] theorem Ao (a0 b0:Int) (a1 b1:Int) (a2 b2:Int) (w:G):(Op.equalIn 10000 70 (.agg #[F J a0,F J a1,F J a2]) (.agg #[F J b0,F J b1,F J b2])).run prog w= .ok (a0==b0&&(a1==b1&&(a2==b2))) w:=tF 9998 a0 b0 a1 b1 a2 b2 w
@[go_sem] theorem yj:prog.eqGuardType prog.depth 70=C:=by kernel_rfl
theorem vy(d:Nat)(a0 b0:Bool)(a1 b1:Bool)(a2 b2:Int)(a3 b3:Bool)(a4 b4:Bool)(a5 b5:Int)(w:G):(Op.equalIn (d+2) 81 (.agg #[V a0,V a1,F J a2,V a3,V a4,F J a5]) (.agg #[V b0,V b1,F J b2,V b3,V b4,F J b5])).run prog w= .ok (a0==b0&&(a1==b1&&(a2==b2&&(a3==b3&&(a4==b4&&(a5==b5)))))) w:=by
 have ub:=underlying4;have cb:=Tryz.isAgg4;have zb:=Tryz.sizeOf4;have ui:=underlying3;have ci:=Tryz.isAgg3;have zi:=Tryz.sizeOf3;have hS:prog.underlying 81=E (.struct (prog.fieldsOf 81)):=by kernel_rfl
 have hp:prog.stoodInHeld 81=C:=by kernel_rfl
 rw[show d+2=(d+1)+1 from rfl,run_equalIn_agg w (d+1) 81 _ _ hS hp];simp only[Program.fieldsOf,underlying81];go_simp;by_cases h0:a0=b0
 ·skip
  by_cases h1:a1=b1
  ·skip
   by_cases h2:a2=b2
   ·skip
    by_cases h3:a3=b3
    ·skip
     by_cases h4:a4=b4
     ·skip
      by_cases h5:a5=b5
      ·skip
       simp[h0,h1,h2,h3,h4,h5]
      ·simp[h0,h1,h2,h3,h4,h5]
     ·simp[h0,h1,h2,h3,h4]
    ·simp[h0,h1,h2,h3]
   ·simp[h0,h1,h2]
  ·simp[h0,h1]
 ·simp[h0]
@[go_sem] theorem AA (a0 b0:Bool) (a1 b1:Bool) (a2 b2:Int) (a3 b3:Bool) (a4 b4:Bool) (a5 b5:Int) (w:G):(Op.equalIn 10000 81 (.agg #[V a0,V a1,F J a2,V a3,V a4,F J a5]) (.agg #[V b0,V b1,F J b2,V b3,V b4,F J b5])).run prog w= .ok (a0==b0&&(a1==b1&&(a2==b2&&(a3==b3&&(a4==b4&&(a5==b5)))))) w:=vy 9998 a0 b0 a1 b1 a2 b2 a3 b3 a4 b4 a5 b5 w
@[go_sem] theorem zh:prog.eqGuardType prog.depth 81=C:=by kernel_rfl
theorem vz(d:Nat)(a0 b0:Int)(a1 b1:Int)(w:G):(Op.equalIn (d+2) 33 (.agg #[F J a0,F J a1]) (.agg #[F J b0,F J b1])).run prog w= .ok (a0==b0&&(a1==b1)) w:=by
 have ui:=underlying3;have ci:=Tryz.isAgg3;have zi:=Tryz.sizeOf3;have hS:prog.underlying 33=E (.struct (prog.fieldsOf 33)):=by kernel_rfl
 have hp:prog.stoodInHeld 33=C:=by kernel_rfl
 rw[show d+2=(d+1)+1 from rfl,run_equalIn_agg w (d+1) 33 _ _ hS hp];simp only[Program.fieldsOf,underlying33];go_simp;by_cases h0:a0=b0
 ·skip
  by_cases h1:a1=b1
  ·skip
   simp[h0,h1]
  ·simp[h0,h1]
 ·simp[h0]
@[go_sem] theorem AB (a0 b0:Int) (a1 b1:Int) (w:G):(Op.equalIn 10000 33 (.agg #[F J a0,F J a1]) (.agg #[F J b0,F J b1])).run prog w= .ok (a0==b0&&(a1==b1)) w:=vz 9998 a0 b0 a1 b1 w
@[go_sem] theorem zj:prog.eqGuardType prog.depth 33=C:=by kernel_rfl
@[go_sem] theorem AC (a0 b0:Bool) (a1 b1:Bool) (a2 b2:Bool) (a3 b3:Bool) (w:G):(Op.equalIn 10000 232 (.agg #[V a0,V a1,V a2,V a3]) (.agg #[V b0,V b1,V b2,V b3])).run prog w= .ok (a0==b0&&(a1==b1&&(a2==b2&&(a3==b3)))) w:=by
  have u3:=underlying4;have c3:=Tryz.isAgg4;have z3:=Tryz.sizeOf4;rw[show(10000:Nat)=9999+1 from rfl,Op.equalIn];simp only[Sem.run_bind,run_underlying underlying232,Result.andThen_ok];simp only[Std.Legacy.Range.forIn_eq_forIn_range',Std.Legacy.Range.size,Nat.sub_zero,Nat.add_sub_cancel,Nat.div_one,List.range'_succ,List.range'_zero,List.forIn_cons,List.forIn_nil];go_simp;by_cases h0:a0=b0
  ·skip
   by_cases h1:a1=b1
   ·skip
    by_cases h2:a2=b2
    ·skip
     by_cases h3:a3=b3
     ·skip
      simp[h0,h1,h2,h3]
     ·simp[h0,h1,h2,h3]
    ·simp[h0,h1,h2]
   ·simp[h0,h1]
  ·simp[h0]
@[go_sem] theorem zk:prog.eqGuardType prog.depth 232=C:=by kernel_rfl
@[go_sem] theorem Bp (a0 b0:Int) (a1 b1:Int) (a2 b2:Int) (a3 b3:Int) (a4 b4:Int) (a5 b5:Int) (a6 b6:Int) (a7 b7:Int) (w:G):(Op.equalIn 10000 155 (.agg #[F T a0,F T a1,F T a2,F T a3,F T a4,F T a5,F T a6,F T a7]) (.agg #[F T b0,F T b1,F T b2,F T b3,F T b4,F T b5,F T b6,F T b7])).run prog w= .ok (a0==b0&&(a1==b1&&(a2==b2&&(a3==b3&&(a4==b4&&(a5==b5&&(a6==b6&&(a7==b7)))))))) w:=by
  have u3:=underlying92;have c3:=Tryz.isAgg92;have z3:=Tryz.sizeOf92;rw[show(10000:Nat)=9999+1 from rfl,Op.equalIn];simp only[Sem.run_bind,run_underlying underlying155,Result.andThen_ok];simp only[Std.Legacy.Range.forIn_eq_forIn_range',Std.Legacy.Range.size,Nat.sub_zero,Nat.add_sub_cancel,Nat.div_one,List.range'_succ,List.range'_zero,List.forIn_cons,List.forIn_nil];go_simp;by_cases h0:a0=b0
  ·skip
   by_cases h1:a1=b1
   ·skip
    by_cases h2:a2=b2
    ·skip
     by_cases h3:a3=b3
     ·skip
      by_cases h4:a4=b4
      ·skip
       by_cases h5:a5=b5
       ·skip
        by_cases h6:a6=b6
        ·skip
         by_cases h7:a7=b7
         ·skip
          simp[h0,h1,h2,h3,h4,h5,h6,h7]
         ·simp[h0,h1,h2,h3,h4,h5,h6,h7]
        ·simp[h0,h1,h2,h3,h4,h5,h6]
       ·simp[h0,h1,h2,h3,h4,h5]
      ·simp[h0,h1,h2,h3,h4]
     ·simp[h0,h1,h2,h3]
    ·simp[h0,h1,h2]
   ·simp[h0,h1]
  ·simp[h0]
@[go_sem] theorem AD:prog.eqGuardType prog.depth 155=C:=by kernel_rfl
def fc(s:S):Nat→M:=fun j=>if j % 9=0 then V (s.tk (j / 9)) else(F T) (s.wd (j / 9) (j % 9 - 1))
theorem Ap(s:S)(k:Nat):fc s (k*9)=V (s.tk k):=by
 unfold fc;rw[if_pos (by omega),show k*9 / 9=k by omega]
theorem Aq(s:S)(k i:Nat)(h:i<8):fc s (k*9+1+i)=F T (s.wd k i):=by
 unfold fc;rw[if_neg (by omega),show(k*9+1+i) / 9=k by omega,show(k*9+1+i) % 9 - 1=i by omega]
def ke(l:List Nat):List M:=l.map fun(k:Nat)=>F J (k:Int)
def bC(p g:Nat)(vf:M)(s:S)(R:ab):ab:=
 aa p #[.slice (E (Y g 0 D)) s.n s.n,vf] 229*(aa g (dd (s.n*9) (fc s)) 231*(bt 3 1 vf s.frees.length (ke s.frees)*R))
def ae(p:Nat)(s:S):ab:=ex fun g=>ex fun vf=>bC p g vf s (eZ True)
theorem iA(R:ab):eZ True*R=R:=by
 funext h
 apply propext;constructor
 ·rintro⟨h1,h2,d,rfl,⟨_,rfl⟩,q⟩
  have:Hpm.union Hpm.emp h2=h2:=by funext b;simp[Hpm.union,Hpm.emp]
  rw[this];exact q
 ·intro q
  exact⟨Hpm.emp,h,fun b=> .inl rfl,by funext b;simp[Hpm.union,Hpm.emp],⟨trivial,rfl⟩,q⟩
theorem df{p:Nat}{s:S}{R:ab}{w:G}(h:W w (ae p s*R)):∃g vf,W w (bC p g vf s R):=by
 unfold ae at h;obtain⟨g,h⟩:=aw.1 h;obtain⟨vf,h⟩:=aw.1 h;refine⟨g,vf,?_⟩;unfold bC at h⊢;simpa only[aN,iA] using h
theorem dg{p g:Nat}{vf:M}{s:S}{R:ab}{w:G}(h:W w (bC p g vf s R)):W w (ae p s*R):=by
 unfold ae;refine aw.2 ⟨g,aw.2 ⟨vf,?_⟩⟩;unfold bC at h⊢;simpa only[aN,iA] using h
theorem vC{s:S}{k:Int}(h:¬(0≤k∧k<s.n)):s.has k=C:=by
 unfold Ms.has;by_cases h0:0≤k<;>by_cases h4:k<s.n<;>simp[h0,h4]
 omega
theorem xg{s:S}{k:Nat}(h:k<s.n):s.has k=s.tk k:=by
 unfold Ms.has;have h4:(k:Int)<s.n:=by omega
 simp[h]
theorem fK(p g:Nat)(vf:M)(s:S)(k:Int)(R:ab)(w:G)(h:W w (bC p g vf s R)):
  U prog 221 #[.pointer (E (Y p 0 D)),.int .i64 k] w (ad (V (s.has k)) w):=by
 obtain⟨c0,c1⟩:=h.cells2;by_cases h0:0≤k
 ·by_cases h4:k<s.n
  ·obtain⟨k,rfl⟩:=O h0
   have hc:=h.right.tabGet (j:=k*9) (by omega);rw[Ap] at hc;have hy:=I (xg (s:=s) (k:=k) (by omega));have hg:=h.right.lt;go_enter func221,ntmps221;go_wp2;go_ret;exact⟨by rw[hy.out];rfl,rfl⟩
  ·have hy:=I (vC (s:=s) (k:=k) (by omega))
   go_enter func221,ntmps221;go_wp2;go_ret;exact⟨by rw[hy.out];rfl,rfl⟩
 ·have hy:=I (vC (s:=s) (k:=k) (by omega))
  go_enter func221,ntmps221;go_wp2;go_ret;exact⟨by rw[hy.out];rfl,rfl⟩
def dh(s:S)(g:Nat)(k i:Int):M:=if s.hasW k i then .pointer (E ⟨g,k.toNat*9+1+i.toNat,D⟩) else .pointer D
theorem iB{s:S}{k i:Int}:s.hasW k i=B↔s.has k=B∧0≤i∧i<8:=by
 unfold Ms.hasW;simp
theorem gJ(p g:Nat)(vf:M)(s:S)(k i:Int)(R:ab)(w:G)(h:W w (bC p g vf s R)):
  U prog 229 #[.pointer (E (Y p 0 D)),.int .i64 k,.int .i64 i] w (ad (dh s g k i) w):=by
 obtain⟨c0,c1⟩:=h.cells2;cases hk:s.has k with
 |false=>
  have hy:=I (show dh s g k i= .pointer D by unfold dh Ms.hasW;rw[hk];rfl);go_enter func229,ntmps229;go_wp2_with(go_at_call 221;refine(fK p g vf s _ _ _ h).mono ?_;rintro e w' ⟨rfl,rfl⟩)
  go_ret;exact⟨by rw[hy.out];rfl,rfl⟩
 |true=>
  by_cases i0:i<0
  ·have hy:=I (show dh s g k i= .pointer D by unfold dh Ms.hasW;rw[if_neg];simp;omega)
   go_enter func229,ntmps229;go_wp2_with(go_at_call 221;refine(fK p g vf s _ _ _ h).mono ?_;rintro e w' ⟨rfl,rfl⟩)
   go_ret;exact⟨by rw[hy.out];rfl,rfl⟩
  by_cases i8:8≤i
  ·have hy:=I (show dh s g k i= .pointer D by unfold dh Ms.hasW;rw[if_neg];simp;omega)
   go_enter func229,ntmps229;go_wp2_with(go_at_call 221;refine(fK p g vf s _ _ _ h).mono ?_;rintro e w' ⟨rfl,rfl⟩)
   go_ret;exact⟨by rw[hy.out];rfl,rfl⟩
  have hk':=Ms.has_iff.1 hk;obtain⟨k0,k1,_⟩:=hk';obtain⟨k,rfl⟩:=O k0;obtain⟨i,rfl⟩:=O (show 0≤i by omega);have hy:=I (show dh s g k i= .pointer (E ⟨g,k*9+1+i,D⟩) by unfold dh;rw[if_pos (iB.2 ⟨hk,by omega,by omega⟩)];simp);have hg:=h.right.lt;go_enter func229,ntmps229;go_wp2_with(go_at_call 221;refine(fK p g vf s _ _ _ h).mono ?_;rintro e w' ⟨rfl,rfl⟩)
  go_ret;exact⟨by rw[hy.out];rfl,rfl⟩
def dw(s:S)(k i:Int):Int:=if s.hasW k i then s.wd k.toNat i.toNat else 0
theorem kQ{p g:Nat}{vf:M}{s:S}{k i:Int}{R:ab}{w:G}(h:W w (bC p g vf s R))(hw:s.hasW k i=B):
  w.cell? ⟨g,k.toNat*9+1+i.toNat,D⟩=E (F T (s.wd k.toNat i.toNat)):=by
 obtain⟨hk,i0,i8⟩:=iB.1 hw;obtain⟨k0,k1,_⟩:=Ms.has_iff.1 hk;rw[h.right.tabGet (by omega),Aq _ _ _ (by omega)]
theorem xh(s:S)(k i:Nat)(v:Int)(hi:i<8)(j:Nat):ch (fc s) (k*9+1+i) (F T v) j=fc (s.setW k i v) j:=by
 unfold ch fc Ms.setW;dsimp only;by_cases h:j=k*9+1+i
 ·subst h
  rw[if_pos rfl,if_neg (by omega),show(k*9+1+i) / 9=k by omega,show(k*9+1+i) % 9 - 1=i by omega,if_pos ⟨rfl,rfl⟩]
 ·rw[if_neg h]
  by_cases h9:j % 9=0
  ·rw[if_pos h9,if_pos h9]
  ·rw[if_neg h9,if_neg h9,if_neg (by omega)]
theorem jR{p g:Nat}{vf:M}{s:S}{k i:Nat}{R:ab}{w:G}(h:W w (bC p g vf s R))(hi:i<8)(v:Int):
  W (w.setCell ⟨g,k*9+1+i,D⟩ (F T v)) (bC p g vf (s.setW k i v) R):=
 ((h.p2.tabSet _ _).tabExt fun j _=>xh s k i v hi j).p2
theorem vD(p g:Nat)(vf:M)(s:S)(k i:Int)(R:ab)(w:G)(h:W w (bC p g vf s R)):
  U prog 200 #[.pointer (E (Y p 0 D)),.int .i64 k,.int .i64 i] w (ad (.tuple #[F T (dw s k i),V (s.hasW k i)]) w):=by
 cases hw:s.hasW k i with
 |true=>
  have hc:=kQ h hw;have hy:=I (show dw s k i=s.wd k.toNat i.toNat by unfold dw;rw[if_pos hw]);have hp:dh s g k i= .pointer (E ⟨g,k.toNat*9+1+i.toNat,D⟩):=by unfold dh;rw[if_pos hw]
  clear hw;generalize k.toNat*9+1+i.toNat=o at*
  generalize s.wd k.toNat i.toNat=x at*
  have hg:=h.right.lt;go_enter func200,ntmps200;go_wp2_with(go_at_call 229;refine(gJ p g vf s _ _ _ _ h).mono ?_;rintro e w' ⟨rfl,rfl⟩)
  exact Q (v:= .tuple #[F T x,V B]) (by simp[results,results200,go_sem]) rfl ⟨by rw[hy.out],rfl⟩
 |false=>
  have hy:=I (show dw s k i=0 by unfold dw;rw[hw];rfl);have hp:dh s g k i= .pointer D:=by unfold dh;rw[hw];rfl
  clear hw;go_enter func200,ntmps200;go_wp2_with(go_at_call 229;refine(gJ p g vf s _ _ _ _ h).mono ?_;rintro e w' ⟨rfl,rfl⟩)
  exact Q (v:= .tuple #[F T 0,V C]) (by simp[results,results200,go_sem]) rfl ⟨by rw[hy.out],rfl⟩
def eL(s:S)(k i:Int)(v:Int):S:=if s.hasW k i then s.setW k.toNat i.toNat v else s
theorem tG(p g:Nat)(vf:M)(s:S)(k i v:Int)(R:ab)(w:G)(h:W w (bC p g vf s R)):
  U prog 211 #[.pointer (E (Y p 0 D)),.int .i64 k,.int .i64 i,.int .u64 v] w (cF (V (s.hasW k i)) (bC p g vf (eL s k i v) R) w):=by
 cases hw:s.hasW k i with
 |true=>
  have hc:=kQ h hw;have h2:=jR (k:=k.toNat) (i:=i.toNat) h (by have:=(iB.1 hw).2;omega) v;have hy:=I (show eL s k i v=s.setW k.toNat i.toNat v by unfold eL;rw[if_pos hw]);have hp:dh s g k i= .pointer (E ⟨g,k.toNat*9+1+i.toNat,D⟩):=by unfold dh;rw[if_pos hw]
  clear hw;generalize k.toNat*9+1+i.toNat=o at*
  have hf:=h.right.free o;have hg:=h.right.lt;go_enter func211,ntmps211;go_wp2_with(go_at_call 229;refine(gJ p g vf s _ _ _ _ h).mono ?_;rintro e w' ⟨rfl,rfl⟩)
  go_ret;exact⟨rfl,by rw[hy.out];exact h2,aj⟩
 |false=>
  have hy:=I (show eL s k i v=s by unfold eL;rw[hw];rfl);have hp:dh s g k i= .pointer D:=by unfold dh;rw[hw];rfl
  clear hw;go_enter func211,ntmps211;go_wp2_with(go_at_call 229;refine(gJ p g vf s _ _ _ _ h).mono ?_;rintro e w' ⟨rfl,rfl⟩)
  go_ret;exact⟨rfl,by rw[hy.out];exact h,Ext.refl _⟩
def iC(s:S)(k i cr:Int):Bool:=s.hasW k i&&(s.wd k.toNat i.toNat==cr)
def ia(s:S)(k i cr:Int)(v:Int):S:=if iC s k i cr then s.setW k.toNat i.toNat v else s
theorem vE(p g:Nat)(vf:M)(s:S)(k i cr v:Int)(R:ab)(w:G)(h:W w (bC p g vf s R)):
  U prog 220 #[.pointer (E (Y p 0 D)),.int .i64 k,.int .i64 i,.int .u64 cr,.int .u64 v] w (cF (V (iC s k i cr)) (bC p g vf (ia s k i cr v) R) w):=by
 cases hw:s.hasW k i with
 |true=>
  have hc:=kQ h hw;have h2:=jR (k:=k.toNat) (i:=i.toNat) h (by have:=(iB.1 hw).2;omega) v;have hp:dh s g k i= .pointer (E ⟨g,k.toNat*9+1+i.toNat,D⟩):=by unfold dh;rw[if_pos hw]
  have hs:iC s k i cr=(s.wd k.toNat i.toNat==cr):=by unfold iC;rw[hw];rfl
  clear hw;generalize hx:s.wd k.toNat i.toNat=x at*
  clear hx;have hf:=h.right.free (k.toNat*9+1+i.toNat);have hg:=h.right.lt;generalize k.toNat*9+1+i.toNat=o at*
  cases he:(x==cr) with
  |true=>
   have hy:=I (show ia s k i cr v=s.setW k.toNat i.toNat v by unfold ia;rw[hs,he];rfl);have hz:=I (hs.trans he);clear hs;go_enter func220,ntmps220;go_wp2_with(go_at_call 229;refine(gJ p g vf s _ _ _ _ h).mono ?_;rintro e w' ⟨rfl,rfl⟩)
   go_ret;exact⟨by rw[hz.out];rfl,by rw[hy.out];exact h2,aj⟩
  |false=>
   have hy:=I (show ia s k i cr v=s by unfold ia;rw[hs,he];rfl);have hz:=I (hs.trans he);clear hs;go_enter func220,ntmps220;go_wp2_with(go_at_call 229;refine(gJ p g vf s _ _ _ _ h).mono ?_;rintro e w' ⟨rfl,rfl⟩)
   go_ret;exact⟨by rw[hz.out];rfl,by rw[hy.out];exact h,Ext.refl _⟩
 |false=>
  have hz:=I (show iC s k i cr=C by unfold iC;rw[hw];rfl);have hy:=I (show ia s k i cr v=s by unfold ia;rw[hz.out];rfl);have hp:dh s g k i= .pointer D:=by unfold dh;rw[hw];rfl
  clear hw;go_enter func220,ntmps220;go_wp2_with(go_at_call 229;refine(gJ p g vf s _ _ _ _ h).mono ?_;rintro e w' ⟨rfl,rfl⟩)
  go_ret;exact⟨by rw[hz.out];rfl,by rw[hy.out];exact h,Ext.refl _⟩
theorem vF(p g:Nat)(vf:M)(s:S)(R:ab)(w:G)(h:W w (bC p g vf s R)):
  U prog 127 #[.pointer (E (Y p 0 D))] w (ad (F J (s.frees.length:Nat)) w):=by
 obtain⟨A,c,rfl⟩:=h.right.right.rowForm;obtain⟨c0,c1⟩:=h.cells2;go_enter func127,ntmps127;go_wp2;go_ret;exact⟨rfl,rfl⟩
theorem vG{l:List Nat}{j k:Nat}(h:l[j]? =E k):(ke l)[j]? =E (F J (k:Int)):=by simp[ke,h]
theorem xi(s:S)(k:Nat)(j:Nat):
  ch (ch (ch (ch (ch (ch (ch (ch (ch (fc s) (k*9) (V B)) (k*9+1) (F T 0)) (k*9+2) (F T 0)) (k*9+3) (F T 0)) (k*9+4) (F T 0)) (k*9+5) (F T 0)) (k*9+6) (F T 0)) (k*9+7) (F T 0)) (k*9+8) (F T 0) j=fc (s.take k) j:=by
 unfold ch fc Ms.take;dsimp only;unfold ch;by_cases h:j / 9=k
 ·by_cases h0:j % 9=0
  ·rw[if_neg (by omega),if_neg (by omega),if_neg (by omega),if_neg (by omega),if_neg (by omega),if_neg (by omega),if_neg (by omega),if_neg (by omega),if_pos (by omega),if_pos h0,if_pos h]
  ·rw[if_neg h0,if_neg h0,if_pos h]
   by_cases h8:j=k*9+8
   ·rw[if_pos h8]
   by_cases h7:j=k*9+7
   ·rw[if_neg h8,if_pos h7]
   by_cases h6:j=k*9+6
   ·rw[if_neg h8,if_neg h7,if_pos h6]
   by_cases h5:j=k*9+5
   ·rw[if_neg h8,if_neg h7,if_neg h6,if_pos h5]
   by_cases h4:j=k*9+4
   ·rw[if_neg h8,if_neg h7,if_neg h6,if_neg h5,if_pos h4]
   by_cases h3:j=k*9+3
   ·rw[if_neg h8,if_neg h7,if_neg h6,if_neg h5,if_neg h4,if_pos h3]
   by_cases h2:j=k*9+2
   ·rw[if_neg h8,if_neg h7,if_neg h6,if_neg h5,if_neg h4,if_neg h3,if_pos h2]
   by_cases h1:j=k*9+1
   ·rw[if_neg h8,if_neg h7,if_neg h6,if_neg h5,if_neg h4,if_neg h3,if_neg h2,if_pos h1]
   omega
 ·rw[if_neg (by omega),if_neg (by omega),if_neg (by omega),if_neg (by omega),if_neg (by omega),if_neg (by omega),if_neg (by omega),if_neg (by omega),if_neg (by omega),if_neg h,if_neg h]
theorem vH(p g:Nat)(vf:M)(s:S)(k:Nat)(R:ab)(w:G)(h:W w (bC p g vf s R))(hk:s.top=E k)(hn:k<s.n):
  U prog 111 #[.pointer (E (Y p 0 D))] w fun e w'=>∃vf',cF (F J k) (bC p g vf' (s.take k) R) w e w':=by
 have hfr:=Ms.frees_take s k hk;obtain⟨m,hm⟩:∃m,s.frees.length=m+1:=⟨(s.take k).frees.length,by rw[←hfr];simp⟩;have hm':(s.take k).frees.length =m:=by rw[←hfr] at hm;simpa using hm
 have hlast:s.frees[m]? =E k:=by rw[←hfr,←hm'];simp
 have hints:(ke s.frees).take m=ke (s.take k).frees :=by rw[←hfr,←hm'];simp[ke]
 obtain⟨c0,c1⟩:=h.cells2;have e0:=h.lt;have f1:=h.free 1;have h1:W w (bt 3 1 vf (m+1) (ke s.frees)*(aa p #[.slice (E (Y g 0 D)) s.n s.n,vf] 229*(aa g (dd (s.n*9) (fc s)) 231*R))):=by
  have:=h;unfold bC at this;rw[hm] at this;exact this.eq (by(simp only[aN,av,cy]))
 obtain⟨gf,cap,rfl,hcap,hcap2,hgf,hx⟩:=h1.rowHead;have hx':=hx _ (vG hlast);have h2:=h1.rowPop.p2.set 1 (.slice (E (Y gf 0 D)) m cap);have e1:=h.right.lt;have hm63:m+1≤9223372036854775807:=by unfold maxLen at hcap2;omega
 have h3:=h2.a2.p2;have hg1:=h3.tabGet (j:=k*9) (by omega);have t1:=h3.tabGet (j:=k*9+1) (by omega);have z1:=h3.free (k*9+1);have t2:=h3.tabGet (j:=k*9+2) (by omega);have z2:=h3.free (k*9+2);have t3:=h3.tabGet (j:=k*9+3) (by omega);have z3:=h3.free (k*9+3);have t4:=h3.tabGet (j:=k*9+4) (by omega);have z4:=h3.free (k*9+4);have t5:=h3.tabGet (j:=k*9+5) (by omega);have z5:=h3.free (k*9+5);have t6:=h3.tabGet (j:=k*9+6) (by omega);have z6:=h3.free (k*9+6);have t7:=h3.tabGet (j:=k*9+7) (by omega);have z7:=h3.free (k*9+7);have t8:=h3.tabGet (j:=k*9+8) (by omega);have z8:=h3.free (k*9+8);have z0:=h3.free (k*9);have h4:=((((((((h3.tabSet (k*9) (V B)).tabSet (k*9+1) (F T 0)).tabSet (k*9+2) (F T 0)).tabSet (k*9+3) (F T 0)).tabSet (k*9+4) (F T 0)).tabSet (k*9+5) (F T 0)).tabSet (k*9+6) (F T 0)).tabSet (k*9+7) (F T 0)).tabSet (k*9+8) (F T 0);go_enter func111,ntmps111;go_wp2;go_ret;refine⟨.slice (E (Y gf 0 D)) m cap,rfl,?_,(((((((((((Ext.refl w).set _ _).set _ _).set _ _).set _ _).set _ _).set _ _).set _ _).set _ _).set _ _).set _ _)⟩;have h5:=(h4.tabExt (f':=fc (s.take k)) fun j _=>xi s k j).p2.a1.in2;unfold bC;rw[hm',←hints];exact h5
theorem tH(p g:Nat)(vf:M)(s:S)(R:ab)(w:G)(h:W w (bC p g vf s R))(hk:s.top=D):
  U prog 111 #[.pointer (E (Y p 0 D))] w (ad (F J (-1)) w):=by
 have he:s.frees=[]:=by rw[←Ms.frees_top] at hk;simpa using hk
 obtain⟨c0,c1⟩:=h.cells2;obtain⟨A,c,rfl⟩:=h.right.right.rowForm;have hn:s.frees.length=0:=by rw[he];rfl
 rw[hn] at c1;go_enter func111,ntmps111;go_wp2;go_ret;exact⟨rfl,rfl⟩
theorem gK:kL prog 3 (F J 0) 1 8:=⟨by kernel_rfl,rfl,by omega⟩
theorem xj(s:S)(k:Nat)(j:Nat):ch (fc s) (k*9) (V C) j=fc (s.give k) j:=by
 unfold ch fc Ms.give;dsimp only;unfold ch;by_cases h:j=k*9
 ·rw[if_pos h,if_pos (by omega),if_pos (by omega)]
 ·rw[if_neg h]
  by_cases h0:j % 9=0
  ·rw[if_pos h0,if_pos h0,if_neg (by omega)]
  ·rw[if_neg h0,if_neg h0]
theorem xn(p g:Nat)(vf:M)(s:S)(k:Int)(R:ab)(w:G)(h:W w (bC p g vf s R))(hk:s.has k=C):
  U prog 189 #[.pointer (E (Y p 0 D)),.int .i64 k] w (ad (V C) w):=by
 go_enter func189,ntmps189;go_wp2_with(go_at_call 221;refine(fK p g vf s _ _ _ h).mono ?_;rintro e w' ⟨rfl,rfl⟩)
 go_ret;exact⟨rfl,rfl⟩
theorem vJ(p g:Nat)(vf:M)(s:S)(k:Nat)(R:ab)(w:G)(h:W w (bC p g vf s R))(hk:s.has k=B)(hlen:s.frees.length<1000000):
  U prog 189 #[.pointer (E (Y p 0 D)),.int .i64 k] w fun e w'=>∃vf',cF (V B) (bC p g vf' (s.give k) R) w e w':=by
 obtain⟨k0,k1,_⟩:=Ms.has_iff.1 hk;obtain⟨c0,c1⟩:=h.cells2;obtain⟨A,c,rfl⟩:=h.right.right.rowForm;have e0:=h.lt;have e1:=h.right.lt;have hc:=h.right.tabGet (j:=k*9) (by omega);have hf:=h.right.free (k*9);have f1:=h.free 1;have hne:=h.ne;have h2:=((h.p2.tabSet (k*9) (V C)).tabExt (f':=fc (s.give k)) fun j _=>xj s k j);have h3:W (w.setCell ⟨g,k*9,D⟩ (V C)) (bt 3 1 (.slice A s.frees.length c) s.frees.length (ke s.frees)*(aa p #[.slice (E (Y g 0 D)) s.n s.n,.slice A s.frees.length c] 229*(aa g (dd (s.n*9) (fc (s.give k))) 231*R))):=h2.eq (by(simp only[aN,av,cy]));have d0:=h3.right.cells2.1;have d1:=h3.right.cells2.2;have e2:=h3.right.lt;have hrow:=h3.alloc (.cells #[F J k] 3);have hlen':(s.give k).frees.length =s.frees.length+1:=by rw[Ms.frees_give];simp
 have hints:ke (s.give k).frees =ke s.frees++[F J (k:Int)]:=by rw[Ms.frees_give];simp[ke]
 have hnews:=fj (w.setCell ⟨g,k*9,D⟩ (V C)) (F J k) 3;rw[show(w.setCell ⟨g,k*9,D⟩ (V C)).heap.size =w.heap.size by simp[World.setCell]] at hnews;have HT:=fun k'=>fK p g _ s k' _ _ h;generalize s.frees.length=m at*
 have hL:=I hlen';clear h h2 hlen';go_enter func189,ntmps189;go_wp2_with(first|(go_at_call 221;refine(HT _).mono ?_;rintro e w' ⟨rfl,rfl⟩)|(at_builtin;refine a8 rfl _ _ 55 rfl underlying55 gK _ _ _ rfl hrow (Y w.heap.size 0 D) 1 1 [F J k] rfl rfl hnews ?c1 ?c2 ?c3 ?_))
 case c1=>intro u hu;simp at hu;subst hu;rfl
 case c2=>unfold maxLen;omega
 case c3=>omega
 intro v' w2 h' x';obtain⟨A',c',rfl⟩:=h'.rowForm;have g0:=h'.right.lt;have g1:=h'.right.free 1;have g2:=h'.right.cells2.1;have g3:=h'.right.cells2.2;have h5:=(h'.p2.set 1 (.slice A' (m+1) c')).in2;clear hrow d0 d1 e2 h3;go_wp2;go_ret;refine⟨.slice A' (m+1) c',rfl,?_,aj⟩;unfold bC;rw[hL.out,hints];exact h5
def tableZero:M:= .agg #[V C,F T 0,F T 0,F T 0,F T 0,F T 0,F T 0,F T 0,F T 0]
theorem tI:(prog.info? 231).map (fun i=>(i.zero,i.size,i.bytes))=E (E tableZero,9,72):=by kernel_rfl
theorem A6(j:Nat):j % 9=0∨j % 9=1∨j % 9=2∨j % 9=3∨j % 9=4∨j % 9=5∨j % 9=6∨j % 9=7∨j % 9=8:=by omega
theorem zm(n j:Nat):tableZero.cells[j % 9]! =fc (Ms.new n) j:=by
 unfold fc Ms.new;dsimp only;rcases A6 j with h|h|h|h|h|h|h|h|h<;>rw[h]<;>rfl
theorem rt(n k:Nat)(h:k<n):(List.range' (n - (k+1)) (k+1)).reverse =(List.range' (n - k) k).reverse ++[n - 1 - k]:=by
 rw[Ms.range'_rev,show n - (k+1)+1=n - k by omega,show n - (k+1)=n - 1 - k by omega]
theorem zn(n:Int)(w:G)(h:¬(0≤n∧n≤128)):
  U prog 110 #[.int .i64 n] w (Pure (.tuple #[.pointer D,.agg #[F J 1,F J (-1)]]) w):=by
 have b2:=aA (Has.new (bc w) #[F J 1,F J (-1)] 33).right ((Ext.refl w).alloc (.cells #[F J 1,F J (-1)] 33));by_cases h0:n<0
 ·go_enter func110,ntmps110
  go_wp2;exact Q (v:= .tuple #[.pointer D,.agg #[F J 1,F J (-1)]]) (by simp[results,results110,go_sem]) rfl ⟨rfl,b2⟩
 ·have h8:128<n:=by omega
  go_enter func110,ntmps110;go_wp2;exact Q (v:= .tuple #[.pointer D,.agg #[F J 1,F J (-1)]]) (by simp[results,results110,go_sem]) rfl ⟨rfl,b2⟩
theorem qj(n:Nat)(hn:n≤128)(w:G):(Instr.makeSlice 227 (.int .i64 (n:Int)) (.int .i64 (n:Int))).run prog w= .ok (.slice (E (Y w.heap.size 0 D)) n n) (w.alloc (.cells (dd (n*9) (fc (Ms.new n))) 231)):=by
 rw[kv (P:=prog) 227 231 tableZero 9 72 underlying227 tI rfl n (by omega) (by omega) w,mK (fun j _=>zm n j)]
theorem ru(n:Nat)(hn:n≤128)(R:ab)(w:G)(h:W w R):
  U prog 110 #[.int .i64 n] w fun e w'=>∃p g vf,cF (.tuple #[.pointer (E (Y p 0 D)),.agg #[F J 0,F J 0]]) (bC p g vf (Ms.new n) R) w e w':=by
 have hmk:=qj n hn;have h1:=h.new #[F J 0,F J 0] 33;have h2:=h1.new (dd (n*9) (fc (Ms.new n))) 231;have h3:=h2.new #[.slice (E ⟨w.heap.size+1,0,D⟩) n n,.slice D 0 0] 229;have x3:=(((Ext.refl w).alloc (.cells #[F J 0,F J 0] 33)).alloc (.cells (dd (n*9) (fc (Ms.new n))) 231)).alloc (.cells #[.slice (E ⟨w.heap.size+1,0,D⟩) n n,.slice D 0 0] 229);simp only[World.size_alloc] at h2 h3;have h4:W (((w.alloc (.cells #[F J 0,F J 0] 33)).alloc (.cells (dd (n*9) (fc (Ms.new n))) 231)).alloc (.cells #[.slice (E ⟨w.heap.size+1,0,D⟩) n n,.slice D 0 0] 229))
   (bt 3 1 (.slice D 0 0) 0 (ke (List.range' (n - 0) 0).reverse)*(aa (w.heap.size+1+1) #[.slice (E ⟨w.heap.size+1,0,D⟩) n n,.slice D 0 0] 229*(aa (w.heap.size+1) (dd (n*9) (fc (Ms.new n))) 231*(aa w.heap.size #[F J 0,F J 0] 33*R)))):=
  Has.rowNil h3
 clear h1 h2 h3;go_enter func110,ntmps110;go_wp2;go_loopw [18] (fun t wz=>∃(j:Nat) (A:Option Addr) (c:Nat),j≤n∧t=F J j∧
   W wz (bt 3 1 (.slice A j c) j (ke (List.range' (n - j) j).reverse)*(aa (w.heap.size+1+1) #[.slice (E ⟨w.heap.size+1,0,D⟩) n n,.slice A j c] 229*(aa (w.heap.size+1) (dd (n*9) (fc (Ms.new n))) 231*(aa w.heap.size #[F J 0,F J 0] 33*R))))∧Ext w wz)
  (fun t _=>n - (intOf t).toNat)
 case atStart=>exact⟨0,D,0,by omega,rfl,h4,x3⟩
 case round=>
  obtain⟨j,A,c,hj,rfl,hz,hx⟩:=hrel;clear h4 x3;obtain⟨c0,c1⟩:=hz.right.cells2;have e0:=hz.right.lt;have e1:=hz.r3.lt;by_cases hjn:j<n
  ·have hp:=I (rt n j hjn)
   have hrow:=hz.alloc (.cells #[F J (((n - 1 - j:Nat)):Int)] 3);have hv:(((n - 1 - j:Nat)):Int)=(n:Int) - 1 - j:=by omega
   rw[hv] at hrow;go_wp2_with(at_builtin;refine a8 rfl _ _ 55 rfl underlying55 gK _ _ _ rfl hrow (Y wr.heap.size 0 D) 1 1 [F J ((n:Int) - 1 - j)] rfl rfl (fj _ _ _) ?c1 ?c2 ?c3 ?_)
   case c1=>intro u hu;simp at hu;subst hu;rfl
   case c2=>unfold maxLen;omega
   case c3=>omega
   intro v' w2 h' x';obtain⟨A',c',rfl⟩:=h'.rowForm;have g0:=h'.right.lt;have g1:=h'.right.free 1;have g2:=h'.right.cells2.1;have g3:=h'.right.cells2.2;have h5:=(h'.p2.set 1 (.slice A' (j+1) c')).p2;go_wp2;go_roundw
   case rel=>
    refine⟨j+1,A',c',by omega,by go_num,?_,aj⟩;rw[hp.out];simpa [ke,hv] using h5
   case measure=>simp[intOf];omega
  ·obtain rfl:j=n:=by omega
   have h6:W wr (aa w.heap.size #[F J 0,F J 0] 33*(aa (w.heap.size+1+1) #[.slice (E ⟨w.heap.size+1,0,D⟩) j j,.slice A j c] 229*(aa (w.heap.size+1) (dd (j*9) (fc (Ms.new j))) 231*(bt 3 1 (.slice A j c) j (ke (List.range' (j - j) j).reverse)*R)))):=hz.eq (by(simp only[aN,av,cy]));have f0:=h6.free 0;have f1:=h6.free 1;obtain⟨d0,d1⟩:=h6.cells2;have h7:=(h6.set 0 (F J 0)).set 1 (F J 0);obtain⟨k0,k1⟩:=h7.cells2;have h8:=h7.right;have hfr:(Ms.new j).frees =(List.range' (j - j) j).reverse :=by rw[Ms.frees_new,Nat.sub_self]
   have HF:=I hfr;clear hfr;go_wp2;refine Q (v:= .tuple #[.pointer (E ⟨w.heap.size+1+1,0,D⟩),.agg #[F J 0,F J 0]]) (by simp[results,results110,go_sem,d0,d1]) rfl ⟨w.heap.size+1+1,w.heap.size+1,.slice A j c,rfl,?_,aj⟩;unfold bC;rw[HF.out];have e:(List.range' (j - j) j).reverse.length =j:=by simp
   rw[e];exact h8
def wc(s:S):Nat→M:=fun j=>F T (s.wd (j / 8) (j % 8))
end Go.Proofs.YtmfheghbgihdmaaGreatDoor
