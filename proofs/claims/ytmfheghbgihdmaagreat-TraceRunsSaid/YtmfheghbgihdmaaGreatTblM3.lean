/- Insert, Remove and Protect on a tree of tables, against a book; with no program in sight. -/
import Derived.Test.YtmfheghbgihdmaaGreatWalkM2
import Derived.Test.YtmfheghbgihdmaaGreatSep
import Derived.ProofKit
import Derived.OpenShut
import Derived.ChangeOld
import Derived.Below
import Derived.Deep.Slices
import Derived.Test.YtmfheghbgihdmaaGreatProg
import Derived.Laws.StructEq
import Derived.KernelRfl
import Derived.Lib.Hide
import Derived.WalkSpells
import Derived.Outline
import Derived.BigQuiet
namespace Go.Proofs.YtmfheghbgihdmaaGreat
open Go.Addr renaming mk→aMk
open Bool renaming true→B,false→C
open Option renaming some→E,none→F
open Go renaming Value→G,World→I,Calls→Y,bodyPost_ret→af
open Go.Lib renaming hid→J
open Go.Value renaming int→M,bool→V
open Go.Proofs.YtmfheghbgihdmaaGreat renaming over→N,Ms→T,Has→Z,Same→ag,MapOk→ax
open List renaming getElem?_eq_getElem→O,getElem?_eq_some_iff→U,length_append→ad
open Go.IntKind renaming i64→Q,u64→W
open Int renaming eq_ofNat_of_zero_le→S
open Tryz
open Go.RowKit
structure Lk (s:T) (r:Int) (L:List Mp):Prop where
 ok:Bk.Ok L
 same:∀q,dv q→Bk.find L q=bF s r q
section
variable {s:T} {r:Int} {gone:List Int} {X:Int→Prop} {L:List Mp}
theorem MapOk.inP{x:Mp}(h:ax x):dv x.page:=⟨h.p0,by have:=h.p1;have:=h.sp;omega⟩
theorem Bk.mem_find{L:List Mp}(h:Bk.Ok L){m:Mp}(hm:m∈L):Bk.find L m.page=E m:=by
 obtain⟨k,hk,rfl⟩:=List.getElem_of_mem hm;have hc:=h.chk _ (List.getElem_mem hk);exact(Bk.over_at h hk (ed.2 ⟨by omega,by have:=hc.sp;omega⟩)).2
theorem Bk.find_mem{L:List Mp}{p:Int}{m:Mp}(h:Bk.find L p=E m):m∈L∧N m p=B:=⟨List.mem_of_find?_eq_some h,by have:=List.find?_some h;exact this⟩
theorem Lk.mem(h:Lk s r L){m:Mp}(hm:m∈L):bF s r m.page=E m:=by
 rw[←h.same _ (h.ok.chk _ hm).inP];exact Bk.mem_find h.ok hm
theorem Bk.ext_find{a b:List Mp}(ha:Bk.Ok a)(hb:Bk.Ok b)(h:∀q,dv q→Bk.find a q=Bk.find b q):a=b:=by
 refine Bk.Ok.ext ha hb fun x=> ?_;constructor
 ·intro hx
  have:=Bk.mem_find ha hx;rw[h _ (ha.chk _ hx).inP] at this;exact(Bk.find_mem this).1
 ·intro hx
  have:=Bk.mem_find hb hx;rw[←h _ (hb.chk _ hx).inP] at this;exact(Bk.find_mem this).1
theorem Lk.unique{K:List Mp}(h:Lk s r L)(k:Lk s r K):L=K:=Bk.ext_find h.ok k.ok fun q hq=>(h.same q hq).trans (k.same q hq).symm
theorem rD{a b:Mp}(ha:ax a)(hb:ax b){q:Int}(h1:N a q=B)(h2:N b q=B):dH a b=B:=by
 cases h:dH a b with
 |true=>rfl
 |false=>
  have:=(eO ha hb).1 h;have:=ed.1 h1;have:=ed.1 h2;omega
theorem Wf.some_map(hw:Wf s r gone (fun _=>False)):∀(n d:Nat),n+d=2→∀{p t:Int},dv p→bu s r p (d+1)=E t→∃q,dv q∧q / aE (3 - d)=p / aE (3 - d)∧bF s r q≠F:=by
 intro n;induction n with
 |zero=>
  intro d hd p t hp ht;obtain rfl:d=2:=by omega
  rcases hw.full p 2 t hp (by omega) ht with h|⟨i,hi,hne⟩
  ·cases h
  obtain⟨q,hq,hpre,hix,_⟩:=ma hp (show 0≤3 by omega) i hi;have hq':bu s r q 3=E t:=by rw[←ht];exact cH s r hq hp 3 (by omega) hpre
  obtain⟨h1,h2⟩:=hw.at_ hq (by omega) hq';have hd0:bC (az s t (au q (0:Nat))) (0:Nat)=0:=h2;have hl:=fI hd0;have hE:Ends s r q 3 t:=by
   refine⟨by omega,hq',h1,h2,?_⟩;unfold iw cT;show(_&&(_&&((aF (az s t (au q (0:Nat))) (0:Nat)).there && !(aF (az s t (au q (0:Nat))) (0:Nat)).leaf)))=C;rcases hl with e|e<;>simp_all
  refine⟨q,hq,hpre,?_⟩;rw[bp hq hE];have ht':(cT s q t (3 - 3)).there =B:=by
   cases h:(cT s q t (3 - 3)).there with
   |true=>rfl
   |false=>
    have:=(hE.not h).2;have hix':au q (3 - 3:Nat)=i:=hix;rw[hix'] at this;exact absurd this hne
  rw[if_pos (hE.leafOf ht')];simp
 |succ n ih=>
  intro d hd p t hp ht;rcases hw.full p d t hp (by omega) ht with h|⟨i,hi,hne⟩
  ·cases h
  obtain⟨q,hq,hpre,hix,_⟩:=ma hp (show 2 - d≤3 by omega) i hi;have e1:2 - d+1=3 - d:=by omega
  have e2:3 - (d+1)=2 - d:=by omega
  rw[e1] at hpre;have hq':bu s r q (d+1)=E t:=by rw[←ht];exact cH s r hq hp (d+1) (by omega) (by rw[show 4 - (d+1)=3 - d by omega];exact hpre)
  cases hg:iw s q t (3 - (d+1)) with
  |true=>
   have hv:bu s r q (d+1+1)=E (cT s q t (3 - (d+1))).frame :=fM.2 ⟨t,hq',hg,rfl⟩;obtain⟨x,hx,hxp,hxm⟩:=ih (d+1) (by omega) hq hv;refine⟨x,hx,?_,hxm⟩;rw[←hpre];exact iQ (by omega) hxp
  |false=>
   obtain⟨h1,h2⟩:=hw.at_ hq (by omega) hq';have hE:Ends s r q (d+1) t:=⟨by omega,hq',h1,h2,hg⟩;refine⟨q,hq,hpre,?_⟩;rw[bp hq hE];have ht':(cT s q t (3 - (d+1))).there =B:=by
    cases h:(cT s q t (3 - (d+1))).there with
    |true=>rfl
    |false=>
     have:=(hE.not h).2;rw[e2,hix] at this;exact absurd this hne
   rw[if_pos (hE.leafOf ht')];simp
theorem sD(hw:Wf s r gone (fun _=>False))(hL:Lk s r L){x:Mp}(hx:ax x):((bv s r x.page).e.there =B∨(bv s r x.page).lev <x.size)↔Bk.bad L x=B:=by
 have hp:=hx.inP;obtain⟨d,t,he⟩:=hw.ends _ hp;have hle:=he.le;obtain⟨z,hz,hz3⟩:∃z:Nat,x.size=z∧z<3:=by
  rcases hx.size with ⟨a,_⟩|⟨a,_⟩|⟨a,_⟩
  ·exact⟨0,a,by omega⟩
  ·exact⟨1,a,by omega⟩
  ·exact⟨2,a,by omega⟩
 have hsp:br x.size=aE z:=by rw[hz];exact fp hz3
 have hxe:x=⟨x.page / aE z*aE z,z,x.frame,x.rights⟩:=by
  have:=hx.al;rw[hsp] at this;have h8:=fo z;have e:x.page / aE z*aE z=x.page:=by have:=Int.mul_ediv_add_emod x.page (aE z);rw[Int.mul_comm];omega
  rw[e,←hz]
 have hov:∀q,N x q=decide (q / aE z=x.page / aE z):=fun q=>by
  conv=>lhs;rw[hxe]
  exact ns hz3 _ _ _ _
 rw[ch hp.1 hp.2 he];dsimp only;rw[hz];constructor
 ·rintro(h|h)
  ·have hl:=he.leafOf h
   have hm:bF s r x.page=E (aC (cT s x.page t (3 - d)) ((3 - d:Nat):Int) x.page):=by rw[bp hp he,if_pos hl]
   obtain⟨h1,h2⟩:=hw.self hp hm;rw[←hL.same _ hp] at hm;exact Bk.bad_find (by rw[hm];rfl)
  ·have hz1:3 - d<z:=by omega
   obtain⟨u,hu⟩:=eU he.tab (show 3 - z+1≤d by omega);obtain⟨q,hq,hpre,hqm⟩:=hw.some_map (z - 1) (3 - z) (by omega) hp hu;rw[show 3 - (3 - z)=z by omega] at hpre;cases hm:bF s r q with
   |none=>exact absurd hm hqm
   |some m=>
    obtain⟨h1,h2⟩:=hw.self hq hm;rw[←hL.same _ hq] at hm;have hmem:=(Bk.find_mem hm).1;have:dH m x=B:=rD h2 hx h1 (by rw[hov];exact decide_eq_true hpre);exact List.any_eq_true.2 ⟨m,hmem,this⟩
 ·intro hb
  obtain⟨m,hm,hmeet⟩:=List.any_eq_true.1 hb;have hmo:=hL.ok.chk _ hm;have hma:=hL.mem hm;apply Classical.byContradiction;intro hn;rw[not_or] at hn;have ht:(cT s x.page t (3 - d)).there =C:=by simpa using hn.1
  have hzl:z≤3 - d:=by omega
  unfold dH at hmeet;rcases Bool.or_eq_true_iff.1 hmeet with h|h
  ·have:=Wf.overMap hw hmo.inP hp hma h hw
   rw[bp hp he,(he.not ht).1] at this;cases this
  ·rw[hov] at h
   have hpre:=iQ hzl (of_decide_eq_true h);obtain⟨hs,hse⟩:=he.same hp hmo.inP hpre;rw[bp hmo.inP hs,hse,(he.not ht).1] at hma;cases hma
theorem uz(hw:Wf s r gone (fun _=>False))(hL:Lk s r L)(x:Mp):(dd s r x=6∧bg x=0∧Bk.bad L x=C∧s.frees.length<3)∨dd s r x=Bk.addC L x:=by
 unfold dd Bk.addC;by_cases hc:bg x=0
 ·have hx:=eN hc
  have hp:=hx.inP;have hwc:=(jZ hw hp).1;have hb:=sD hw hL hx;have hcn:¬(bg x≠0):=by omega
  have hwn:¬((bv s r x.page).code ≠0):=by rw[hwc];simp
  rw[if_neg hcn,if_neg hwn,if_neg hcn];by_cases h:(bv s r x.page).e.there =B∨(bv s r x.page).lev <x.size
  ·rw[if_pos h,if_pos (hb.1 h)]
   exact .inr rfl
  ·rw[if_neg h]
   have hbf:Bk.bad L x=C:=by
    cases hbb:Bk.bad L x with
    |false=>rfl
    |true=>exact absurd (hb.2 hbb) h
   by_cases hf:(s.frees.length:Int)< (bv s r x.page).lev - x.size
   ·rw[if_pos hf]
    refine .inl ⟨rfl,hc,hbf,?_⟩;obtain⟨d,t,he⟩:=hw.ends _ hp;rw[ch hp.1 hp.2 he] at hf;dsimp only at hf;have h0:0≤x.size:=by rcases hx.size with ⟨a,_⟩|⟨a,_⟩|⟨a,_⟩<;>omega
    by_cases hd:d=0
    ·subst hd
     by_cases h3:s.frees.length<3
     ·exact h3
     ·exfalso
      rcases hx.size with ⟨a,_⟩|⟨a,_⟩|⟨a,_⟩<;>omega
    ·omega
   ·rw[if_neg hf,if_neg (by rw[hbf];simp)]
    exact .inr rfl
 ·rw[if_pos hc,if_pos hc]
  exact .inr rfl
theorem oP(hw:Wf s r gone (fun _=>False))(hi:s.Inv)(hn:s.n≤128)(x:Mp):
  Wf (dQ s r x) r gone (fun _=>False)∧(dQ s r x).Inv ∧(dQ s r x).n =s.n∧
  ∀q,dv q→bF (dQ s r x) r q=(if dd s r x=0∧N x q=B then E x else bF s r q)∧
   (bF s r q≠F→bv (dQ s r x) r q=bv s r q)∧
   (dd s r x=0∧N x q=B→bF s r q=F∧(bv (dQ s r x) r q).e =dx x):=by
 unfold dQ;by_cases hc:dd s r x=0
 ·rw[if_pos hc]
  have hc0:=hc;unfold dd at hc0;by_cases hk:bg x=0
  ·have hx:=eN hk
   have hp:=hx.inP;have hwc:=(jZ hw hp).1;rw[if_neg (by omega),if_neg (by rw[hwc];simp)] at hc0;by_cases h:(bv s r x.page).e.there =B∨(bv s r x.page).lev <x.size
   ·rw[if_pos h] at hc0;cases hc0
   rw[if_neg h] at hc0;by_cases hf:(s.frees.length:Int)< (bv s r x.page).lev - x.size
   ·rw[if_pos hf] at hc0;cases hc0
   rw[not_or] at h;obtain⟨d,t,he⟩:=hw.ends _ hp;have hle:=he.le;rw[ch hp.1 hp.2 he] at h hf⊢;dsimp only at h hf⊢;rw[jv he.tab];obtain⟨z,hz,hz3⟩:∃z:Nat,x.size=z∧z<3:=by
    rcases hx.size with ⟨a,_⟩|⟨a,_⟩|⟨a,_⟩
    ·exact⟨0,a,by omega⟩
    ·exact⟨1,a,by omega⟩
    ·exact⟨2,a,by omega⟩
   have hsp:br x.size=aE z:=by rw[hz];exact fp hz3
   have h8:=fo z;have hal:x.page / aE z*aE z=x.page:=by have:=Int.mul_ediv_add_emod x.page (aE z);have h2:=hx.al;rw[hsp] at h2;rw[Int.mul_comm];omega
   have hxe:x=⟨x.page / aE z*aE z,z,x.frame,x.rights⟩:=by rw[hal,←hz]
   have hov:∀q,N x q=decide (q / aE z=x.page / aE z):=fun q=>by
    conv=>lhs;rw[hxe]
    exact ns hz3 _ _ _ _
   have hfa:ak (dx x) z=0:=by
    refine jP rfl ⟨by omega,by omega,hx.r0,hx.r7,hx.f0,hx.f1,fun _=>⟨by omega,?_⟩,fun h=>by cases h⟩;have:=hx.fa;rw[hz] at this;exact this
   obtain⟨k1,k2,k3⟩:=ld hfa;have hrg:0≤bx (dx x) z∧bx (dx x) z<18446744073709551616:=by
    have:=jQ (dM hfa rfl);unfold bx;rw[if_pos ⟨hfa,rfl⟩];omega
   have ht:(cT s x.page t (3 - d)).there =C:=by simpa using h.1
   rw[hz] at h hf⊢;rw[Int.toNat_natCast];obtain⟨n,hnn⟩:∃n:Nat,((3 - d:Nat):Int) - z=n:=⟨3 - d - z,by omega⟩;rw[hnn,Int.toNat_natCast];obtain⟨i1,i2,i3,i4,i5⟩:=uT (p:=x.page) (lw:=bx (dx x) z) (sz:=z) hp hz3 k1 (by rw[k2];rfl) hrg n d t s r gone (fun _=>False) (by omega) hi hn (by omega) hw (fun _ h=>h.elim) he ht;refine⟨i1,i2,i3,fun q hq=> ?_⟩;have:=i5 q hq;by_cases hpre:q / aE z=x.page / aE z
   ·rw[if_pos hpre,k2] at this
    have ho:N x q=B:=by rw[hov];exact decide_eq_true hpre
    have hlm:aC (dx x) z q=x:=by
     rw[iy hq hfa rfl (fp hz3),hpre];exact hxe.symm
    have hnone:bF s r q=F:=by
     obtain⟨hs,hse⟩:=he.same hp hq (iQ (show z≤3 - d by omega) hpre);rw[bp hq hs,hse,(he.not ht).1];rfl
    refine⟨?_,fun hne=>absurd hnone hne,fun _=>⟨hnone,this.2⟩⟩;rw[this.1,hlm,if_pos ⟨hc,ho⟩]
   ·rw[if_neg hpre] at this
    have ho:¬N x q=B:=by rw[hov];simpa using hpre
    refine⟨?_,this.2,fun h=>absurd h.2 ho⟩;rw[this.1,if_neg (fun h=>ho h.2)]
  ·rw[if_pos hk] at hc0
   exact absurd hc0 hk
 ·rw[if_neg hc]
  exact⟨hw,hi,rfl,fun q hq=>⟨by rw[if_neg (fun h=>hc h.1)],fun _=>rfl,fun h=>absurd h.1 hc⟩⟩
end
structure Ln where
 m:Mp
 dirty:Bool
 deriving DecidableEq
def Ln.cells(x:Ln):List G:=[M Q x.m.page,M Q x.m.size,M Q x.m.frame,M Q x.m.rights,V x.dirty]
def bT(l:List Ln):List G:=l.flatMap Ln.cells
theorem ir(l:List Ln):(bT l).length =l.length*5:=by
 induction l with
 |nil=>rfl
 |cons x l ih=>
  show(x.cells++bT l).length =_;rw[ad,ih];simp[Ln.cells];omega
theorem gu(a b:List Ln):bT (a++b)=bT a++bT b:=by simp[bT]
namespace Tl
def drop(l:List Ln)(m:Mp):List Ln:=l.filter fun x=> !dH x.m m
def room(l:List Ln):List Ln:=if l.length=6 then l.tail else l
def put(l:List Ln)(x:Ln):List Ln:=if bg x.m=0 then room (drop l x.m)++[x] else l
def evict(l:List Ln):List Ln:=l.tail
def find(l:List Ln)(p:Int):Option Ln:=l.find? fun x=>N x.m p
structure Ok (l:List Ln):Prop where
 len:l.length≤6
 chk:∀x∈l,bg x.m=0
 apart:l.Pairwise fun a b=>dH a.m b.m=C
theorem Ok.nil:Ok []:=⟨by simp,fun x h=>(by cases h),List.Pairwise.nil⟩
theorem Ok.sub{l k:List Ln}(h:Ok l)(s:k.Sublist l):Ok k:=
 ⟨Nat.le_trans s.length_le h.len,fun x hx=>h.chk x (s.subset hx),h.apart.sublist s⟩
theorem Ok.drop{l:List Ln}(h:Ok l)(m:Mp):Ok (drop l m):=h.sub List.filter_sublist
theorem Ok.evict{l:List Ln}(h:Ok l):Ok (evict l):=h.sub (List.tail_sublist l)
theorem drop_apart(l:List Ln)(m:Mp):∀x∈drop l m,dH x.m m=C:=fun x hx=>by
 have:=(List.mem_filter.1 hx).2;simpa using this
theorem room_sub(l:List Ln):(room l).Sublist l:=by
 unfold room;split
 ·exact List.tail_sublist l
 ·exact List.Sublist.refl l
theorem room_len{l:List Ln}(h:l.length≤6):(room l).length ≤5:=by
 unfold room;split
 ·simp;omega
 ·omega
theorem Ok.put{l:List Ln}(h:Ok l)(x:Ln):Ok (put l x):=by
 unfold Tl.put;split
 ·rename_i hc
  have hd:=h.drop x.m;have hr:=hd.sub (room_sub _);refine⟨?_,fun y hy=> ?_,?_⟩
  ·have:=room_len hd.len
   simp;omega
  ·rcases List.mem_append.1 hy with hy|hy
   ·exact hr.chk y hy
   ·rw[List.mem_singleton.1 hy]
    exact hc
  ·rw[List.pairwise_append]
   refine⟨hr.apart,List.pairwise_singleton _ _,fun a ha b hb=> ?_⟩;rw[List.mem_singleton.1 hb];exact drop_apart l x.m a ((room_sub _).subset ha)
 ·exact h
end Tl
structure Ck where
 on:Bool
 a:Ac
 t:Int
 level:Int
 mark:Bool
 w:Int
structure Rs where
 fin:Bool
 an:An
 ln:Ln
def Rs.zero:Rs:=⟨C,An.zero,⟨Mp.zero,C⟩⟩
def Ck.zero:Ck:=⟨C,Ac.zero,0,0,C,0⟩
def Ck.idle(c:Ck):Ck:={c with on:=C,a:=Ac.zero,mark:=C}
def Ck.again(c:Ck)(root:Int):Ck:=if c.on=B then {c with t:=root,level:=3,mark:=C} else c
def Ck.begin(c:Ck)(root:Int)(a:Ac):Ck:={c with on:=B,a:=a,t:=root,level:=3,mark:=C}
def eF(e:En)(a:Ac):Bool:=e.used&&(e.dirty||a.kind !=1)
def cu(e:En)(a:Ac):En:={e with used:=B,dirty:=e.dirty||a.kind==1}
structure Sp where
 c:Ck
 s:T
 r:Rs
 code:Int
def Ck.word(c:Ck)(s:T):Int:=az s c.t (au c.a.page c.level)
def Ck.leafEnd(c:Ck)(s:T)(e:En):Sp:=
 ⟨c.idle,s,⟨B,bN (aC e c.level c.a.page) c.a,⟨aC e c.level c.a.page,e.dirty⟩⟩,0⟩
def Ck.endWith(c:Ck)(s:T)(f:Int):Sp:=⟨c.idle,s,⟨B,⟨f,0,0⟩,⟨Mp.zero,C⟩⟩,0⟩
def aU(s:T)(root:Int)(c:Ck):Sp:=
 if c.on=C then⟨c,s,Rs.zero,9⟩
 else if s.has c.t=C then⟨c,s,Rs.zero,12⟩
 else if c.mark=B∧c.word s≠c.w then⟨c.again root,s,Rs.zero,0⟩
 else if bC (c.word s) c.level≠0 then⟨c,s,Rs.zero,bC (c.word s) c.level⟩
 else if(aF (c.word s) c.level).there =C then c.endWith s 1
 else if(aF (c.word s) c.level).leaf =C then⟨{c with t:=(aF (c.word s) c.level).frame,level:=c.level - 1},s,Rs.zero,0⟩
 else if may (aF (c.word s) c.level).rights c.a=C then c.endWith s 2
 else if c.mark=B then
  c.leafEnd (s.setW c.t.toNat (au c.a.page c.level).toNat (bx (cu (aF (c.word s) c.level) c.a) c.level)) (cu (aF (c.word s) c.level) c.a)
 else if eF (aF (c.word s) c.level) c.a=B then c.leafEnd s (aF (c.word s) c.level)
 else⟨{c with mark:=B,w:=c.word s},s,Rs.zero,0⟩
structure Ck.Ok (c:Ck):Prop where
 acc:c.on=B→aw c.a=0
 l0:c.on=B→0≤c.level
 l3:c.on=B→c.level≤3
 off:c.on=C→c.a=Ac.zero∧c.mark=C
 dec:c.mark=B→bC c.w c.level=0
 leaf:c.mark=B→(aF c.w c.level).there =B∧(aF c.w c.level).leaf =B
 may:c.mark=B→may (aF c.w c.level).rights c.a=B
 need:c.mark=B→eF (aF c.w c.level) c.a=C
theorem Ck.Ok.zero:Ck.zero.Ok:=⟨fun h=>(by cases h),fun h=>(by cases h),fun h=>(by cases h),fun _=>⟨rfl,rfl⟩,fun h=>(by cases h),fun h=>(by cases h),fun h=>(by cases h),fun h=>(by cases h)⟩
theorem Ck.Ok.idle{c:Ck}:c.idle.Ok:=⟨fun h=>(by cases h),fun h=>(by cases h),fun h=>(by cases h),fun _=>⟨rfl,rfl⟩,fun h=>(by cases h),fun h=>(by cases h),fun h=>(by cases h),fun h=>(by cases h)⟩
theorem Ck.Ok.begin{c:Ck}(root:Int){a:Ac}(h:aw a=0):(c.begin root a).Ok :=
 ⟨fun _=>h,fun _=>(by show(0:Int)≤3;omega),fun _=>(by show(3:Int)≤3;omega),fun h=>(by cases h),fun h=>(by cases h),fun h=>(by cases h),fun h=>(by cases h),fun h=>(by cases h)⟩
theorem Ck.Ok.again{c:Ck}(h:c.Ok)(root:Int):(c.again root).Ok :=by
 unfold Ck.again;split
 ·rename_i hon
  exact⟨fun _=>h.acc hon,fun _=>(by show(0:Int)≤3;omega),fun _=>(by show(3:Int)≤3;omega),fun h=>(by rw[hon] at h;cases h),fun h=>(by cases h),fun h=>(by cases h),fun h=>(by cases h),fun h=>(by cases h)⟩
 ·exact h
theorem Ck.Ok.step{c:Ck}(h:c.Ok)(s:T)(root:Int):(aU s root c).c.Ok :=by
 unfold aU;split
 ·exact h
 rename_i hon;have hon:c.on=B:=by simpa using hon
 split
 ·exact h
 split
 ·exact h.again root
 rename_i hm;split
 ·exact h
 rename_i hd;have hd:bC (c.word s) c.level=0:=by simpa using hd
 split
 ·exact Ck.Ok.idle
 rename_i ht;split
 ·rename_i hl
  have hmk:c.mark=C:=by
   cases hmk:c.mark with
   |false=>rfl
   |true=>
    have e:c.word s=c.w:=Decidable.byContradiction fun e=>hm ⟨hmk,e⟩;have:=(h.leaf hmk).2;rw[←e,hl] at this;cases this
  have h0:=h.l0 hon;have hpos:0<c.level:=by
   refine Decidable.byContradiction fun hn=> ?_;have e0:c.level=0:=by omega
   rw[e0] at hd ht hl;rcases fI hd with hx|hx
   ·exact ht hx
   ·rw[hl] at hx;cases hx
  have h3:=h.l3 hon;exact⟨fun _=>h.acc hon,fun _=>(by show 0≤c.level - 1;omega),fun _=>(by show c.level - 1≤3;omega),fun hx=>(by have:c.on=C:=hx;rw[hon] at this;cases this),fun hx=>(by have:c.mark=B:=hx;rw[hmk] at this;cases this),
   fun hx=>(by have:c.mark=B:=hx;rw[hmk] at this;cases this),fun hx=>(by have:c.mark=B:=hx;rw[hmk] at this;cases this),fun hx=>(by have:c.mark=B:=hx;rw[hmk] at this;cases this)⟩
 rename_i hl;split
 ·exact Ck.Ok.idle
 rename_i hmay;split
 ·exact Ck.Ok.idle
 split
 ·exact Ck.Ok.idle
 rename_i hr;exact⟨h.acc,h.l0,h.l3,fun hx=>(by have:c.on=C:=hx;rw[hon] at this;cases this),fun _=>hd,fun _=>⟨by simpa using ht,by simpa using hl⟩,fun _=>(by simpa using hmay),fun _=>(by simpa using hr)⟩
theorem ra(e:En)(a:Ac):cu e a=e↔eF e a=B:=by
 obtain⟨t,l,r,u,d,f⟩:=e;unfold cu eF;constructor
 ·intro h
  injection h with _ _ _ h4 h5 _
  cases u<;>cases d<;>simp_all
 ·intro h
  cases u<;>cases d<;>simp_all
section
variable {s:T} {r:Int} {gone:List Int} {X:Int→Prop} {L:List Mp}
theorem sE{L:Nat}(h:L≤3):kv 0 L:=⟨(eB h).1,by rw[(eB h).2];simp[En.zero]⟩
theorem rE(hw:Wf s r gone X){p t v:Int}{d:Nat}(hp:dv p)(he:Ends s r p d t)(hv:kv v (3 - d)):∀q,dv q→
  if q / aE (3 - d)=p / aE (3 - d) then bv (cQ s p t d v) r q=⟨0,cW s r q (d+1),((3 - d:Nat):Int),aF v (3 - d:Nat)⟩∧bv s r q=⟨0,cW s r q (d+1),((3 - d:Nat):Int),cT s p t (3 - d)⟩
  else bv (cQ s p t d v) r q=bv s r q:=by
 intro q hq;obtain⟨e,u,hu⟩:=hw.ends q hq;obtain⟨hu',hE⟩:=nl hw hp he.le he.tab he.no hv hq hu;have htabs:cW (cQ s p t d v) r q (e+1)=cW s r q (e+1):=by
  unfold cW;refine List.map_congr_left fun x hx=> ?_;rw[fV hw hp he.le he.tab he.no hv hq x (by have:=List.mem_range.1 hx;have:=hu.le;omega)]
 by_cases hpre:q / aE (3 - d)=p / aE (3 - d)
 ·rw[if_pos hpre]
  obtain⟨hs,hse⟩:=he.same hp hq hpre;obtain⟨rfl,rfl⟩:=hs.unique hu;rw[if_pos ⟨rfl,hpre⟩] at hE;rw[ch hq.1 hq.2 hu',ch hq.1 hq.2 hu,hE,hse,htabs];exact⟨rfl,rfl⟩
 ·rw[if_neg hpre]
  rw[if_neg (fun h=>hpre h.2)] at hE;rw[ch hq.1 hq.2 hu',ch hq.1 hq.2 hu,hE,htabs]
theorem eZ{s s':T}{r q:Int}(h:bv s' r q=bv s r q):bF s' r q=bF s r q:=by unfold bF;rw[h]
theorem gp{p:Int}(h:bH s r p=0):dv p:=by
 apply Classical.byContradiction;intro hn;have:=qd (s:=s) (r:=r) hn;unfold bH at h;rw[this] at h;cases h
theorem Wf.found(hw:Wf s r gone X){p:Int}(h:bH s r p=0):∃d t,Ends s r p d t∧(cT s p t (3 - d)).leaf =B∧bv s r p=⟨0,cW s r p (d+1),((3 - d:Nat):Int),cT s p t (3 - d)⟩∧bF s r p=E (bR s r p)∧
  3 - d<3∧∀q,N (bR s r p) q=decide (q / aE (3 - d)=p / aE (3 - d)):=by
 have hp:=gp h;obtain⟨d,t,he⟩:=hw.ends p hp;have hwe:=ch hp.1 hp.2 he;have hf:=hw.find hp;rw[h] at hf;have hm:bF s r p=E (bR s r p):=by
  cases hh:bF s r p with
  |none=>rw[hh] at hf;cases hf.1
  |some m=>rw[hf.2,hh];rfl
 have hl:(cT s p t (3 - d)).leaf =B:=by
  rw[bp hp he] at hm;split at hm
  ·assumption
  ·cases hm
 have hfm:bR s r p=aC (cT s p t (3 - d)) ((3 - d:Nat):Int) p:=by
  rw[bp hp he,if_pos hl] at hm;injection hm with hm
  exact hm.symm
 obtain⟨h3,_,ho⟩:=he.map hp hl;refine⟨d,t,he,hl,hwe,hm,h3,fun q=> ?_⟩;rw[hfm];exact ho q
theorem na(hw:Wf s r gone (fun _=>False))(hi:s.Inv){p:Int}(hf:bH s r p=0):
  Wf (dr s r p) r ((fA s r p).reverse ++gone) (fun _=>False)∧(dr s r p).Inv ∧(dr s r p).n =s.n∧(dr s r p).frees =s.frees∧(∀u,(dr s r p).tk u=s.tk u)∧
  ∀q,dv q→bF (dr s r p) r q=(if N (bR s r p) q=B then F else bF s r q)∧(N (bR s r p) q=C→bF s r q≠F→bv (dr s r p) r q=bv s r q):=by
 have hp:=gp hf;obtain⟨d,t,he,hl,hwe,hm,h3,ho⟩:=hw.found hf;have hle:=he.le;unfold dr fA;rw[if_pos hf,if_pos hf,hwe];dsimp only;rw[lH,Nat.add_sub_cancel];have hv:=sE (show 3 - d≤3 by omega);have hP:=hw.put hp he.le he.tab he.no hv;have hX:Wf (cQ s p t d 0) r gone (fun u=>u=t):=hP.mono (by
  rintro u (⟨a,_⟩|a)
  ·exact a.elim
  ·exact a.2)
 have hmp:=rE hw hp he hv;have hmap:∀q,dv q→bF (cQ s p t d 0) r q=(if N (bR s r p) q=B then F else bF s r q)∧(N (bR s r p) q=C→bF s r q≠F→bv (cQ s p t d 0) r q=bv s r q):=fun q hq=>by
  have:=hmp q hq;rw[ho q];split at this
  ·rename_i hpre
   rw[decide_eq_true hpre,if_pos rfl];refine⟨?_,fun h=>by cases h⟩;unfold bF;rw[this.1,(eB (show 3 - d≤3 by omega)).2];rfl
  ·rename_i hpre
   rw[decide_eq_false hpre,if_neg (by simp)];exact⟨eZ this,fun _ _=>this⟩
 have hPi:(cQ s p t d 0).Inv :=hi.setW _ _ (by omega);cases d with
 |zero=>
  have htr:t=r:=by have:=he.tab;injection this with this;exact this.symm
  have e0:(cW s r p 1).getD 0 0=t:=jh he.tab (by omega);have es:ej p (cW s r p (0+1)) 0 s=(cQ s p t 0 0,[]):=by unfold ej;rw[e0]
  rw[es];subst htr;exact⟨hX.no_root,hPi,rfl,rfl,fun _=>rfl,hmap⟩
 |succ k=>
  have e0:(cW s r p (k+1+1)).getD (k+1) 0=t:=jh he.tab (by omega);have ez:s.setW ((cW s r p (k+1+1)).getD (k+1) 0).toNat (au p (3 - (k+1):Nat)).toNat 0=cQ s p t (k+1) 0:=by rw[e0]
  unfold ej;rw[ez,e0];by_cases hz:fz (cQ s p t (k+1) 0) t=B
  ·rw[if_pos hz]
   have htab:∀j,j≤k+1→bu (cQ s p t (k+1) 0) r p j=bu s r p j:=fun j hj=>fV hw hp he.le he.tab he.no hv hp j (by omega);obtain⟨i1,i2,i3,i4,i5,i6⟩:=vX hp k (cQ s p t (k+1) 0) r gone t (cW s r p (k+1+1)) (by omega) hPi hX (by rw[htab _ (Nat.le_refl _)];exact he.tab) hz (fun j hj=>by
    rw[htab j (by omega)];obtain⟨u,hu⟩:=eU he.tab (show j≤k+1 by omega);rw[jh hu (by omega),hu];rfl)
   refine⟨?_,i2,i3,i4,i5,fun q hq=> ?_⟩
   ·dsimp only
    rw[List.reverse_cons,List.append_assoc];exact i1
   ·have a:=i6 q hq
    have b:=hmap q hq;refine⟨a.1.trans b.1,fun h1 h2=> ?_⟩;have hb:=b.2 h1 h2;have:bF (cQ s p t (k+1) 0) r q≠F:=by rw[eZ hb];exact h2
    exact(a.2 this).trans hb
  ·rw[if_neg hz]
   exact⟨hX.no_full (by simpa using hz),hPi,rfl,rfl,fun _=>rfl,hmap⟩
theorem rF(hw:Wf s r gone (fun _=>False))(hi:s.Inv){p t:Int}{d:Nat}(hp:dv p)(he:Ends s r p d t){e':En}(hf:ak e' (3 - d:Nat)=0)(hl':e'.leaf=B):
  Wf (cQ s p t d (bx e' (3 - d:Nat))) r gone (fun _=>False)∧(cQ s p t d (bx e' (3 - d:Nat))).Inv ∧
  ∀q,dv q→if q / aE (3 - d)=p / aE (3 - d) then bv (cQ s p t d (bx e' (3 - d:Nat))) r q=⟨0,cW s r q (d+1),((3 - d:Nat):Int),e'⟩∧bv s r q=⟨0,cW s r q (d+1),((3 - d:Nat):Int),cT s p t (3 - d)⟩
   else bv (cQ s p t d (bx e' (3 - d:Nat))) r q=bv s r q:=by
 have ht:e'.there=B:=by
  cases h:e'.there with
  |true=>rfl
  |false=>rw[dL hf h] at hl';cases hl'
 obtain⟨k1,k2,k3⟩:=ld hf;have hv:kv (bx e' (3 - d:Nat)) (3 - d):=⟨k1,by rw[k2,hl'];simp⟩;have hne:bx e' (3 - d:Nat)≠0:=fun h=>by rw[k3.1 h] at ht;cases ht
 have hrg:0≤bx e' (3 - d:Nat)∧bx e' (3 - d:Nat)<18446744073709551616:=by
  have:=jQ (dM hf ht);unfold bx;rw[if_pos ⟨hf,ht⟩];omega
 refine⟨(hw.put hp he.le he.tab he.no hv).mono ?_,hi.setW _ _ hrg,fun q hq=> ?_⟩
 ·rintro u (⟨a,_⟩|a)
  ·exact a
  ·exact hne a.1
 ·have:=rE hw hp he hv q hq
  rw[k2] at this;exact this
theorem od{e:En}{l ri:Int}(hf:ak e l=0)(hl:e.leaf=B)(h0:0≤ri)(h7:ri≤7):ak {e with rights:=ri} l=0:=by
 have ht:e.there=B:=by
  cases h:e.there with
  |true=>rfl
  |false=>rw[dL hf h] at hl;cases hl
 have hk:=dM hf ht;exact jP ht ⟨hk.l0,hk.l4,h0,h7,hk.f0,hk.f1,hk.leaf,fun h=>by rw[hl] at h;cases h⟩
theorem rG{e:En}{l:Int}(a:Ac)(hf:ak e l=0)(hl:e.leaf=B):ak (cu e a) l=0∧(cu e a).leaf =B:=by
 have ht:e.there=B:=by
  cases h:e.there with
  |true=>rfl
  |false=>rw[dL hf h] at hl;cases hl
 have hk:=dM hf ht;exact⟨jP ht ⟨hk.l0,hk.l4,hk.r0,hk.r7,hk.f0,hk.f1,hk.leaf,fun h=>by have h':e.leaf=C:=h;rw[hl] at h';cases h'⟩,hl⟩
theorem rH(hw:Wf s r gone (fun _=>False))(hi:s.Inv){p ri:Int}(hf:iS s r p ri=0):
  Wf (gV s r p ri) r gone (fun _=>False)∧(gV s r p ri).Inv ∧(gV s r p ri).n =s.n∧(gV s r p ri).frees =s.frees∧(∀u,(gV s r p ri).tk u=s.tk u)∧
  ∀q,dv q→(N (bR s r p) q=B→bF s r q=E (bR s r p)∧bF (gV s r p ri) r q=E {bR s r p with rights:=ri}∧(bv (gV s r p ri) r q).e ={(bv s r q).e with rights:=ri})∧
   (N (bR s r p) q=C→bv (gV s r p ri) r q=bv s r q):=by
 have hr:0≤ri∧ri≤7:=by
  unfold iS at hf;split at hf
  ·cases hf
  ·omega
 have hf0:bH s r p=0:=by
  unfold iS at hf;rw[if_neg (by omega)] at hf;exact hf
 have hp:=gp hf0;obtain⟨d,t,he,hl,hwe,hm,h3,ho⟩:=hw.found hf0;have hef:=(iG he.dec).1;have hf':ak {cT s p t (3 - d) with rights:=ri} (3 - d:Nat)=0:=od hef hl hr.1 hr.2;have es:gV s r p ri=cQ s p t d (bx {cT s p t (3 - d) with rights:=ri} (3 - d:Nat)):=by
  unfold gV;rw[if_pos hf,hwe];dsimp only;rw[jv he.tab]
 rw[es];obtain⟨i1,i2,i3⟩:=rF hw hi hp he hf' hl;refine⟨i1,i2,rfl,rfl,fun _=>rfl,fun q hq=>⟨fun hov=> ?_,fun hov=> ?_⟩⟩
 ·have:=i3 q hq
  rw[ho q] at hov;have hpre:=of_decide_eq_true hov;rw[if_pos hpre] at this;have hmq:bF s r q=E (bR s r p):=Wf.overMap hw hp hq hm (by rw[ho q];exact hov) hw;refine⟨hmq,?_,?_⟩
  ·unfold bF at hmq⊢
   rw[this.2] at hmq;rw[this.1];dsimp only at hmq⊢;rw[if_pos hl] at hmq;rw[if_pos hl];injection hmq with hmq
   rw[←hmq];have hef2:ak (cT s p t (3 - d)) (3 - d:Nat)=0:=hef;rw[iy hq hf' hl (fp h3),iy hq hef2 hl (fp h3)]
  ·rw[this.1,this.2]
 ·have:=i3 q hq
  rw[ho q] at hov;rw[if_neg (of_decide_eq_false hov)] at this;exact this
end
theorem i9{a:Ac}(h:aw a=0):cZ a.page=B:=by
 unfold aw at h;unfold cZ;split at h
 ·cases h
 ·split at h
  ·cases h
  ·simp;omega
theorem jq{e:En}{l p:Int}(a:Ac)(hf:ak e l=0)(hl:e.leaf=B):aC (cu e a) l p=aC e l p:=by
 obtain⟨h1,h2⟩:=rG a hf hl;unfold aC;rw[h1,h2,hf,hl];rfl
theorem nb{e:En}{l p:Int}(hf:ak e l=0)(hl:e.leaf=B)(hp:cZ p=B):(aC e l p).rights =e.rights:=by
 have h:0≤p∧p<4096:=by simpa [cZ] using hp
 unfold aC;rw[if_pos ⟨hf,hl,h⟩]
theorem rb(e:En)(a:Ac):eF (cu e a) a=B:=by
 obtain⟨t,l,r,u,d,f⟩:=e;obtain⟨p,k,us⟩:=a;unfold eF cu;dsimp only;cases d<;>simp
 by_cases h:k=1<;>simp[h]
theorem it(e:En)(l:Int):0≤bx e l∧bx e l<18446744073709551616:=by
 unfold bx;split
 ·rename_i h
  obtain⟨_,a,b⟩:=jQ (dM h.1 h.2);omega
 ·omega
theorem oQ{a b:Mp}{p:Int}(ha:N a p=B)(hb:N b p=B):dH a b=B:=by
 rw[ed] at ha hb;unfold dH;rw[Bool.or_eq_true,ed,ed];omega
theorem sG(a b:Mp):dH a b=dH b a:=Bool.or_comm _ _
namespace Tl
theorem Ok.one{l:List Ln}(h:Ok l){x y:Ln}(hx:x∈l)(hy:y∈l){p:Int}(ox:N x.m p=B)(oy:N y.m p=B):x=y:=by
 obtain⟨i,hi,rfl⟩:=List.getElem_of_mem hx;obtain⟨j,hj,rfl⟩:=List.getElem_of_mem hy;have hm:=oQ ox oy;rcases Nat.lt_trichotomy i j with hlt|rfl|hlt
 ·rw[List.pairwise_iff_getElem.1 h.apart i j hi hj hlt] at hm;cases hm
 ·rfl
 ·rw[sG,List.pairwise_iff_getElem.1 h.apart j i hj hi hlt] at hm;cases hm
def idx(l:List Ln)(p:Int):Int:=match l.findIdx? fun x=>N x.m p with|some k=>(k:Int)|none=> -1
theorem idx_find(l:List Ln)(p:Int):(find l p=F∧idx l p= -1)∨∃(k:Nat) (h:k<l.length),idx l p=k∧find l p=E l[k]∧N l[k].m p=B:=by
 unfold find idx;cases hf:l.findIdx? fun x=>N x.m p with
 |none=>
  left;refine⟨?_,rfl⟩;rw[List.find?_eq_none];intro x hx;have:=List.findIdx?_eq_none_iff.1 hf x hx;simpa using this
 |some k=>
  right;obtain⟨hk,h1,h2⟩:=List.findIdx?_eq_some_iff_getElem.1 hf;refine⟨k,hk,rfl,?_,h1⟩;rw[List.find?_eq_some_iff_getElem];exact⟨h1,k,hk,rfl,fun j hj=>by have:=h2 j hj;simpa using this⟩
end Tl
def jy(l:List Ln)(a:Ac):Option An:=
 match Tl.find l a.page with
 |some x=>if x.dirty=B∨a.kind≠1∨may x.m.rights a=C then E (bN x.m a) else F
 |none=>F
structure Bq where
 an:An
 fin:Bool
 code:Int
 c:Ck
def db(l:List Ln)(root:Int)(k:Ck)(a:Ac):Bq:=
 if aw a≠0 then⟨An.zero,C,aw a,k⟩
 else if k.on=B then⟨An.zero,C,8,k⟩
 else match jy l a with
  |some r=>⟨r,B,0,k⟩
  |none=>⟨An.zero,C,0,k.begin root a⟩
theorem uA{l:List Ln}{root:Int}{k:Ck}{a:Ac}(h:k.Ok):(db l root k a).c.Ok :=by
 unfold db;split;· exact h
 rename_i hc;split;· exact h
 split;· exact h
 exact Ck.Ok.begin root (by simpa using hc)
def ge(l:List Ln)(r:Rs):List Ln:=if r.fin=B∧r.an.fin=0 then Tl.put l r.ln else l
theorem oe{s:T}{root:Int}{c:Ck}(h:(aU s root c).code ≠0):(aU s root c).r =Rs.zero:=by
 unfold aU at h⊢;split;· rfl
 rename_i h1;rw[if_neg h1] at h;split;· rfl
 rename_i h2;rw[if_neg h2] at h;split;· rfl
 rename_i h3;rw[if_neg h3] at h;split;· rfl
 rename_i h4;rw[if_neg h4] at h;split
 ·rename_i h5;rw[if_pos h5] at h;exact absurd rfl h
 rename_i h5;rw[if_neg h5] at h;split
 ·rfl
 rename_i h6;rw[if_neg h6] at h;split
 ·rename_i h7;rw[if_pos h7] at h;exact absurd rfl h
 rename_i h7;rw[if_neg h7] at h;split
 ·rename_i h8;rw[if_pos h8] at h;exact absurd rfl h
 rename_i h8;rw[if_neg h8] at h;split
 ·rename_i h9;rw[if_pos h9] at h;exact absurd rfl h
 ·rfl
theorem nB(e:En)(l p:Int):0≤(aC e l p).page ∧(aC e l p).page <4096:=by
 unfold aC;split
 ·rename_i h
  by_cases h0:br l=0
  ·show 0≤p / br l*br l∧p / br l*br l<4096
   rw[h0];omega
  have hs:0<br l:=by rcases pV h0 with ⟨_,e⟩|⟨_,e⟩|⟨_,e⟩<;>omega
  have h1:=Int.ediv_mul_le p h0;have h2:0≤p / br l:=Int.ediv_nonneg (by omega) (by omega);have h3:0≤p / br l*br l:=Int.mul_nonneg h2 (by omega);exact⟨h3,by show p / br l*br l<4096;omega⟩
 ·exact⟨by show(0:Int)≤0;omega,by show(0:Int)<4096;omega⟩
theorem nc(s:T)(root:Int)(c:Ck):cy (aU s root c).r.ln.m.page :=by
 have hz:cy Mp.zero.page:=by show cy 0;unfold cy;omega
 have hl:∀e l p,cy (aC e l p).page :=fun e l p=>by have:=nB e l p;unfold cy;omega
 unfold aU;split;· exact hz
 split;· exact hz
 split;· exact hz
 split;· exact hz
 split;· exact hz
 split;· exact hz
 split;· exact hz
 split;· exact hl _ _ _
 split;· exact hl _ _ _
 exact hz
theorem uB{l:List Ln}(h:Tl.Ok l)(r:Rs):Tl.Ok (ge l r):=by
 unfold ge;split
 ·exact h.put _
 ·exact h
structure Agree (s s':T):Prop where
 n:s.n=s'.n
 tk:∀k,s.tk k=s'.tk k
 fr:s.frees=s'.frees
 wd:∀k i,s.tk k=B→s.wd k i=s'.wd k i
section
variable {s s':T}
theorem Agree.refl(s:T):Agree s s:=⟨rfl,fun _=>rfl,rfl,fun _ _ _=>rfl⟩
theorem Agree.trans{s2:T}(h:Agree s s')(k:Agree s' s2):Agree s s2:=⟨h.n.trans k.n,fun j=>(h.tk j).trans (k.tk j),h.fr.trans k.fr,fun j i ht=>(h.wd j i ht).trans (k.wd j i (by rw[←h.tk];exact ht))⟩
theorem Agree.has(h:Agree s s')(k:Int):s.has k=s'.has k:=by
 unfold Ms.has;rw[h.n,h.tk]
theorem Agree.word(h:Agree s s'){t:Int}(ht:s.has t=B)(i:Int):az s t i=az s' t i:=h.wd _ _ (Ms.has_iff.1 ht).2.2
theorem Agree.wayStep(h:Agree s s')(p:Int)(L:Nat)(t:Int)(acc:List Int){f g:Int→Wy}(hfg:∀x,f x=g x):iH s p L t acc f=iH s' p L t acc g:=by
 unfold Go.Proofs.YtmfheghbgihdmaaGreat.iH;rw[←h.has t];cases ht:s.has t with
 |false=>rfl
 |true=>rw[h.word ht,hfg]
theorem Agree.wayA(h:Agree s s')(p:Int):∀(L:Nat) (t:Int) (acc:List Int),dm s p L t acc=dm s' p L t acc
 |0,t,acc=>h.wayStep p 0 t acc fun _=>rfl
 |L+1,t,acc=>h.wayStep p (L+1) t acc fun _=>Agree.wayA h p L _ _
theorem Agree.way(h:Agree s s')(r p:Int):bv s r p=bv s' r p:=by
 unfold Go.Proofs.YtmfheghbgihdmaaGreat.bv;rw[h.wayA p 3 r []]
theorem Agree.scanV(h:Agree s s')(L:Nat){t:Int}(ht:s.has t=B)(a:Int){f g:Int→Int→Vs}(hfg:∀x y,f x y=g x y):∀is:List Nat,du s L t a f is=du s' L t a g is
 | []=>rfl
 |i::is=>by
  unfold Go.Proofs.YtmfheghbgihdmaaGreat.du;rw[h.word ht,Agree.scanV h L ht a hfg is];simp only[hfg]
theorem Agree.eachV(h:Agree s s'):∀(L:Nat) (t a:Int),cB s L t a=cB s' L t a
 |0,t,a=>by
  unfold Go.Proofs.YtmfheghbgihdmaaGreat.cB;rw[←h.has t];cases ht:s.has t with
  |false=>rfl
  |true=>rw[if_neg (by simp),if_neg (by simp)];exact h.scanV 0 ht a (fun _ _=>rfl) _
 |L+1,t,a=>by
  unfold Go.Proofs.YtmfheghbgihdmaaGreat.cB;rw[←h.has t];cases ht:s.has t with
  |false=>rfl
  |true=>rw[if_neg (by simp),if_neg (by simp)];exact h.scanV (L+1) ht a (fun x y=>Agree.eachV h L x y) _
theorem Agree.top(h:Agree s s'):s.top=s'.top:=by rw[←Ms.frees_top,←Ms.frees_top,h.fr]
theorem Agree.setW(h:Agree s s')(k i:Nat)(v:Int):Agree (s.setW k i v) (s'.setW k i v):=
 ⟨h.n,h.tk,h.fr,fun a b ht=>by
  show(if a=k∧b=i then v else s.wd a b)=(if a=k∧b=i then v else s'.wd a b);rw[h.wd a b ht]⟩
theorem Agree.findC(h:Agree s s')(r p:Int):bH s r p=bH s' r p:=by unfold Go.Proofs.YtmfheghbgihdmaaGreat.bH;rw[h.way r p]
theorem Agree.findM(h:Agree s s')(r p:Int):bR s r p=bR s' r p:=by unfold Go.Proofs.YtmfheghbgihdmaaGreat.bR;rw[h.way r p,h.findC r p]
theorem Agree.insC(h:Agree s s')(r:Int)(x:Mp):dd s r x=dd s' r x:=by unfold Go.Proofs.YtmfheghbgihdmaaGreat.dd;rw[h.way r x.page,h.fr]
end
open Go.ChangeShapes Go.WideShapes Go.ChangeAt Go.RowKit Go.Deep
def lg(K:TypeId→Option (List (Option IntKind)))(P:Program):List Field→Nat→Option (List (Option IntKind))
 | [],_=>E []
 |f::fs,off=>
  if f.offset=off then
   match K f.type with
   |some l=>if l.length=P.cellsOf f.type then(lg K P fs (off+l.length)).map (l++ ·) else F
   |none=>F
  else F
def rI(P:Program):Nat→TypeId→Option (List (Option IntKind))
 |0,_=>F
 |d+1,t=>
  match P.underlying t with
  |some .bool =>E [F]
  |some (.int k)=>E [E k]
  |some (.struct fs)=>
   match lg (rI P d) P fs.toList 0 with
   |some l=>if l.length=P.cellsOf t then E l else F
   |none=>F
  |_=>F
def CellsOk:List (Option IntKind)→List G→Prop
 | [],[]=>True
 |none::ks,v::vs=>(∃b,v= .bool b)∧CellsOk ks vs
 |some k::ks,v::vs=>(∃n,v= .int k n∧(Lit.int k n).wf =B)∧CellsOk ks vs
 |_,_=>False
theorem CellsOk.append:∀{k1 k2:List (Option IntKind)} {c1 c2:List G},CellsOk k1 c1→CellsOk k2 c2→CellsOk (k1++k2) (c1++c2)
 | [],_,[],_,_,h2=>h2
 | [],_,_::_,_,h1,_=>h1.elim
 |none::_,_,_::_,_,h1,h2=>⟨h1.1,h1.2.append h2⟩
 |some _::_,_,_::_,_,h1,h2=>⟨h1.1,h1.2.append h2⟩
 |none::_,_,[],_,h1,_=>h1.elim
 |some _::_,_,[],_,h1,_=>h1.elim
theorem CellsOk.int{k:IntKind}{ks:List (Option IntKind)}{cs:List G}(h:CellsOk (E k::ks) cs):∃n cs',cs= .int k n::cs'∧(Lit.int k n).wf =B∧CellsOk ks cs':=by
 match cs,h with
 |v::vs,⟨⟨n,e,hw⟩,h2⟩=>exact⟨n,vs,by rw[e],hw,h2⟩
theorem CellsOk.bool{ks:List (Option IntKind)}{cs:List G}(h:CellsOk (F::ks) cs):∃b cs',cs= .bool b::cs'∧CellsOk ks cs':=by
 match cs,h with
 |v::vs,⟨⟨b,e⟩,h2⟩=>exact⟨b,vs,by rw[e],h2⟩
theorem CellsOk.nil{cs:List G}(h:CellsOk [] cs):cs=[]:=by
 match cs,h with
 | [],_=>rfl
section
variable {H:Type} {enc:TypeId×G→H} {P:Program} {w:I} {base:Nat} {spare:Nat→Bool} {held:Bool}
theorem nf{K:TypeId→Option (List (Option IntKind))}{cs:List G}:∀(fs:List Field) (off:Nat) (l:List (Option IntKind)),lg K P fs off=E l→
  (∀f∈fs,∀k,K f.type=E k→CellsOk k ((cs.drop f.offset).take (P.cellsOf f.type)))→CellsOk l ((cs.drop off).take l.length)
 | [],off,l,h,_=>by
  simp[lg] at h;subst h;simp[CellsOk]
 |f::fs,off,l,h,hf=>by
  unfold lg at h;split at h
  ·rename_i ho
   split at h
   ·rename_i k hk
    split at h
    ·rename_i hl
     obtain⟨l2,h2,rfl⟩:=Option.map_eq_some_iff.1 h;have i1:=hf f (by simp) k hk;have i2:=nf fs _ l2 h2 fun g hg=>hf g (by simp[hg]);rw[ho,←hl] at i1;have e:(cs.drop off).take (k++l2).length =(cs.drop off).take k.length++(cs.drop (off+k.length)).take l2.length:=by
      rw[ad,List.take_add,List.drop_drop]
     rw[e];exact i1.append i2
    ·cases h
   ·cases h
  ·cases h
theorem ng:∀(d fuel:Nat) (t:TypeId) (ks:List (Option IntKind)) (cs:List G) (x:DataW H×List MemPlace),rI P d t=E ks→
  DataW.trod enc P w base spare held fuel t cs=E x→CellsOk ks cs
 |0,_,_,_,_,_,h,_=>by cases h
 |d+1,fuel,t,ks,cs,x,h,ht=>by
  unfold rI at h;split at h
  ·rename_i hu
   obtain⟨b,rfl,_⟩:=DataW.trod_bool hu ht;injection h with h;subst h
   exact⟨⟨b,rfl⟩,trivial⟩
  ·rename_i k hu
   obtain⟨n,rfl,_,hw⟩:=DataW.trod_int hu ht;injection h with h;subst h
   exact⟨⟨n,rfl,hw⟩,trivial⟩
  ·rename_i fs hu
   obtain⟨xs,n,rfl,_,hl,hxl,hf⟩:=DataW.trod_struct hu ht;split at h
   ·rename_i l hs
    split at h
    ·rename_i hll
     injection h with h;subst h
     have:=nf (cs:=cs) (P:=P) fs.toList 0 l hs fun f hfm k hk=>by
      obtain⟨i,hi,hfi⟩:=List.getElem_of_mem hfm;have hi':i<fs.size:=by simpa using hi
      have hg:fs[i]? =E f:=by rw[Array.getElem?_eq_getElem hi'];simpa using hfi
      have h1:=hf i f hg;rw[O (by omega)] at h1;exact ng d n f.type k _ _ hk h1
     rw[hll,←hl] at this;simpa using this
    ·cases h
   ·cases h
  ·cases h
theorem gU{n:Int}(h:(Lit.int .i64 n).wf =B):cy n:=by
 simp[Lit.wf,IntKind.min,IntKind.max,IntKind.signed,IntKind.bits] at h;exact⟨by omega,by omega⟩
theorem eh{t:TypeId}{r:Reach}{b0:Nat}{v:G}{x:DataW H}{p:List MemPlace}(ht:P.underlying t=E (.int .i64))(hv:Value.okWide P w r b0 t v)(h:DataW.Trod enc P w base spare held t v x p):∃n,v=M Q n∧cy n:=by
 obtain⟨n,rfl,_,_,hw⟩:=open_int ht hv h;exact⟨n,rfl,gU hw⟩
theorem lh(b off n:Nat):(((aMk b off F):Addr).add n)=⟨b,off+n,F⟩:=by
 unfold Addr.add;split<;>simp_all
theorem ja{α:Type}{cells:α→List G}{ok:α→Prop}{ks:List (Option IntKind)}(hd:∀cs,CellsOk ks cs→∃x:α,cs=cells x∧ok x){d:Nat}{t e:TypeId}{size:Nat}(ht:P.underlying t=E (.slice e))
  (hk:rI P d e=E ks) (hs:P.cellsOf e=size) (hpos:0<size) {A:Option Addr} {len cap:Nat} {x:DataW H} {p:List MemPlace} (h:DataW.Trod enc P w base spare held t (.slice A len cap) x p):
  ∃l:List α,Arr w A len size (l.map cells)∧∀y∈l,ok y:=by
 obtain⟨fuel,hf⟩:=h;rcases open_slice ht hf with ⟨hcs,_⟩|⟨a,len',cap',m,n,D,Pl,hcs,_,hl,hm,hmm,_,hel⟩
 ·simp[Value.cells] at hcs
  obtain⟨rfl,rfl,rfl⟩:=hcs;exact⟨[],⟨rfl,by omega,fun i xs hi=>by simp at hi⟩,fun y hy=>by cases hy⟩
 ·simp[Value.cells] at hcs
  obtain⟨rfl,rfl,rfl⟩:=hcs;have hlm:len≤m:=by rw[hmm];split<;>omega
  have key:∀k,k≤len→∃l:List α,l.length=k∧(∀y∈l,ok y)∧∀i y,l[i]? =E y→∃b off,a=(aMk b off F)∧b<w.heap.size∧∀j u,(cells y)[j]? =E u→w.cell? ⟨b,off+i*size+j,F⟩=E u:=by
   intro k;induction k with
   |zero=>exact fun _=>⟨[],rfl,(fun y hy=>by cases hy),(fun i y hi=>by simp at hi)⟩
   |succ k ih=>
    intro hk1;obtain⟨l,hll,hok,hcells⟩:=ih (by omega);obtain⟨cs',hc1,hc2⟩:=hel k (by omega);obtain⟨_,hcl,hat⟩:=World.cells?_some hc1;obtain⟨y,hy,hoy⟩:=hd _ (ng d n e ks cs' _ hk hc2);refine⟨l++[y],by simp[hll],fun z hz=> ?_,fun i z hz=> ?_⟩
    ·rcases List.mem_append.1 hz with hz|hz
     ·exact hok z hz
     ·simp at hz;subst hz;exact hoy
    ·rw[List.getElem?_append] at hz
     split at hz
     ·exact hcells i z hz
     ·rename_i hi
      have hik:i=k:=by
       have:=U.1 hz;obtain⟨h1,_⟩:=this;simp at h1;omega
      subst hik;rw[hll,Nat.sub_self] at hz;simp at hz;subst hz;have h0:=hat 0 (by omega);rw[hs] at hat h0 hcl;obtain⟨b,off,spot⟩:=a;have hspot:spot=F:=by
       have h00:∃u,(w.cell? (((⟨b,off,spot⟩:Addr).add (0*size)).add 0))=E u:=by
        obtain⟨cs0,hd1,_⟩:=hel 0 (by omega);obtain⟨_,hdl,hdat⟩:=World.cells?_some hd1;have:=hdat 0 (by omega);rw[hs] at this;rw[this,O (by omega)];exact⟨_,rfl⟩
       obtain⟨u,hu⟩:=h00;simpa [Addr.add] using World.cell?_spot hu
      subst hspot;have hc:∀j u,(cells y)[j]? =E u→w.cell? ⟨b,off+i*size+j,F⟩=E u:=by
       intro j u hu;have hj:j<size:=by
        have:=U.1 hu;obtain⟨h1,_⟩:=this;rw[←hy,hcl] at h1;exact h1
       have:=hat j hj;rw[lh,lh,hy,hu] at this;exact this
      refine⟨b,off,rfl,?_,hc⟩;rw[lh,lh,O (by omega)] at h0;exact World.block_lt_of_cell? w _ h0
  obtain⟨l,hll,hok,hcells⟩:=key len (Nat.le_refl _);refine⟨l,⟨by simp[hll],by unfold maxLen at hm;omega,fun i xs hi=> ?_⟩,hok⟩;rw[List.getElem?_map] at hi;obtain⟨y,hy,rfl⟩:=Option.map_eq_some_iff.1 hi;obtain⟨b,off,rfl,hb,hc⟩:=hcells i y hy;exact⟨b,off,rfl,hb,hc⟩
end
set_option maxRecDepth 100000
theorem xu(d:Nat)(a0 b0:Int)(a1 b1:Int)(a2 b2:Int)(a3 b3:Int)(w:I):(Op.equalIn (d+2) 39 (.agg #[M Q a0,M Q a1,M Q a2,M Q a3]) (.agg #[M Q b0,M Q b1,M Q b2,M Q b3])).run prog w= .ok (a0==b0&&(a1==b1&&(a2==b2&&(a3==b3)))) w:=by
 have ui:=underlying3;have ci:=Tryz.isAgg3;have zi:=Tryz.sizeOf3;have hS:prog.underlying 39=E (.struct (prog.fieldsOf 39)):=by kernel_rfl
 have hp:prog.stoodInHeld 39=C:=by kernel_rfl
 rw[show d+2=(d+1)+1 from rfl,run_equalIn_agg w (d+1) 39 _ _ hS hp];simp only[Program.fieldsOf,underlying39];go_simp;by_cases h0:a0=b0
 ·skip
  by_cases h1:a1=b1
  ·skip
   by_cases h2:a2=b2
   ·skip
    by_cases h3:a3=b3
    ·skip
     simp[h0,h1,h2,h3]
    ·simp[h0,h1,h2,h3]
   ·simp[h0,h1,h2]
  ·simp[h0,h1]
 ·simp[h0]
@[go_sem] theorem Af (a0 b0:Int) (a1 b1:Int) (a2 b2:Int) (a3 b3:Int) (w:I):(Op.equalIn 10000 39 (.agg #[M Q a0,M Q a1,M Q a2,M Q a3]) (.agg #[M Q b0,M Q b1,M Q b2,M Q b3])).run prog w= .ok (a0==b0&&(a1==b1&&(a2==b2&&(a3==b3)))) w:=xu 9998 a0 b0 a1 b1 a2 b2 a3 b3 w
@[go_sem] theorem yZ:prog.eqGuardType prog.depth 39=C:=by kernel_rfl
theorem sH(d:Nat)(a0 b0:Int)(a1 b1:Int)(a2 b2:Bool)(w:I):(Op.equalIn (d+2) 41 (.agg #[M Q a0,M Q a1,V a2]) (.agg #[M Q b0,M Q b1,V b2])).run prog w= .ok (a0==b0&&(a1==b1&&(a2==b2))) w:=by
 have ub:=underlying4;have cb:=Tryz.isAgg4;have zb:=Tryz.sizeOf4;have ui:=underlying3;have ci:=Tryz.isAgg3;have zi:=Tryz.sizeOf3;have hS:prog.underlying 41=E (.struct (prog.fieldsOf 41)):=by kernel_rfl
 have hp:prog.stoodInHeld 41=C:=by kernel_rfl
 rw[show d+2=(d+1)+1 from rfl,run_equalIn_agg w (d+1) 41 _ _ hS hp];simp only[Program.fieldsOf,underlying41];go_simp;by_cases h0:a0=b0
 ·skip
  by_cases h1:a1=b1
  ·skip
   by_cases h2:a2=b2
   ·skip
    simp[h0,h1,h2]
   ·simp[h0,h1,h2]
  ·simp[h0,h1]
 ·simp[h0]
@[go_sem] theorem y9 (a0 b0:Int) (a1 b1:Int) (a2 b2:Bool) (w:I):(Op.equalIn 10000 41 (.agg #[M Q a0,M Q a1,V a2]) (.agg #[M Q b0,M Q b1,V b2])).run prog w= .ok (a0==b0&&(a1==b1&&(a2==b2))) w:=sH 9998 a0 b0 a1 b1 a2 b2 w
@[go_sem] theorem wF:prog.eqGuardType prog.depth 41=C:=by kernel_rfl
theorem sI(d:Nat)(a0 b0:Int)(a1 b1:Int)(a2 b2:Int)(w:I):(Op.equalIn (d+2) 34 (.agg #[M Q a0,M Q a1,M Q a2]) (.agg #[M Q b0,M Q b1,M Q b2])).run prog w= .ok (a0==b0&&(a1==b1&&(a2==b2))) w:=by
 have ui:=underlying3;have ci:=Tryz.isAgg3;have zi:=Tryz.sizeOf3;have hS:prog.underlying 34=E (.struct (prog.fieldsOf 34)):=by kernel_rfl
 have hp:prog.stoodInHeld 34=C:=by kernel_rfl
 rw[show d+2=(d+1)+1 from rfl,run_equalIn_agg w (d+1) 34 _ _ hS hp];simp only[Program.fieldsOf,underlying34];go_simp;by_cases h0:a0=b0
 ·skip
  by_cases h1:a1=b1
  ·skip
   by_cases h2:a2=b2
   ·skip
    simp[h0,h1,h2]
   ·simp[h0,h1,h2]
  ·simp[h0,h1]
 ·simp[h0]
@[go_sem] theorem za (a0 b0:Int) (a1 b1:Int) (a2 b2:Int) (w:I):(Op.equalIn 10000 34 (.agg #[M Q a0,M Q a1,M Q a2]) (.agg #[M Q b0,M Q b1,M Q b2])).run prog w= .ok (a0==b0&&(a1==b1&&(a2==b2))) w:=sI 9998 a0 b0 a1 b1 a2 b2 w
@[go_sem] theorem wG:prog.eqGuardType prog.depth 34=C:=by kernel_rfl
theorem uC(d:Nat)(a0 b0:Bool)(a1 b1:Bool)(a2 b2:Int)(a3 b3:Bool)(a4 b4:Bool)(a5 b5:Int)(w:I):(Op.equalIn (d+2) 70 (.agg #[V a0,V a1,M Q a2,V a3,V a4,M Q a5]) (.agg #[V b0,V b1,M Q b2,V b3,V b4,M Q b5])).run prog w= .ok (a0==b0&&(a1==b1&&(a2==b2&&(a3==b3&&(a4==b4&&(a5==b5)))))) w:=by
 have ub:=underlying4;have cb:=Tryz.isAgg4;have zb:=Tryz.sizeOf4;have ui:=underlying3;have ci:=Tryz.isAgg3;have zi:=Tryz.sizeOf3;have hS:prog.underlying 70=E (.struct (prog.fieldsOf 70)):=by kernel_rfl
 have hp:prog.stoodInHeld 70=C:=by kernel_rfl
 rw[show d+2=(d+1)+1 from rfl,run_equalIn_agg w (d+1) 70 _ _ hS hp];simp only[Program.fieldsOf,underlying70];go_simp;by_cases h0:a0=b0
 ·skip
  by_cases h1:a1=b1
  ·skip
   by_cases h2:a2=b2
   ·skip
    by_cases h3:a3=b3
    ·skip
     by_cases h4:a4=b4
     ·skip
      by_cases h5:a5=b5
      ·skip
       simp[h0,h1,h2,h3,h4,h5]
      ·simp[h0,h1,h2,h3,h4,h5]
     ·simp[h0,h1,h2,h3,h4]
    ·simp[h0,h1,h2,h3]
   ·simp[h0,h1,h2]
  ·simp[h0,h1]
 ·simp[h0]
@[go_sem] theorem zt (a0 b0:Bool) (a1 b1:Bool) (a2 b2:Int) (a3 b3:Bool) (a4 b4:Bool) (a5 b5:Int) (w:I):(Op.equalIn 10000 70 (.agg #[V a0,V a1,M Q a2,V a3,V a4,M Q a5]) (.agg #[V b0,V b1,M Q b2,V b3,V b4,M Q b5])).run prog w= .ok (a0==b0&&(a1==b1&&(a2==b2&&(a3==b3&&(a4==b4&&(a5==b5)))))) w:=uC 9998 a0 b0 a1 b1 a2 b2 a3 b3 a4 b4 a5 b5 w
@[go_sem] theorem xC:prog.eqGuardType prog.depth 70=C:=by kernel_rfl
theorem uD(d:Nat)(a0 b0:Int)(a1 b1:Int)(w:I):(Op.equalIn (d+2) 27 (.agg #[M Q a0,M Q a1]) (.agg #[M Q b0,M Q b1])).run prog w= .ok (a0==b0&&(a1==b1)) w:=by
 have ui:=underlying3;have ci:=Tryz.isAgg3;have zi:=Tryz.sizeOf3;have hS:prog.underlying 27=E (.struct (prog.fieldsOf 27)):=by kernel_rfl
 have hp:prog.stoodInHeld 27=C:=by kernel_rfl
 rw[show d+2=(d+1)+1 from rfl,run_equalIn_agg w (d+1) 27 _ _ hS hp];simp only[Program.fieldsOf,underlying27];go_simp;by_cases h0:a0=b0
 ·skip
  by_cases h1:a1=b1
  ·skip
   simp[h0,h1]
  ·simp[h0,h1]
 ·simp[h0]
@[go_sem] theorem zu (a0 b0:Int) (a1 b1:Int) (w:I):(Op.equalIn 10000 27 (.agg #[M Q a0,M Q a1]) (.agg #[M Q b0,M Q b1])).run prog w= .ok (a0==b0&&(a1==b1)) w:=uD 9998 a0 b0 a1 b1 w
@[go_sem] theorem xD:prog.eqGuardType prog.depth 27=C:=by kernel_rfl
@[go_sem] theorem zv (a0 b0:Bool) (a1 b1:Bool) (a2 b2:Bool) (a3 b3:Bool) (w:I):(Op.equalIn 10000 167 (.agg #[V a0,V a1,V a2,V a3]) (.agg #[V b0,V b1,V b2,V b3])).run prog w= .ok (a0==b0&&(a1==b1&&(a2==b2&&(a3==b3)))) w:=by
  have u3:=underlying4;have c3:=Tryz.isAgg4;have z3:=Tryz.sizeOf4;rw[show(10000:Nat)=9999+1 from rfl,Op.equalIn];simp only[Sem.run_bind,run_underlying underlying167,Result.andThen_ok];simp only[Std.Legacy.Range.forIn_eq_forIn_range',Std.Legacy.Range.size,Nat.sub_zero,Nat.add_sub_cancel,Nat.div_one,List.range'_succ,List.range'_zero,List.forIn_cons,List.forIn_nil];go_simp;by_cases h0:a0=b0
  ·skip
   by_cases h1:a1=b1
   ·skip
    by_cases h2:a2=b2
    ·skip
     by_cases h3:a3=b3
     ·skip
      simp[h0,h1,h2,h3]
     ·simp[h0,h1,h2,h3]
    ·simp[h0,h1,h2]
   ·simp[h0,h1]
  ·simp[h0]
@[go_sem] theorem xI:prog.eqGuardType prog.depth 167=C:=by kernel_rfl
@[go_sem] theorem Aj (a0 b0:Int) (a1 b1:Int) (a2 b2:Int) (a3 b3:Int) (a4 b4:Int) (a5 b5:Int) (a6 b6:Int) (a7 b7:Int) (w:I):(Op.equalIn 10000 164 (.agg #[M W a0,M W a1,M W a2,M W a3,M W a4,M W a5,M W a6,M W a7]) (.agg #[M W b0,M W b1,M W b2,M W b3,M W b4,M W b5,M W b6,M W b7])).run prog w= .ok (a0==b0&&(a1==b1&&(a2==b2&&(a3==b3&&(a4==b4&&(a5==b5&&(a6==b6&&(a7==b7)))))))) w:=by
  have u3:=underlying64;have c3:=Tryz.isAgg64;have z3:=Tryz.sizeOf64;rw[show(10000:Nat)=9999+1 from rfl,Op.equalIn];simp only[Sem.run_bind,run_underlying underlying164,Result.andThen_ok];simp only[Std.Legacy.Range.forIn_eq_forIn_range',Std.Legacy.Range.size,Nat.sub_zero,Nat.add_sub_cancel,Nat.div_one,List.range'_succ,List.range'_zero,List.forIn_cons,List.forIn_nil];go_simp;by_cases h0:a0=b0
  ·skip
   by_cases h1:a1=b1
   ·skip
    by_cases h2:a2=b2
    ·skip
     by_cases h3:a3=b3
     ·skip
      by_cases h4:a4=b4
      ·skip
       by_cases h5:a5=b5
       ·skip
        by_cases h6:a6=b6
        ·skip
         by_cases h7:a7=b7
         ·skip
          simp[h0,h1,h2,h3,h4,h5,h6,h7]
         ·simp[h0,h1,h2,h3,h4,h5,h6,h7]
        ·simp[h0,h1,h2,h3,h4,h5,h6]
       ·simp[h0,h1,h2,h3,h4,h5]
      ·simp[h0,h1,h2,h3,h4]
     ·simp[h0,h1,h2,h3]
    ·simp[h0,h1,h2]
   ·simp[h0,h1]
  ·simp[h0]
@[go_sem] theorem zw:prog.eqGuardType prog.depth 164=C:=by kernel_rfl
def fc(s:T):Nat→G:=fun j=>if j % 9=0 then V (s.tk (j / 9)) else(M W) (s.wd (j / 9) (j % 9 - 1))
theorem zc(s:T)(k:Nat):fc s (k*9)=V (s.tk k):=by
 unfold fc;rw[if_pos (by omega),show k*9 / 9=k by omega]
theorem ze(s:T)(k i:Nat)(h:i<8):fc s (k*9+1+i)=M W (s.wd k i):=by
 unfold fc;rw[if_neg (by omega),show(k*9+1+i) / 9=k by omega,show(k*9+1+i) % 9 - 1=i by omega]
def gq(l:List Nat):List G:=l.map fun(k:Nat)=>M Q (k:Int)
def bX(p g:Nat)(vf:G)(s:T)(R:ae):ae:=
 aa p #[.slice (E (aMk g 0 F)) s.n s.n,vf] 163*(aa g (bn (s.n*9) (fc s)) 166*(cj 3 1 vf s.frees.length (gq s.frees)*R))
def aj(p:Nat)(s:T):ae:=ex fun g=>ex fun vf=>bX p g vf s (ei True)
theorem fJ(R:ae):ei True*R=R:=by
 funext h
 apply propext;constructor
 ·rintro⟨h1,h2,d,rfl,⟨_,rfl⟩,q⟩
  have:Hpm.union Hpm.emp h2=h2:=by funext b;simp[Hpm.union,Hpm.emp]
  rw[this];exact q
 ·intro q
  exact⟨Hpm.emp,h,fun b=> .inl rfl,by funext b;simp[Hpm.union,Hpm.emp],⟨trivial,rfl⟩,q⟩
theorem dU{p:Nat}{s:T}{R:ae}{w:I}(h:Z w (aj p s*R)):∃g vf,Z w (bX p g vf s R):=by
 unfold aj at h;obtain⟨g,h⟩:=aG.1 h;obtain⟨vf,h⟩:=aG.1 h;refine⟨g,vf,?_⟩;unfold bX at h⊢;simpa only[aI,fJ] using h
theorem dV{p g:Nat}{vf:G}{s:T}{R:ae}{w:I}(h:Z w (bX p g vf s R)):Z w (aj p s*R):=by
 unfold aj;refine aG.2 ⟨g,aG.2 ⟨vf,?_⟩⟩;unfold bX at h⊢;simpa only[aI,fJ] using h
theorem oR{s:T}{k:Int}(h:¬(0≤k∧k<s.n)):s.has k=C:=by
 unfold Ms.has;by_cases h0:0≤k<;>by_cases h4:k<s.n<;>simp[h0,h4]
 omega
theorem rJ{s:T}{k:Nat}(h:k<s.n):s.has k=s.tk k:=by
 unfold Ms.has;have h4:(k:Int)<s.n:=by omega
 simp[h]
theorem gr(p g:Nat)(vf:G)(s:T)(k:Int)(R:ae)(w:I)(h:Z w (bX p g vf s R)):
  Y prog 165 #[.pointer (E (aMk p 0 F)),.int .i64 k] w (ag (V (s.has k)) w):=by
 obtain⟨c0,c1⟩:=h.cells2;by_cases h0:0≤k
 ·by_cases h4:k<s.n
  ·obtain⟨k,rfl⟩:=S h0
   have hc:=h.right.tabGet (j:=k*9) (by omega);rw[zc] at hc;have hy:=J (rJ (s:=s) (k:=k) (by omega));have hg:=h.right.lt;go_enter func165,ntmps165;go_wp2;go_ret;exact⟨by rw[hy.out];rfl,rfl⟩
  ·have hy:=J (oR (s:=s) (k:=k) (by omega))
   go_enter func165,ntmps165;go_wp2;go_ret;exact⟨by rw[hy.out];rfl,rfl⟩
 ·have hy:=J (oR (s:=s) (k:=k) (by omega))
  go_enter func165,ntmps165;go_wp2;go_ret;exact⟨by rw[hy.out];rfl,rfl⟩
def dW(s:T)(g:Nat)(k i:Int):G:=if s.hasW k i then .pointer (E ⟨g,k.toNat*9+1+i.toNat,F⟩) else .pointer F
theorem jb{s:T}{k i:Int}:s.hasW k i=B↔s.has k=B∧0≤i∧i<8:=by
 unfold Ms.hasW;simp
theorem iu(p g:Nat)(vf:G)(s:T)(k i:Int)(R:ae)(w:I)(h:Z w (bX p g vf s R)):
  Y prog 182 #[.pointer (E (aMk p 0 F)),.int .i64 k,.int .i64 i] w (ag (dW s g k i) w):=by
 obtain⟨c0,c1⟩:=h.cells2;cases hk:s.has k with
 |false=>
  have hy:=J (show dW s g k i= .pointer F by unfold dW Ms.hasW;rw[hk];rfl);go_enter func182,ntmps182;go_wp2_with(go_at_call 165;refine(gr p g vf s _ _ _ h).mono ?_;rintro e w' ⟨rfl,rfl⟩)
  go_ret;exact⟨by rw[hy.out];rfl,rfl⟩
 |true=>
  by_cases i0:i<0
  ·have hy:=J (show dW s g k i= .pointer F by unfold dW Ms.hasW;rw[if_neg];simp;omega)
   go_enter func182,ntmps182;go_wp2_with(go_at_call 165;refine(gr p g vf s _ _ _ h).mono ?_;rintro e w' ⟨rfl,rfl⟩)
   go_ret;exact⟨by rw[hy.out];rfl,rfl⟩
  by_cases i8:8≤i
  ·have hy:=J (show dW s g k i= .pointer F by unfold dW Ms.hasW;rw[if_neg];simp;omega)
   go_enter func182,ntmps182;go_wp2_with(go_at_call 165;refine(gr p g vf s _ _ _ h).mono ?_;rintro e w' ⟨rfl,rfl⟩)
   go_ret;exact⟨by rw[hy.out];rfl,rfl⟩
  have hk':=Ms.has_iff.1 hk;obtain⟨k0,k1,_⟩:=hk';obtain⟨k,rfl⟩:=S k0;obtain⟨i,rfl⟩:=S (show 0≤i by omega);have hy:=J (show dW s g k i= .pointer (E ⟨g,k*9+1+i,F⟩) by unfold dW;rw[if_pos (jb.2 ⟨hk,by omega,by omega⟩)];simp);have hg:=h.right.lt;go_enter func182,ntmps182;go_wp2_with(go_at_call 165;refine(gr p g vf s _ _ _ h).mono ?_;rintro e w' ⟨rfl,rfl⟩)
  go_ret;exact⟨by rw[hy.out];rfl,rfl⟩
def ep(s:T)(k i:Int):Int:=if s.hasW k i then s.wd k.toNat i.toNat else 0
theorem lF{p g:Nat}{vf:G}{s:T}{k i:Int}{R:ae}{w:I}(h:Z w (bX p g vf s R))(hw:s.hasW k i=B):
  w.cell? ⟨g,k.toNat*9+1+i.toNat,F⟩=E (M W (s.wd k.toNat i.toNat)):=by
 obtain⟨hk,i0,i8⟩:=jb.1 hw;obtain⟨k0,k1,_⟩:=Ms.has_iff.1 hk;rw[h.right.tabGet (by omega),ze _ _ _ (by omega)]
theorem vH(s:T)(k i:Nat)(v:Int)(hi:i<8)(j:Nat):bZ (fc s) (k*9+1+i) (M W v) j=fc (s.setW k i v) j:=by
 unfold bZ fc Ms.setW;dsimp only;by_cases h:j=k*9+1+i
 ·subst h
  rw[if_pos rfl,if_neg (by omega),show(k*9+1+i) / 9=k by omega,show(k*9+1+i) % 9 - 1=i by omega,if_pos ⟨rfl,rfl⟩]
 ·rw[if_neg h]
  by_cases h9:j % 9=0
  ·rw[if_pos h9,if_pos h9]
  ·rw[if_neg h9,if_neg h9,if_neg (by omega)]
theorem ku{p g:Nat}{vf:G}{s:T}{k i:Nat}{R:ae}{w:I}(h:Z w (bX p g vf s R))(hi:i<8)(v:Int):
  Z (w.setCell ⟨g,k*9+1+i,F⟩ (M W v)) (bX p g vf (s.setW k i v) R):=
 ((h.p2.tabSet _ _).tabExt fun j _=>vH s k i v hi j).p2
theorem uE(p g:Nat)(vf:G)(s:T)(k i:Int)(R:ae)(w:I)(h:Z w (bX p g vf s R)):
  Y prog 170 #[.pointer (E (aMk p 0 F)),.int .i64 k,.int .i64 i] w (ag (.tuple #[M W (ep s k i),V (s.hasW k i)]) w):=by
 cases hw:s.hasW k i with
 |true=>
  have hc:=lF h hw;have hy:=J (show ep s k i=s.wd k.toNat i.toNat by unfold ep;rw[if_pos hw]);have hp:dW s g k i= .pointer (E ⟨g,k.toNat*9+1+i.toNat,F⟩):=by unfold dW;rw[if_pos hw]
  clear hw;generalize k.toNat*9+1+i.toNat=o at*
  generalize s.wd k.toNat i.toNat=x at*
  have hg:=h.right.lt;go_enter func170,ntmps170;go_wp2_with(go_at_call 182;refine(iu p g vf s _ _ _ _ h).mono ?_;rintro e w' ⟨rfl,rfl⟩)
  exact af (v:= .tuple #[M W x,V B]) (by simp[results,results170,go_sem]) rfl ⟨by rw[hy.out],rfl⟩
 |false=>
  have hy:=J (show ep s k i=0 by unfold ep;rw[hw];rfl);have hp:dW s g k i= .pointer F:=by unfold dW;rw[hw];rfl
  clear hw;go_enter func170,ntmps170;go_wp2_with(go_at_call 182;refine(iu p g vf s _ _ _ _ h).mono ?_;rintro e w' ⟨rfl,rfl⟩)
  exact af (v:= .tuple #[M W 0,V C]) (by simp[results,results170,go_sem]) rfl ⟨by rw[hy.out],rfl⟩
def fy(s:T)(k i:Int)(v:Int):T:=if s.hasW k i then s.setW k.toNat i.toNat v else s
theorem sJ(p g:Nat)(vf:G)(s:T)(k i v:Int)(R:ae)(w:I)(h:Z w (bX p g vf s R)):
  Y prog 154 #[.pointer (E (aMk p 0 F)),.int .i64 k,.int .i64 i,.int .u64 v] w (cN (V (s.hasW k i)) (bX p g vf (fy s k i v) R) w):=by
 cases hw:s.hasW k i with
 |true=>
  have hc:=lF h hw;have h2:=ku (k:=k.toNat) (i:=i.toNat) h (by have:=(jb.1 hw).2;omega) v;have hy:=J (show fy s k i v=s.setW k.toNat i.toNat v by unfold fy;rw[if_pos hw]);have hp:dW s g k i= .pointer (E ⟨g,k.toNat*9+1+i.toNat,F⟩):=by unfold dW;rw[if_pos hw]
  clear hw;generalize k.toNat*9+1+i.toNat=o at*
  have hf:=h.right.free o;have hg:=h.right.lt;go_enter func154,ntmps154;go_wp2_with(go_at_call 182;refine(iu p g vf s _ _ _ _ h).mono ?_;rintro e w' ⟨rfl,rfl⟩)
  go_ret;exact⟨rfl,by rw[hy.out];exact h2,ai⟩
 |false=>
  have hy:=J (show fy s k i v=s by unfold fy;rw[hw];rfl);have hp:dW s g k i= .pointer F:=by unfold dW;rw[hw];rfl
  clear hw;go_enter func154,ntmps154;go_wp2_with(go_at_call 182;refine(iu p g vf s _ _ _ _ h).mono ?_;rintro e w' ⟨rfl,rfl⟩)
  go_ret;exact⟨rfl,by rw[hy.out];exact h,Ext.refl _⟩
def jc(s:T)(k i a9:Int):Bool:=s.hasW k i&&(s.wd k.toNat i.toNat==a9)
def iI(s:T)(k i a9:Int)(v:Int):T:=if jc s k i a9 then s.setW k.toNat i.toNat v else s
theorem uF(p g:Nat)(vf:G)(s:T)(k i a9 v:Int)(R:ae)(w:I)(h:Z w (bX p g vf s R)):
  Y prog 164 #[.pointer (E (aMk p 0 F)),.int .i64 k,.int .i64 i,.int .u64 a9,.int .u64 v] w (cN (V (jc s k i a9)) (bX p g vf (iI s k i a9 v) R) w):=by
 cases hw:s.hasW k i with
 |true=>
  have hc:=lF h hw;have h2:=ku (k:=k.toNat) (i:=i.toNat) h (by have:=(jb.1 hw).2;omega) v;have hp:dW s g k i= .pointer (E ⟨g,k.toNat*9+1+i.toNat,F⟩):=by unfold dW;rw[if_pos hw]
  have hs:jc s k i a9=(s.wd k.toNat i.toNat==a9):=by unfold jc;rw[hw];rfl
  clear hw;generalize hx:s.wd k.toNat i.toNat=x at*
  clear hx;have hf:=h.right.free (k.toNat*9+1+i.toNat);have hg:=h.right.lt;generalize k.toNat*9+1+i.toNat=o at*
  cases he:(x==a9) with
  |true=>
   have hy:=J (show iI s k i a9 v=s.setW k.toNat i.toNat v by unfold iI;rw[hs,he];rfl);have hz:=J (hs.trans he);clear hs;go_enter func164,ntmps164;go_wp2_with(go_at_call 182;refine(iu p g vf s _ _ _ _ h).mono ?_;rintro e w' ⟨rfl,rfl⟩)
   go_ret;exact⟨by rw[hz.out];rfl,by rw[hy.out];exact h2,ai⟩
  |false=>
   have hy:=J (show iI s k i a9 v=s by unfold iI;rw[hs,he];rfl);have hz:=J (hs.trans he);clear hs;go_enter func164,ntmps164;go_wp2_with(go_at_call 182;refine(iu p g vf s _ _ _ _ h).mono ?_;rintro e w' ⟨rfl,rfl⟩)
   go_ret;exact⟨by rw[hz.out];rfl,by rw[hy.out];exact h,Ext.refl _⟩
 |false=>
  have hz:=J (show jc s k i a9=C by unfold jc;rw[hw];rfl);have hy:=J (show iI s k i a9 v=s by unfold iI;rw[hz.out];rfl);have hp:dW s g k i= .pointer F:=by unfold dW;rw[hw];rfl
  clear hw;go_enter func164,ntmps164;go_wp2_with(go_at_call 182;refine(iu p g vf s _ _ _ _ h).mono ?_;rintro e w' ⟨rfl,rfl⟩)
  go_ret;exact⟨by rw[hz.out];rfl,by rw[hy.out];exact h,Ext.refl _⟩
theorem uG(p g:Nat)(vf:G)(s:T)(R:ae)(w:I)(h:Z w (bX p g vf s R)):
  Y prog 75 #[.pointer (E (aMk p 0 F))] w (ag (M Q (s.frees.length:Nat)) w):=by
 obtain⟨A,c,rfl⟩:=h.right.right.rowForm;obtain⟨c0,c1⟩:=h.cells2;go_enter func75,ntmps75;go_wp2;go_ret;exact⟨rfl,rfl⟩
theorem p5{l:List Nat}{j k:Nat}(h:l[j]? =E k):(gq l)[j]? =E (M Q (k:Int)):=by simp[gq,h]
theorem vJ(s:T)(k:Nat)(j:Nat):
  bZ (bZ (bZ (bZ (bZ (bZ (bZ (bZ (bZ (fc s) (k*9) (V B)) (k*9+1) (M W 0)) (k*9+2) (M W 0)) (k*9+3) (M W 0)) (k*9+4) (M W 0)) (k*9+5) (M W 0)) (k*9+6) (M W 0)) (k*9+7) (M W 0)) (k*9+8) (M W 0) j=fc (s.take k) j:=by
 unfold bZ fc Ms.take;dsimp only;unfold bZ;by_cases h:j / 9=k
 ·by_cases h0:j % 9=0
  ·rw[if_neg (by omega),if_neg (by omega),if_neg (by omega),if_neg (by omega),if_neg (by omega),if_neg (by omega),if_neg (by omega),if_neg (by omega),if_pos (by omega),if_pos h0,if_pos h]
  ·rw[if_neg h0,if_neg h0,if_pos h]
   by_cases h8:j=k*9+8
   ·rw[if_pos h8]
   by_cases h7:j=k*9+7
   ·rw[if_neg h8,if_pos h7]
   by_cases h6:j=k*9+6
   ·rw[if_neg h8,if_neg h7,if_pos h6]
   by_cases h5:j=k*9+5
   ·rw[if_neg h8,if_neg h7,if_neg h6,if_pos h5]
   by_cases h4:j=k*9+4
   ·rw[if_neg h8,if_neg h7,if_neg h6,if_neg h5,if_pos h4]
   by_cases h3:j=k*9+3
   ·rw[if_neg h8,if_neg h7,if_neg h6,if_neg h5,if_neg h4,if_pos h3]
   by_cases h2:j=k*9+2
   ·rw[if_neg h8,if_neg h7,if_neg h6,if_neg h5,if_neg h4,if_neg h3,if_pos h2]
   by_cases h1:j=k*9+1
   ·rw[if_neg h8,if_neg h7,if_neg h6,if_neg h5,if_neg h4,if_neg h3,if_neg h2,if_pos h1]
   omega
 ·rw[if_neg (by omega),if_neg (by omega),if_neg (by omega),if_neg (by omega),if_neg (by omega),if_neg (by omega),if_neg (by omega),if_neg (by omega),if_neg (by omega),if_neg h,if_neg h]
theorem uH(p g:Nat)(vf:G)(s:T)(k:Nat)(R:ae)(w:I)(h:Z w (bX p g vf s R))(hk:s.top=E k)(hn:k<s.n):
  Y prog 52 #[.pointer (E (aMk p 0 F))] w fun e w'=>∃vf',cN (M Q k) (bX p g vf' (s.take k) R) w e w':=by
 have hfr:=Ms.frees_take s k hk;obtain⟨m,hm⟩:∃m,s.frees.length=m+1:=⟨(s.take k).frees.length,by rw[←hfr];simp⟩;have hm':(s.take k).frees.length =m:=by rw[←hfr] at hm;simpa using hm
 have hlast:s.frees[m]? =E k:=by rw[←hfr,←hm'];simp
 have hints:(gq s.frees).take m=gq (s.take k).frees :=by rw[←hfr,←hm'];simp[gq]
 obtain⟨c0,c1⟩:=h.cells2;have e0:=h.lt;have f1:=h.free 1;have h1:Z w (cj 3 1 vf (m+1) (gq s.frees)*(aa p #[.slice (E (aMk g 0 F)) s.n s.n,vf] 163*(aa g (bn (s.n*9) (fc s)) 166*R))):=by
  have:=h;unfold bX at this;rw[hm] at this;exact this.eq (by(simp only[aI,av,bo]))
 obtain⟨gf,cap,rfl,hcap,hcap2,hgf,hx⟩:=h1.rowHead;have hx':=hx _ (p5 hlast);have h2:=h1.rowPop.p2.set 1 (.slice (E (aMk gf 0 F)) m cap);have e1:=h.right.lt;have hm63:m+1≤9223372036854775807:=by unfold maxLen at hcap2;omega
 have h3:=h2.a2.p2;have hg1:=h3.tabGet (j:=k*9) (by omega);have t1:=h3.tabGet (j:=k*9+1) (by omega);have z1:=h3.free (k*9+1);have t2:=h3.tabGet (j:=k*9+2) (by omega);have z2:=h3.free (k*9+2);have t3:=h3.tabGet (j:=k*9+3) (by omega);have z3:=h3.free (k*9+3);have t4:=h3.tabGet (j:=k*9+4) (by omega);have z4:=h3.free (k*9+4);have t5:=h3.tabGet (j:=k*9+5) (by omega);have z5:=h3.free (k*9+5);have t6:=h3.tabGet (j:=k*9+6) (by omega);have z6:=h3.free (k*9+6);have t7:=h3.tabGet (j:=k*9+7) (by omega);have z7:=h3.free (k*9+7);have t8:=h3.tabGet (j:=k*9+8) (by omega);have z8:=h3.free (k*9+8);have z0:=h3.free (k*9);have h4:=((((((((h3.tabSet (k*9) (V B)).tabSet (k*9+1) (M W 0)).tabSet (k*9+2) (M W 0)).tabSet (k*9+3) (M W 0)).tabSet (k*9+4) (M W 0)).tabSet (k*9+5) (M W 0)).tabSet (k*9+6) (M W 0)).tabSet (k*9+7) (M W 0)).tabSet (k*9+8) (M W 0);go_enter func52,ntmps52;go_wp2;go_ret;refine⟨.slice (E (aMk gf 0 F)) m cap,rfl,?_,(((((((((((Ext.refl w).set _ _).set _ _).set _ _).set _ _).set _ _).set _ _).set _ _).set _ _).set _ _).set _ _)⟩;have h5:=(h4.tabExt (f':=fc (s.take k)) fun j _=>vJ s k j).p2.a1.in2;unfold bX;rw[hm',←hints];exact h5
theorem sK(p g:Nat)(vf:G)(s:T)(R:ae)(w:I)(h:Z w (bX p g vf s R))(hk:s.top=F):
  Y prog 52 #[.pointer (E (aMk p 0 F))] w (ag (M Q (-1)) w):=by
 have he:s.frees=[]:=by rw[←Ms.frees_top] at hk;simpa using hk
 obtain⟨c0,c1⟩:=h.cells2;obtain⟨A,c,rfl⟩:=h.right.right.rowForm;have hn:s.frees.length=0:=by rw[he];rfl
 rw[hn] at c1;go_enter func52,ntmps52;go_wp2;go_ret;exact⟨rfl,rfl⟩
theorem gF:jp prog 3 (M Q 0) 1 8:=⟨by kernel_rfl,rfl,by omega⟩
theorem vL(s:T)(k:Nat)(j:Nat):bZ (fc s) (k*9) (V C) j=fc (s.give k) j:=by
 unfold bZ fc Ms.give;dsimp only;unfold bZ;by_cases h:j=k*9
 ·rw[if_pos h,if_pos (by omega),if_pos (by omega)]
 ·rw[if_neg h]
  by_cases h0:j % 9=0
  ·rw[if_pos h0,if_pos h0,if_neg (by omega)]
  ·rw[if_neg h0,if_neg h0]
theorem vM(p g:Nat)(vf:G)(s:T)(k:Int)(R:ae)(w:I)(h:Z w (bX p g vf s R))(hk:s.has k=C):
  Y prog 111 #[.pointer (E (aMk p 0 F)),.int .i64 k] w (ag (V C) w):=by
 go_enter func111,ntmps111;go_wp2_with(go_at_call 165;refine(gr p g vf s _ _ _ h).mono ?_;rintro e w' ⟨rfl,rfl⟩)
 go_ret;exact⟨rfl,rfl⟩
theorem uI(p g:Nat)(vf:G)(s:T)(k:Nat)(R:ae)(w:I)(h:Z w (bX p g vf s R))(hk:s.has k=B)(hlen:s.frees.length<1000000):
  Y prog 111 #[.pointer (E (aMk p 0 F)),.int .i64 k] w fun e w'=>∃vf',cN (V B) (bX p g vf' (s.give k) R) w e w':=by
 obtain⟨k0,k1,_⟩:=Ms.has_iff.1 hk;obtain⟨c0,c1⟩:=h.cells2;obtain⟨A,c,rfl⟩:=h.right.right.rowForm;have e0:=h.lt;have e1:=h.right.lt;have hc:=h.right.tabGet (j:=k*9) (by omega);have hf:=h.right.free (k*9);have f1:=h.free 1;have hne:=h.ne;have h2:=((h.p2.tabSet (k*9) (V C)).tabExt (f':=fc (s.give k)) fun j _=>vL s k j);have h3:Z (w.setCell ⟨g,k*9,F⟩ (V C)) (cj 3 1 (.slice A s.frees.length c) s.frees.length (gq s.frees)*(aa p #[.slice (E (aMk g 0 F)) s.n s.n,.slice A s.frees.length c] 163*(aa g (bn (s.n*9) (fc (s.give k))) 166*R))):=h2.eq (by(simp only[aI,av,bo]));have d0:=h3.right.cells2.1;have d1:=h3.right.cells2.2;have e2:=h3.right.lt;have hrow:=h3.alloc (.cells #[M Q k] 3);have hlen':(s.give k).frees.length =s.frees.length+1:=by rw[Ms.frees_give];simp
 have hints:gq (s.give k).frees =gq s.frees++[M Q (k:Int)]:=by rw[Ms.frees_give];simp[gq]
 have hnews:=eM (w.setCell ⟨g,k*9,F⟩ (V C)) (M Q k) 3;rw[show(w.setCell ⟨g,k*9,F⟩ (V C)).heap.size =w.heap.size by simp[World.setCell]] at hnews;have HT:=fun k'=>gr p g _ s k' _ _ h;generalize s.frees.length=m at*
 have hL:=J hlen';clear h h2 hlen';go_enter func111,ntmps111;go_wp2_with(first|(go_at_call 165;refine(HT _).mono ?_;rintro e w' ⟨rfl,rfl⟩)|(at_builtin;refine aN rfl _ _ 45 rfl underlying45 gF _ _ _ rfl hrow (aMk w.heap.size 0 F) 1 1 [M Q k] rfl rfl hnews ?c1 ?c2 ?c3 ?_))
 case c1=>intro u hu;simp at hu;subst hu;rfl
 case c2=>unfold maxLen;omega
 case c3=>omega
 intro v' w2 h' x';obtain⟨A',c',rfl⟩:=h'.rowForm;have g0:=h'.right.lt;have g1:=h'.right.free 1;have g2:=h'.right.cells2.1;have g3:=h'.right.cells2.2;have h5:=(h'.p2.set 1 (.slice A' (m+1) c')).in2;clear hrow d0 d1 e2 h3;go_wp2;go_ret;refine⟨.slice A' (m+1) c',rfl,?_,ai⟩;unfold bX;rw[hL.out,hints];exact h5
end Go.Proofs.YtmfheghbgihdmaaGreat
