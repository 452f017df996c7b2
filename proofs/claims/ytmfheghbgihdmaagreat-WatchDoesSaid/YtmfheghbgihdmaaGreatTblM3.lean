/- Insert, Remove and Protect on a tree of tables, against a book; with no program in sight. -/
import Derived.Test.YtmfheghbgihdmaaGreatWalkM2
import Derived.Test.YtmfheghbgihdmaaGreatSep
import Derived.ProofKit
import Derived.OpenShut
import Derived.ChangeOld
import Derived.Below
import Derived.Deep.Slices
import Derived.Test.YtmfheghbgihdmaaGreatProg
import Derived.Laws.StructEq
import Derived.KernelRfl
import Derived.Lib.Hide
import Derived.WalkSpells
import Derived.Outline
import Derived.BigQuiet
namespace Go.Proofs.YtmfheghbgihdmaaGreat
open Go.Addr renaming mk→aMk
open Bool renaming true→B,false→C
open Option renaming some→E,none→F
open Go renaming Value→G,World→I,Calls→Y,bodyPost_ret→af
open Go.Lib renaming hid→J
open Go.Value renaming int→M,bool→V
open Go.Proofs.YtmfheghbgihdmaaGreat renaming over→N,Ms→T,Has→Z,Same→ag,MapOk→ax
open List renaming getElem?_eq_getElem→O,getElem?_eq_some_iff→U,length_append→ad
open Go.IntKind renaming i64→Q,u64→W
open Int renaming eq_ofNat_of_zero_le→S
open Tryz
open Go.RowKit
structure Lk (s:T) (r:Int) (L:List Mp):Prop where
 ok:Bk.Ok L
 same:∀q,dh q→Bk.find L q=bv s r q
section
variable {s:T} {r:Int} {gone:List Int} {X:Int→Prop} {L:List Mp}
theorem MapOk.inP{x:Mp}(h:ax x):dh x.page:=⟨h.p0,by have:=h.p1;have:=h.sp;omega⟩
theorem Bk.mem_find{L:List Mp}(h:Bk.Ok L){m:Mp}(hm:m∈L):Bk.find L m.page=E m:=by
 obtain⟨k,hk,rfl⟩:=List.getElem_of_mem hm;have hc:=h.chk _ (List.getElem_mem hk);exact(Bk.over_at h hk (dM.2 ⟨by omega,by have:=hc.sp;omega⟩)).2
theorem Bk.find_mem{L:List Mp}{p:Int}{m:Mp}(h:Bk.find L p=E m):m∈L∧N m p=B:=⟨List.mem_of_find?_eq_some h,by have:=List.find?_some h;exact this⟩
theorem Lk.mem(h:Lk s r L){m:Mp}(hm:m∈L):bv s r m.page=E m:=by
 rw[←h.same _ (h.ok.chk _ hm).inP];exact Bk.mem_find h.ok hm
theorem Bk.ext_find{a b:List Mp}(ha:Bk.Ok a)(hb:Bk.Ok b)(h:∀q,dh q→Bk.find a q=Bk.find b q):a=b:=by
 refine Bk.Ok.ext ha hb fun x=> ?_;constructor
 ·intro hx
  have:=Bk.mem_find ha hx;rw[h _ (ha.chk _ hx).inP] at this;exact(Bk.find_mem this).1
 ·intro hx
  have:=Bk.mem_find hb hx;rw[←h _ (hb.chk _ hx).inP] at this;exact(Bk.find_mem this).1
theorem Lk.unique{K:List Mp}(h:Lk s r L)(k:Lk s r K):L=K:=Bk.ext_find h.ok k.ok fun q hq=>(h.same q hq).trans (k.same q hq).symm
theorem qn{a b:Mp}(ha:ax a)(hb:ax b){q:Int}(h1:N a q=B)(h2:N b q=B):du a b=B:=by
 cases h:du a b with
 |true=>rfl
 |false=>
  have:=(eu ha hb).1 h;have:=dM.1 h1;have:=dM.1 h2;omega
theorem Wf.some_map(hw:Wf s r gone (fun _=>False)):∀(n d:Nat),n+d=2→∀{p t:Int},dh p→bo s r p (d+1)=E t→∃q,dh q∧q / aC (3 - d)=p / aC (3 - d)∧bv s r q≠F:=by
 intro n;induction n with
 |zero=>
  intro d hd p t hp ht;obtain rfl:d=2:=by omega
  rcases hw.full p 2 t hp (by omega) ht with h|⟨i,hi,hne⟩
  ·cases h
  obtain⟨q,hq,hpre,hix,_⟩:=kY hp (show 0≤3 by omega) i hi;have hq':bo s r q 3=E t:=by rw[←ht];exact ct s r hq hp 3 (by omega) hpre
  obtain⟨h1,h2⟩:=hw.at_ hq (by omega) hq';have hd0:bu (ay s t (am q (0:Nat))) (0:Nat)=0:=h2;have hl:=fu hd0;have hE:Ends s r q 3 t:=by
   refine⟨by omega,hq',h1,h2,?_⟩;unfold ia cF;show(_&&(_&&((aE (ay s t (am q (0:Nat))) (0:Nat)).there && !(aE (ay s t (am q (0:Nat))) (0:Nat)).leaf)))=C;rcases hl with e|e<;>simp_all
  refine⟨q,hq,hpre,?_⟩;rw[bh hq hE];have ht':(cF s q t (3 - 3)).there =B:=by
   cases h:(cF s q t (3 - 3)).there with
   |true=>rfl
   |false=>
    have:=(hE.not h).2;have hix':am q (3 - 3:Nat)=i:=hix;rw[hix'] at this;exact absurd this hne
  rw[if_pos (hE.leafOf ht')];simp
 |succ n ih=>
  intro d hd p t hp ht;rcases hw.full p d t hp (by omega) ht with h|⟨i,hi,hne⟩
  ·cases h
  obtain⟨q,hq,hpre,hix,_⟩:=kY hp (show 2 - d≤3 by omega) i hi;have e1:2 - d+1=3 - d:=by omega
  have e2:3 - (d+1)=2 - d:=by omega
  rw[e1] at hpre;have hq':bo s r q (d+1)=E t:=by rw[←ht];exact ct s r hq hp (d+1) (by omega) (by rw[show 4 - (d+1)=3 - d by omega];exact hpre)
  cases hg:ia s q t (3 - (d+1)) with
  |true=>
   have hv:bo s r q (d+1+1)=E (cF s q t (3 - (d+1))).frame :=fx.2 ⟨t,hq',hg,rfl⟩;obtain⟨x,hx,hxp,hxm⟩:=ih (d+1) (by omega) hq hv;refine⟨x,hx,?_,hxm⟩;rw[←hpre];exact iz (by omega) hxp
  |false=>
   obtain⟨h1,h2⟩:=hw.at_ hq (by omega) hq';have hE:Ends s r q (d+1) t:=⟨by omega,hq',h1,h2,hg⟩;refine⟨q,hq,hpre,?_⟩;rw[bh hq hE];have ht':(cF s q t (3 - (d+1))).there =B:=by
    cases h:(cF s q t (3 - (d+1))).there with
    |true=>rfl
    |false=>
     have:=(hE.not h).2;rw[e2,hix] at this;exact absurd this hne
   rw[if_pos (hE.leafOf ht')];simp
theorem rm(hw:Wf s r gone (fun _=>False))(hL:Lk s r L){x:Mp}(hx:ax x):((bp s r x.page).e.there =B∨(bp s r x.page).lev <x.size)↔Bk.bad L x=B:=by
 have hp:=hx.inP;obtain⟨d,t,he⟩:=hw.ends _ hp;have hle:=he.le;obtain⟨z,hz,hz3⟩:∃z:Nat,x.size=z∧z<3:=by
  rcases hx.size with ⟨a,_⟩|⟨a,_⟩|⟨a,_⟩
  ·exact⟨0,a,by omega⟩
  ·exact⟨1,a,by omega⟩
  ·exact⟨2,a,by omega⟩
 have hsp:bn x.size=aC z:=by rw[hz];exact eR hz3
 have hxe:x=⟨x.page / aC z*aC z,z,x.frame,x.rights⟩:=by
  have:=hx.al;rw[hsp] at this;have h8:=eP z;have e:x.page / aC z*aC z=x.page:=by have:=Int.mul_ediv_add_emod x.page (aC z);rw[Int.mul_comm];omega
  rw[e,←hz]
 have hov:∀q,N x q=decide (q / aC z=x.page / aC z):=fun q=>by
  conv=>lhs;rw[hxe]
  exact mv hz3 _ _ _ _
 rw[bW hp.1 hp.2 he];dsimp only;rw[hz];constructor
 ·rintro(h|h)
  ·have hl:=he.leafOf h
   have hm:bv s r x.page=E (aA (cF s x.page t (3 - d)) ((3 - d:Nat):Int) x.page):=by rw[bh hp he,if_pos hl]
   obtain⟨h1,h2⟩:=hw.self hp hm;rw[←hL.same _ hp] at hm;exact Bk.bad_find (by rw[hm];rfl)
  ·have hz1:3 - d<z:=by omega
   obtain⟨u,hu⟩:=eB he.tab (show 3 - z+1≤d by omega);obtain⟨q,hq,hpre,hqm⟩:=hw.some_map (z - 1) (3 - z) (by omega) hp hu;rw[show 3 - (3 - z)=z by omega] at hpre;cases hm:bv s r q with
   |none=>exact absurd hm hqm
   |some m=>
    obtain⟨h1,h2⟩:=hw.self hq hm;rw[←hL.same _ hq] at hm;have hmem:=(Bk.find_mem hm).1;have:du m x=B:=qn h2 hx h1 (by rw[hov];exact decide_eq_true hpre);exact List.any_eq_true.2 ⟨m,hmem,this⟩
 ·intro hb
  obtain⟨m,hm,hmeet⟩:=List.any_eq_true.1 hb;have hmo:=hL.ok.chk _ hm;have hma:=hL.mem hm;apply Classical.byContradiction;intro hn;rw[not_or] at hn;have ht:(cF s x.page t (3 - d)).there =C:=by simpa using hn.1
  have hzl:z≤3 - d:=by omega
  unfold du at hmeet;rcases Bool.or_eq_true_iff.1 hmeet with h|h
  ·have:=Wf.overMap hw hmo.inP hp hma h hw
   rw[bh hp he,(he.not ht).1] at this;cases this
  ·rw[hov] at h
   have hpre:=iz hzl (of_decide_eq_true h);obtain⟨hs,hse⟩:=he.same hp hmo.inP hpre;rw[bh hmo.inP hs,hse,(he.not ht).1] at hma;cases hma
theorem sS(hw:Wf s r gone (fun _=>False))(hL:Lk s r L)(x:Mp):(cT s r x=6∧ba x=0∧Bk.bad L x=C∧s.frees.length<3)∨cT s r x=Bk.addC L x:=by
 unfold cT Bk.addC;by_cases hc:ba x=0
 ·have hx:=ep hc
  have hp:=hx.inP;have hwc:=(jD hw hp).1;have hb:=rm hw hL hx;have hcn:¬(ba x≠0):=by omega
  have hwn:¬((bp s r x.page).code ≠0):=by rw[hwc];simp
  rw[if_neg hcn,if_neg hwn,if_neg hcn];by_cases h:(bp s r x.page).e.there =B∨(bp s r x.page).lev <x.size
  ·rw[if_pos h,if_pos (hb.1 h)]
   exact .inr rfl
  ·rw[if_neg h]
   have hbf:Bk.bad L x=C:=by
    cases hbb:Bk.bad L x with
    |false=>rfl
    |true=>exact absurd (hb.2 hbb) h
   by_cases hf:(s.frees.length:Int)< (bp s r x.page).lev - x.size
   ·rw[if_pos hf]
    refine .inl ⟨rfl,hc,hbf,?_⟩;obtain⟨d,t,he⟩:=hw.ends _ hp;rw[bW hp.1 hp.2 he] at hf;dsimp only at hf;have h0:0≤x.size:=by rcases hx.size with ⟨a,_⟩|⟨a,_⟩|⟨a,_⟩<;>omega
    by_cases hd:d=0
    ·subst hd
     by_cases h3:s.frees.length<3
     ·exact h3
     ·exfalso
      rcases hx.size with ⟨a,_⟩|⟨a,_⟩|⟨a,_⟩<;>omega
    ·omega
   ·rw[if_neg hf,if_neg (by rw[hbf];simp)]
    exact .inr rfl
 ·rw[if_pos hc,if_pos hc]
  exact .inr rfl
theorem nN(hw:Wf s r gone (fun _=>False))(hi:s.Inv)(hn:s.n≤128)(x:Mp):
  Wf (dJ s r x) r gone (fun _=>False)∧(dJ s r x).Inv ∧(dJ s r x).n =s.n∧
  ∀q,dh q→bv (dJ s r x) r q=(if cT s r x=0∧N x q=B then E x else bv s r q)∧
   (bv s r q≠F→bp (dJ s r x) r q=bp s r q)∧
   (cT s r x=0∧N x q=B→bv s r q=F∧(bp (dJ s r x) r q).e =dj x):=by
 unfold dJ;by_cases hc:cT s r x=0
 ·rw[if_pos hc]
  have hc0:=hc;unfold cT at hc0;by_cases hk:ba x=0
  ·have hx:=ep hk
   have hp:=hx.inP;have hwc:=(jD hw hp).1;rw[if_neg (by omega),if_neg (by rw[hwc];simp)] at hc0;by_cases h:(bp s r x.page).e.there =B∨(bp s r x.page).lev <x.size
   ·rw[if_pos h] at hc0;cases hc0
   rw[if_neg h] at hc0;by_cases hf:(s.frees.length:Int)< (bp s r x.page).lev - x.size
   ·rw[if_pos hf] at hc0;cases hc0
   rw[not_or] at h;obtain⟨d,t,he⟩:=hw.ends _ hp;have hle:=he.le;rw[bW hp.1 hp.2 he] at h hf⊢;dsimp only at h hf⊢;rw[je he.tab];obtain⟨z,hz,hz3⟩:∃z:Nat,x.size=z∧z<3:=by
    rcases hx.size with ⟨a,_⟩|⟨a,_⟩|⟨a,_⟩
    ·exact⟨0,a,by omega⟩
    ·exact⟨1,a,by omega⟩
    ·exact⟨2,a,by omega⟩
   have hsp:bn x.size=aC z:=by rw[hz];exact eR hz3
   have h8:=eP z;have hal:x.page / aC z*aC z=x.page:=by have:=Int.mul_ediv_add_emod x.page (aC z);have h2:=hx.al;rw[hsp] at h2;rw[Int.mul_comm];omega
   have hxe:x=⟨x.page / aC z*aC z,z,x.frame,x.rights⟩:=by rw[hal,←hz]
   have hov:∀q,N x q=decide (q / aC z=x.page / aC z):=fun q=>by
    conv=>lhs;rw[hxe]
    exact mv hz3 _ _ _ _
   have hfa:aj (dj x) z=0:=by
    refine jw rfl ⟨by omega,by omega,hx.r0,hx.r7,hx.f0,hx.f1,fun _=>⟨by omega,?_⟩,fun h=>by cases h⟩;have:=hx.fa;rw[hz] at this;exact this
   obtain⟨k1,k2,k3⟩:=kq hfa;have hrg:0≤bt (dj x) z∧bt (dj x) z<18446744073709551616:=by
    have:=jx (dB hfa rfl);unfold bt;rw[if_pos ⟨hfa,rfl⟩];omega
   have ht:(cF s x.page t (3 - d)).there =C:=by simpa using h.1
   rw[hz] at h hf⊢;rw[Int.toNat_natCast];obtain⟨n,hnn⟩:∃n:Nat,((3 - d:Nat):Int) - z=n:=⟨3 - d - z,by omega⟩;rw[hnn,Int.toNat_natCast];obtain⟨i1,i2,i3,i4,i5⟩:=tr (p:=x.page) (lw:=bt (dj x) z) (sz:=z) hp hz3 k1 (by rw[k2];rfl) hrg n d t s r gone (fun _=>False) (by omega) hi hn (by omega) hw (fun _ h=>h.elim) he ht;refine⟨i1,i2,i3,fun q hq=> ?_⟩;have:=i5 q hq;by_cases hpre:q / aC z=x.page / aC z
   ·rw[if_pos hpre,k2] at this
    have ho:N x q=B:=by rw[hov];exact decide_eq_true hpre
    have hlm:aA (dj x) z q=x:=by
     rw[ib hq hfa rfl (eR hz3),hpre];exact hxe.symm
    have hnone:bv s r q=F:=by
     obtain⟨hs,hse⟩:=he.same hp hq (iz (show z≤3 - d by omega) hpre);rw[bh hq hs,hse,(he.not ht).1];rfl
    refine⟨?_,fun hne=>absurd hnone hne,fun _=>⟨hnone,this.2⟩⟩;rw[this.1,hlm,if_pos ⟨hc,ho⟩]
   ·rw[if_neg hpre] at this
    have ho:¬N x q=B:=by rw[hov];simpa using hpre
    refine⟨?_,this.2,fun h=>absurd h.2 ho⟩;rw[this.1,if_neg (fun h=>ho h.2)]
  ·rw[if_pos hk] at hc0
   exact absurd hc0 hk
 ·rw[if_neg hc]
  exact⟨hw,hi,rfl,fun q hq=>⟨by rw[if_neg (fun h=>hc h.1)],fun _=>rfl,fun h=>absurd h.1 hc⟩⟩
end
structure Ln where
 m:Mp
 dirty:Bool
 deriving DecidableEq
def Ln.cells(x:Ln):List G:=[M Q x.m.page,M Q x.m.size,M Q x.m.frame,M Q x.m.rights,V x.dirty]
def bV(l:List Ln):List G:=l.flatMap Ln.cells
theorem i7(l:List Ln):(bV l).length =l.length*5:=by
 induction l with
 |nil=>rfl
 |cons x l ih=>
  show(x.cells++bV l).length =_;rw[ad,ih];simp[Ln.cells];omega
theorem fT(a b:List Ln):bV (a++b)=bV a++bV b:=by simp[bV]
namespace Tl
def drop(l:List Ln)(m:Mp):List Ln:=l.filter fun x=> !du x.m m
def room(l:List Ln):List Ln:=if l.length=6 then l.tail else l
def put(l:List Ln)(x:Ln):List Ln:=if ba x.m=0 then room (drop l x.m)++[x] else l
def evict(l:List Ln):List Ln:=l.tail
def find(l:List Ln)(p:Int):Option Ln:=l.find? fun x=>N x.m p
structure Ok (l:List Ln):Prop where
 len:l.length≤6
 chk:∀x∈l,ba x.m=0
 apart:l.Pairwise fun a b=>du a.m b.m=C
theorem Ok.nil:Ok []:=⟨by simp,fun x h=>(by cases h),List.Pairwise.nil⟩
theorem Ok.sub{l k:List Ln}(h:Ok l)(s:k.Sublist l):Ok k:=
 ⟨Nat.le_trans s.length_le h.len,fun x hx=>h.chk x (s.subset hx),h.apart.sublist s⟩
theorem Ok.drop{l:List Ln}(h:Ok l)(m:Mp):Ok (drop l m):=h.sub List.filter_sublist
theorem Ok.evict{l:List Ln}(h:Ok l):Ok (evict l):=h.sub (List.tail_sublist l)
theorem drop_apart(l:List Ln)(m:Mp):∀x∈drop l m,du x.m m=C:=fun x hx=>by
 have:=(List.mem_filter.1 hx).2;simpa using this
theorem room_sub(l:List Ln):(room l).Sublist l:=by
 unfold room;split
 ·exact List.tail_sublist l
 ·exact List.Sublist.refl l
theorem room_len{l:List Ln}(h:l.length≤6):(room l).length ≤5:=by
 unfold room;split
 ·simp;omega
 ·omega
theorem Ok.put{l:List Ln}(h:Ok l)(x:Ln):Ok (put l x):=by
 unfold Tl.put;split
 ·rename_i hc
  have hd:=h.drop x.m;have hr:=hd.sub (room_sub _);refine⟨?_,fun y hy=> ?_,?_⟩
  ·have:=room_len hd.len
   simp;omega
  ·rcases List.mem_append.1 hy with hy|hy
   ·exact hr.chk y hy
   ·rw[List.mem_singleton.1 hy]
    exact hc
  ·rw[List.pairwise_append]
   refine⟨hr.apart,List.pairwise_singleton _ _,fun a ha b hb=> ?_⟩;rw[List.mem_singleton.1 hb];exact drop_apart l x.m a ((room_sub _).subset ha)
 ·exact h
end Tl
structure Ck where
 on:Bool
 a:Ac
 t:Int
 level:Int
 mark:Bool
 w:Int
structure Rs where
 fin:Bool
 an:An
 ln:Ln
def Rs.zero:Rs:=⟨C,An.zero,⟨Mp.zero,C⟩⟩
def Ck.zero:Ck:=⟨C,Ac.zero,0,0,C,0⟩
def Ck.idle(c:Ck):Ck:={c with on:=C,a:=Ac.zero,mark:=C}
def Ck.again(c:Ck)(root:Int):Ck:=if c.on=B then {c with t:=root,level:=3,mark:=C} else c
def Ck.begin(c:Ck)(root:Int)(a:Ac):Ck:={c with on:=B,a:=a,t:=root,level:=3,mark:=C}
def dX(e:En)(a:Ac):Bool:=e.used&&(e.dirty||a.kind !=1)
def ch(e:En)(a:Ac):En:={e with used:=B,dirty:=e.dirty||a.kind==1}
structure Sp where
 c:Ck
 s:T
 r:Rs
 code:Int
def Ck.word(c:Ck)(s:T):Int:=ay s c.t (am c.a.page c.level)
def Ck.leafEnd(c:Ck)(s:T)(e:En):Sp:=
 ⟨c.idle,s,⟨B,bJ (aA e c.level c.a.page) c.a,⟨aA e c.level c.a.page,e.dirty⟩⟩,0⟩
def Ck.endWith(c:Ck)(s:T)(f:Int):Sp:=⟨c.idle,s,⟨B,⟨f,0,0⟩,⟨Mp.zero,C⟩⟩,0⟩
def aR(s:T)(root:Int)(c:Ck):Sp:=
 if c.on=C then⟨c,s,Rs.zero,9⟩
 else if s.has c.t=C then⟨c,s,Rs.zero,12⟩
 else if c.mark=B∧c.word s≠c.w then⟨c.again root,s,Rs.zero,0⟩
 else if bu (c.word s) c.level≠0 then⟨c,s,Rs.zero,bu (c.word s) c.level⟩
 else if(aE (c.word s) c.level).there =C then c.endWith s 1
 else if(aE (c.word s) c.level).leaf =C then⟨{c with t:=(aE (c.word s) c.level).frame,level:=c.level - 1},s,Rs.zero,0⟩
 else if may (aE (c.word s) c.level).rights c.a=C then c.endWith s 2
 else if c.mark=B then
  c.leafEnd (s.setW c.t.toNat (am c.a.page c.level).toNat (bt (ch (aE (c.word s) c.level) c.a) c.level)) (ch (aE (c.word s) c.level) c.a)
 else if dX (aE (c.word s) c.level) c.a=B then c.leafEnd s (aE (c.word s) c.level)
 else⟨{c with mark:=B,w:=c.word s},s,Rs.zero,0⟩
structure Ck.Ok (c:Ck):Prop where
 acc:c.on=B→au c.a=0
 l0:c.on=B→0≤c.level
 l3:c.on=B→c.level≤3
 off:c.on=C→c.a=Ac.zero∧c.mark=C
 dec:c.mark=B→bu c.w c.level=0
 leaf:c.mark=B→(aE c.w c.level).there =B∧(aE c.w c.level).leaf =B
 may:c.mark=B→may (aE c.w c.level).rights c.a=B
 need:c.mark=B→dX (aE c.w c.level) c.a=C
theorem Ck.Ok.zero:Ck.zero.Ok:=⟨fun h=>(by cases h),fun h=>(by cases h),fun h=>(by cases h),fun _=>⟨rfl,rfl⟩,fun h=>(by cases h),fun h=>(by cases h),fun h=>(by cases h),fun h=>(by cases h)⟩
theorem Ck.Ok.idle{c:Ck}:c.idle.Ok:=⟨fun h=>(by cases h),fun h=>(by cases h),fun h=>(by cases h),fun _=>⟨rfl,rfl⟩,fun h=>(by cases h),fun h=>(by cases h),fun h=>(by cases h),fun h=>(by cases h)⟩
theorem Ck.Ok.begin{c:Ck}(root:Int){a:Ac}(h:au a=0):(c.begin root a).Ok :=
 ⟨fun _=>h,fun _=>(by show(0:Int)≤3;omega),fun _=>(by show(3:Int)≤3;omega),fun h=>(by cases h),fun h=>(by cases h),fun h=>(by cases h),fun h=>(by cases h),fun h=>(by cases h)⟩
theorem Ck.Ok.again{c:Ck}(h:c.Ok)(root:Int):(c.again root).Ok :=by
 unfold Ck.again;split
 ·rename_i hon
  exact⟨fun _=>h.acc hon,fun _=>(by show(0:Int)≤3;omega),fun _=>(by show(3:Int)≤3;omega),fun h=>(by rw[hon] at h;cases h),fun h=>(by cases h),fun h=>(by cases h),fun h=>(by cases h),fun h=>(by cases h)⟩
 ·exact h
theorem Ck.Ok.step{c:Ck}(h:c.Ok)(s:T)(root:Int):(aR s root c).c.Ok :=by
 unfold aR;split
 ·exact h
 rename_i hon;have hon:c.on=B:=by simpa using hon
 split
 ·exact h
 split
 ·exact h.again root
 rename_i hm;split
 ·exact h
 rename_i hd;have hd:bu (c.word s) c.level=0:=by simpa using hd
 split
 ·exact Ck.Ok.idle
 rename_i ht;split
 ·rename_i hl
  have hmk:c.mark=C:=by
   cases hmk:c.mark with
   |false=>rfl
   |true=>
    have e:c.word s=c.w:=Decidable.byContradiction fun e=>hm ⟨hmk,e⟩;have:=(h.leaf hmk).2;rw[←e,hl] at this;cases this
  have h0:=h.l0 hon;have hpos:0<c.level:=by
   refine Decidable.byContradiction fun hn=> ?_;have e0:c.level=0:=by omega
   rw[e0] at hd ht hl;rcases fu hd with hx|hx
   ·exact ht hx
   ·rw[hl] at hx;cases hx
  have h3:=h.l3 hon;exact⟨fun _=>h.acc hon,fun _=>(by show 0≤c.level - 1;omega),fun _=>(by show c.level - 1≤3;omega),fun hx=>(by have:c.on=C:=hx;rw[hon] at this;cases this),fun hx=>(by have:c.mark=B:=hx;rw[hmk] at this;cases this),
   fun hx=>(by have:c.mark=B:=hx;rw[hmk] at this;cases this),fun hx=>(by have:c.mark=B:=hx;rw[hmk] at this;cases this),fun hx=>(by have:c.mark=B:=hx;rw[hmk] at this;cases this)⟩
 rename_i hl;split
 ·exact Ck.Ok.idle
 rename_i hmay;split
 ·exact Ck.Ok.idle
 split
 ·exact Ck.Ok.idle
 rename_i hr;exact⟨h.acc,h.l0,h.l3,fun hx=>(by have:c.on=C:=hx;rw[hon] at this;cases this),fun _=>hd,fun _=>⟨by simpa using ht,by simpa using hl⟩,fun _=>(by simpa using hmay),fun _=>(by simpa using hr)⟩
theorem pW(e:En)(a:Ac):ch e a=e↔dX e a=B:=by
 obtain⟨t,l,r,u,d,f⟩:=e;unfold ch dX;constructor
 ·intro h
  injection h with _ _ _ h4 h5 _
  cases u<;>cases d<;>simp_all
 ·intro h
  cases u<;>cases d<;>simp_all
section
variable {s:T} {r:Int} {gone:List Int} {X:Int→Prop} {L:List Mp}
theorem rn{L:Nat}(h:L≤3):jV 0 L:=⟨(dV h).1,by rw[(dV h).2];simp[En.zero]⟩
theorem qo(hw:Wf s r gone X){p t v:Int}{d:Nat}(hp:dh p)(he:Ends s r p d t)(hv:jV v (3 - d)):∀q,dh q→
  if q / aC (3 - d)=p / aC (3 - d) then bp (cE s p t d v) r q=⟨0,cK s r q (d+1),((3 - d:Nat):Int),aE v (3 - d:Nat)⟩∧bp s r q=⟨0,cK s r q (d+1),((3 - d:Nat):Int),cF s p t (3 - d)⟩
  else bp (cE s p t d v) r q=bp s r q:=by
 intro q hq;obtain⟨e,u,hu⟩:=hw.ends q hq;obtain⟨hu',hE⟩:=mi hw hp he.le he.tab he.no hv hq hu;have htabs:cK (cE s p t d v) r q (e+1)=cK s r q (e+1):=by
  unfold cK;refine List.map_congr_left fun x hx=> ?_;rw[fG hw hp he.le he.tab he.no hv hq x (by have:=List.mem_range.1 hx;have:=hu.le;omega)]
 by_cases hpre:q / aC (3 - d)=p / aC (3 - d)
 ·rw[if_pos hpre]
  obtain⟨hs,hse⟩:=he.same hp hq hpre;obtain⟨rfl,rfl⟩:=hs.unique hu;rw[if_pos ⟨rfl,hpre⟩] at hE;rw[bW hq.1 hq.2 hu',bW hq.1 hq.2 hu,hE,hse,htabs];exact⟨rfl,rfl⟩
 ·rw[if_neg hpre]
  rw[if_neg (fun h=>hpre h.2)] at hE;rw[bW hq.1 hq.2 hu',bW hq.1 hq.2 hu,hE,htabs]
theorem eG{s s':T}{r q:Int}(h:bp s' r q=bp s r q):bv s' r q=bv s r q:=by unfold bv;rw[h]
theorem fN{p:Int}(h:bw s r p=0):dh p:=by
 apply Classical.byContradiction;intro hn;have:=o8 (s:=s) (r:=r) hn;unfold bw at h;rw[this] at h;cases h
theorem Wf.found(hw:Wf s r gone X){p:Int}(h:bw s r p=0):∃d t,Ends s r p d t∧(cF s p t (3 - d)).leaf =B∧bp s r p=⟨0,cK s r p (d+1),((3 - d:Nat):Int),cF s p t (3 - d)⟩∧bv s r p=E (bK s r p)∧
  3 - d<3∧∀q,N (bK s r p) q=decide (q / aC (3 - d)=p / aC (3 - d)):=by
 have hp:=fN h;obtain⟨d,t,he⟩:=hw.ends p hp;have hwe:=bW hp.1 hp.2 he;have hf:=hw.find hp;rw[h] at hf;have hm:bv s r p=E (bK s r p):=by
  cases hh:bv s r p with
  |none=>rw[hh] at hf;cases hf.1
  |some m=>rw[hf.2,hh];rfl
 have hl:(cF s p t (3 - d)).leaf =B:=by
  rw[bh hp he] at hm;split at hm
  ·assumption
  ·cases hm
 have hfm:bK s r p=aA (cF s p t (3 - d)) ((3 - d:Nat):Int) p:=by
  rw[bh hp he,if_pos hl] at hm;injection hm with hm
  exact hm.symm
 obtain⟨h3,_,ho⟩:=he.map hp hl;refine⟨d,t,he,hl,hwe,hm,h3,fun q=> ?_⟩;rw[hfm];exact ho q
theorem ma(hw:Wf s r gone (fun _=>False))(hi:s.Inv){p:Int}(hf:bw s r p=0):
  Wf (de s r p) r ((fi s r p).reverse ++gone) (fun _=>False)∧(de s r p).Inv ∧(de s r p).n =s.n∧(de s r p).frees =s.frees∧(∀u,(de s r p).tk u=s.tk u)∧
  ∀q,dh q→bv (de s r p) r q=(if N (bK s r p) q=B then F else bv s r q)∧(N (bK s r p) q=C→bv s r q≠F→bp (de s r p) r q=bp s r q):=by
 have hp:=fN hf;obtain⟨d,t,he,hl,hwe,hm,h3,ho⟩:=hw.found hf;have hle:=he.le;unfold de fi;rw[if_pos hf,if_pos hf,hwe];dsimp only;rw[kH,Nat.add_sub_cancel];have hv:=rn (show 3 - d≤3 by omega);have hP:=hw.put hp he.le he.tab he.no hv;have hX:Wf (cE s p t d 0) r gone (fun u=>u=t):=hP.mono (by
  rintro u (⟨a,_⟩|a)
  ·exact a.elim
  ·exact a.2)
 have hmp:=qo hw hp he hv;have hmap:∀q,dh q→bv (cE s p t d 0) r q=(if N (bK s r p) q=B then F else bv s r q)∧(N (bK s r p) q=C→bv s r q≠F→bp (cE s p t d 0) r q=bp s r q):=fun q hq=>by
  have:=hmp q hq;rw[ho q];split at this
  ·rename_i hpre
   rw[decide_eq_true hpre,if_pos rfl];refine⟨?_,fun h=>by cases h⟩;unfold bv;rw[this.1,(dV (show 3 - d≤3 by omega)).2];rfl
  ·rename_i hpre
   rw[decide_eq_false hpre,if_neg (by simp)];exact⟨eG this,fun _ _=>this⟩
 have hPi:(cE s p t d 0).Inv :=hi.setW _ _ (by omega);cases d with
 |zero=>
  have htr:t=r:=by have:=he.tab;injection this with this;exact this.symm
  have e0:(cK s r p 1).getD 0 0=t:=iQ he.tab (by omega);have es:dO p (cK s r p (0+1)) 0 s=(cE s p t 0 0,[]):=by unfold dO;rw[e0]
  rw[es];subst htr;exact⟨hX.no_root,hPi,rfl,rfl,fun _=>rfl,hmap⟩
 |succ k=>
  have e0:(cK s r p (k+1+1)).getD (k+1) 0=t:=iQ he.tab (by omega);have ez:s.setW ((cK s r p (k+1+1)).getD (k+1) 0).toNat (am p (3 - (k+1):Nat)).toNat 0=cE s p t (k+1) 0:=by rw[e0]
  unfold dO;rw[ez,e0];by_cases hz:fh (cE s p t (k+1) 0) t=B
  ·rw[if_pos hz]
   have htab:∀j,j≤k+1→bo (cE s p t (k+1) 0) r p j=bo s r p j:=fun j hj=>fG hw hp he.le he.tab he.no hv hp j (by omega);obtain⟨i1,i2,i3,i4,i5,i6⟩:=uz hp k (cE s p t (k+1) 0) r gone t (cK s r p (k+1+1)) (by omega) hPi hX (by rw[htab _ (Nat.le_refl _)];exact he.tab) hz (fun j hj=>by
    rw[htab j (by omega)];obtain⟨u,hu⟩:=eB he.tab (show j≤k+1 by omega);rw[iQ hu (by omega),hu];rfl)
   refine⟨?_,i2,i3,i4,i5,fun q hq=> ?_⟩
   ·dsimp only
    rw[List.reverse_cons,List.append_assoc];exact i1
   ·have a:=i6 q hq
    have b:=hmap q hq;refine⟨a.1.trans b.1,fun h1 h2=> ?_⟩;have hb:=b.2 h1 h2;have:bv (cE s p t (k+1) 0) r q≠F:=by rw[eG hb];exact h2
    exact(a.2 this).trans hb
  ·rw[if_neg hz]
   exact⟨hX.no_full (by simpa using hz),hPi,rfl,rfl,fun _=>rfl,hmap⟩
theorem qp(hw:Wf s r gone (fun _=>False))(hi:s.Inv){p t:Int}{d:Nat}(hp:dh p)(he:Ends s r p d t){e':En}(hf:aj e' (3 - d:Nat)=0)(hl':e'.leaf=B):
  Wf (cE s p t d (bt e' (3 - d:Nat))) r gone (fun _=>False)∧(cE s p t d (bt e' (3 - d:Nat))).Inv ∧
  ∀q,dh q→if q / aC (3 - d)=p / aC (3 - d) then bp (cE s p t d (bt e' (3 - d:Nat))) r q=⟨0,cK s r q (d+1),((3 - d:Nat):Int),e'⟩∧bp s r q=⟨0,cK s r q (d+1),((3 - d:Nat):Int),cF s p t (3 - d)⟩
   else bp (cE s p t d (bt e' (3 - d:Nat))) r q=bp s r q:=by
 have ht:e'.there=B:=by
  cases h:e'.there with
  |true=>rfl
  |false=>rw[dA hf h] at hl';cases hl'
 obtain⟨k1,k2,k3⟩:=kq hf;have hv:jV (bt e' (3 - d:Nat)) (3 - d):=⟨k1,by rw[k2,hl'];simp⟩;have hne:bt e' (3 - d:Nat)≠0:=fun h=>by rw[k3.1 h] at ht;cases ht
 have hrg:0≤bt e' (3 - d:Nat)∧bt e' (3 - d:Nat)<18446744073709551616:=by
  have:=jx (dB hf ht);unfold bt;rw[if_pos ⟨hf,ht⟩];omega
 refine⟨(hw.put hp he.le he.tab he.no hv).mono ?_,hi.setW _ _ hrg,fun q hq=> ?_⟩
 ·rintro u (⟨a,_⟩|a)
  ·exact a
  ·exact hne a.1
 ·have:=qo hw hp he hv q hq
  rw[k2] at this;exact this
theorem ni{e:En}{l ri:Int}(hf:aj e l=0)(hl:e.leaf=B)(h0:0≤ri)(h7:ri≤7):aj {e with rights:=ri} l=0:=by
 have ht:e.there=B:=by
  cases h:e.there with
  |true=>rfl
  |false=>rw[dA hf h] at hl;cases hl
 have hk:=dB hf ht;exact jw ht ⟨hk.l0,hk.l4,h0,h7,hk.f0,hk.f1,hk.leaf,fun h=>by rw[hl] at h;cases h⟩
theorem qq{e:En}{l:Int}(a:Ac)(hf:aj e l=0)(hl:e.leaf=B):aj (ch e a) l=0∧(ch e a).leaf =B:=by
 have ht:e.there=B:=by
  cases h:e.there with
  |true=>rfl
  |false=>rw[dA hf h] at hl;cases hl
 have hk:=dB hf ht;exact⟨jw ht ⟨hk.l0,hk.l4,hk.r0,hk.r7,hk.f0,hk.f1,hk.leaf,fun h=>by have h':e.leaf=C:=h;rw[hl] at h';cases h'⟩,hl⟩
theorem qs(hw:Wf s r gone (fun _=>False))(hi:s.Inv){p ri:Int}(hf:iB s r p ri=0):
  Wf (gG s r p ri) r gone (fun _=>False)∧(gG s r p ri).Inv ∧(gG s r p ri).n =s.n∧(gG s r p ri).frees =s.frees∧(∀u,(gG s r p ri).tk u=s.tk u)∧
  ∀q,dh q→(N (bK s r p) q=B→bv s r q=E (bK s r p)∧bv (gG s r p ri) r q=E {bK s r p with rights:=ri}∧(bp (gG s r p ri) r q).e ={(bp s r q).e with rights:=ri})∧
   (N (bK s r p) q=C→bp (gG s r p ri) r q=bp s r q):=by
 have hr:0≤ri∧ri≤7:=by
  unfold iB at hf;split at hf
  ·cases hf
  ·omega
 have hf0:bw s r p=0:=by
  unfold iB at hf;rw[if_neg (by omega)] at hf;exact hf
 have hp:=fN hf0;obtain⟨d,t,he,hl,hwe,hm,h3,ho⟩:=hw.found hf0;have hef:=(io he.dec).1;have hf':aj {cF s p t (3 - d) with rights:=ri} (3 - d:Nat)=0:=ni hef hl hr.1 hr.2;have es:gG s r p ri=cE s p t d (bt {cF s p t (3 - d) with rights:=ri} (3 - d:Nat)):=by
  unfold gG;rw[if_pos hf,hwe];dsimp only;rw[je he.tab]
 rw[es];obtain⟨i1,i2,i3⟩:=qp hw hi hp he hf' hl;refine⟨i1,i2,rfl,rfl,fun _=>rfl,fun q hq=>⟨fun hov=> ?_,fun hov=> ?_⟩⟩
 ·have:=i3 q hq
  rw[ho q] at hov;have hpre:=of_decide_eq_true hov;rw[if_pos hpre] at this;have hmq:bv s r q=E (bK s r p):=Wf.overMap hw hp hq hm (by rw[ho q];exact hov) hw;refine⟨hmq,?_,?_⟩
  ·unfold bv at hmq⊢
   rw[this.2] at hmq;rw[this.1];dsimp only at hmq⊢;rw[if_pos hl] at hmq;rw[if_pos hl];injection hmq with hmq
   rw[←hmq];have hef2:aj (cF s p t (3 - d)) (3 - d:Nat)=0:=hef;rw[ib hq hf' hl (eR h3),ib hq hef2 hl (eR h3)]
  ·rw[this.1,this.2]
 ·have:=i3 q hq
  rw[ho q] at hov;rw[if_neg (of_decide_eq_false hov)] at this;exact this
end
theorem iK{a:Ac}(h:au a=0):cP a.page=B:=by
 unfold au at h;unfold cP;split at h
 ·cases h
 ·split at h
  ·cases h
  ·simp;omega
theorem i9{e:En}{l p:Int}(a:Ac)(hf:aj e l=0)(hl:e.leaf=B):aA (ch e a) l p=aA e l p:=by
 obtain⟨h1,h2⟩:=qq a hf hl;unfold aA;rw[h1,h2,hf,hl];rfl
theorem mb{e:En}{l p:Int}(hf:aj e l=0)(hl:e.leaf=B)(hp:cP p=B):(aA e l p).rights =e.rights:=by
 have h:0≤p∧p<4096:=by simpa [cP] using hp
 unfold aA;rw[if_pos ⟨hf,hl,h⟩]
theorem pX(e:En)(a:Ac):dX (ch e a) a=B:=by
 obtain⟨t,l,r,u,d,f⟩:=e;obtain⟨p,k,us⟩:=a;unfold dX ch;dsimp only;cases d<;>simp
 by_cases h:k=1<;>simp[h]
theorem gX(e:En)(l:Int):0≤bt e l∧bt e l<18446744073709551616:=by
 unfold bt;split
 ·rename_i h
  obtain⟨_,a,b⟩:=jx (dB h.1 h.2);omega
 ·omega
theorem nO{a b:Mp}{p:Int}(ha:N a p=B)(hb:N b p=B):du a b=B:=by
 rw[dM] at ha hb;unfold du;rw[Bool.or_eq_true,dM,dM];omega
theorem ro(a b:Mp):du a b=du b a:=Bool.or_comm _ _
namespace Tl
theorem Ok.one{l:List Ln}(h:Ok l){x y:Ln}(hx:x∈l)(hy:y∈l){p:Int}(ox:N x.m p=B)(oy:N y.m p=B):x=y:=by
 obtain⟨i,hi,rfl⟩:=List.getElem_of_mem hx;obtain⟨j,hj,rfl⟩:=List.getElem_of_mem hy;have hm:=nO ox oy;rcases Nat.lt_trichotomy i j with hlt|rfl|hlt
 ·rw[List.pairwise_iff_getElem.1 h.apart i j hi hj hlt] at hm;cases hm
 ·rfl
 ·rw[ro,List.pairwise_iff_getElem.1 h.apart j i hj hi hlt] at hm;cases hm
def idx(l:List Ln)(p:Int):Int:=match l.findIdx? fun x=>N x.m p with|some k=>(k:Int)|none=> -1
theorem idx_find(l:List Ln)(p:Int):(find l p=F∧idx l p= -1)∨∃(k:Nat) (h:k<l.length),idx l p=k∧find l p=E l[k]∧N l[k].m p=B:=by
 unfold find idx;cases hf:l.findIdx? fun x=>N x.m p with
 |none=>
  left;refine⟨?_,rfl⟩;rw[List.find?_eq_none];intro x hx;have:=List.findIdx?_eq_none_iff.1 hf x hx;simpa using this
 |some k=>
  right;obtain⟨hk,h1,h2⟩:=List.findIdx?_eq_some_iff_getElem.1 hf;refine⟨k,hk,rfl,?_,h1⟩;rw[List.find?_eq_some_iff_getElem];exact⟨h1,k,hk,rfl,fun j hj=>by have:=h2 j hj;simpa using this⟩
end Tl
def ji(l:List Ln)(a:Ac):Option An:=
 match Tl.find l a.page with
 |some x=>if x.dirty=B∨a.kind≠1∨may x.m.rights a=C then E (bJ x.m a) else F
 |none=>F
structure Bq where
 an:An
 fin:Bool
 code:Int
 c:Ck
def cW(l:List Ln)(root:Int)(k:Ck)(a:Ac):Bq:=
 if au a≠0 then⟨An.zero,C,au a,k⟩
 else if k.on=B then⟨An.zero,C,8,k⟩
 else match ji l a with
  |some r=>⟨r,B,0,k⟩
  |none=>⟨An.zero,C,0,k.begin root a⟩
theorem sU{l:List Ln}{root:Int}{k:Ck}{a:Ac}(h:k.Ok):(cW l root k a).c.Ok :=by
 unfold cW;split;· exact h
 rename_i hc;split;· exact h
 split;· exact h
 exact Ck.Ok.begin root (by simpa using hc)
def gY(l:List Ln)(r:Rs):List Ln:=if r.fin=B∧r.an.fin=0 then Tl.put l r.ln else l
theorem rp{s:T}{root:Int}{c:Ck}(h:(aR s root c).code ≠0):(aR s root c).r =Rs.zero:=by
 unfold aR at h⊢;split;· rfl
 rename_i h1;rw[if_neg h1] at h;split;· rfl
 rename_i h2;rw[if_neg h2] at h;split;· rfl
 rename_i h3;rw[if_neg h3] at h;split;· rfl
 rename_i h4;rw[if_neg h4] at h;split
 ·rename_i h5;rw[if_pos h5] at h;exact absurd rfl h
 rename_i h5;rw[if_neg h5] at h;split
 ·rfl
 rename_i h6;rw[if_neg h6] at h;split
 ·rename_i h7;rw[if_pos h7] at h;exact absurd rfl h
 rename_i h7;rw[if_neg h7] at h;split
 ·rename_i h8;rw[if_pos h8] at h;exact absurd rfl h
 rename_i h8;rw[if_neg h8] at h;split
 ·rename_i h9;rw[if_pos h9] at h;exact absurd rfl h
 ·rfl
theorem mH(e:En)(l p:Int):0≤(aA e l p).page ∧(aA e l p).page <4096:=by
 unfold aA;split
 ·rename_i h
  by_cases h0:bn l=0
  ·show 0≤p / bn l*bn l∧p / bn l*bn l<4096
   rw[h0];omega
  have hs:0<bn l:=by rcases oO h0 with ⟨_,e⟩|⟨_,e⟩|⟨_,e⟩<;>omega
  have h1:=Int.ediv_mul_le p h0;have h2:0≤p / bn l:=Int.ediv_nonneg (by omega) (by omega);have h3:0≤p / bn l*bn l:=Int.mul_nonneg h2 (by omega);exact⟨h3,by show p / bn l*bn l<4096;omega⟩
 ·exact⟨by show(0:Int)≤0;omega,by show(0:Int)<4096;omega⟩
theorem mc(s:T)(root:Int)(c:Ck):cL (aR s root c).r.ln.m.page :=by
 have hz:cL Mp.zero.page:=by show cL 0;unfold cL;omega
 have hl:∀e l p,cL (aA e l p).page :=fun e l p=>by have:=mH e l p;unfold cL;omega
 unfold aR;split;· exact hz
 split;· exact hz
 split;· exact hz
 split;· exact hz
 split;· exact hz
 split;· exact hz
 split;· exact hz
 split;· exact hl _ _ _
 split;· exact hl _ _ _
 exact hz
theorem sV{l:List Ln}(h:Tl.Ok l)(r:Rs):Tl.Ok (gY l r):=by
 unfold gY;split
 ·exact h.put _
 ·exact h
structure Agree (s s':T):Prop where
 n:s.n=s'.n
 tk:∀k,s.tk k=s'.tk k
 fr:s.frees=s'.frees
 wd:∀k i,s.tk k=B→s.wd k i=s'.wd k i
section
variable {s s':T}
theorem Agree.refl(s:T):Agree s s:=⟨rfl,fun _=>rfl,rfl,fun _ _ _=>rfl⟩
theorem Agree.trans{s2:T}(h:Agree s s')(k:Agree s' s2):Agree s s2:=⟨h.n.trans k.n,fun j=>(h.tk j).trans (k.tk j),h.fr.trans k.fr,fun j i ht=>(h.wd j i ht).trans (k.wd j i (by rw[←h.tk];exact ht))⟩
theorem Agree.has(h:Agree s s')(k:Int):s.has k=s'.has k:=by
 unfold Ms.has;rw[h.n,h.tk]
theorem Agree.word(h:Agree s s'){t:Int}(ht:s.has t=B)(i:Int):ay s t i=ay s' t i:=h.wd _ _ (Ms.has_iff.1 ht).2.2
theorem Agree.wayStep(h:Agree s s')(p:Int)(L:Nat)(t:Int)(acc:List Int){f g:Int→Wy}(hfg:∀x,f x=g x):ip s p L t acc f=ip s' p L t acc g:=by
 unfold Go.Proofs.YtmfheghbgihdmaaGreat.ip;rw[←h.has t];cases ht:s.has t with
 |false=>rfl
 |true=>rw[h.word ht,hfg]
theorem Agree.wayA(h:Agree s s')(p:Int):∀(L:Nat) (t:Int) (acc:List Int),cZ s p L t acc=cZ s' p L t acc
 |0,t,acc=>h.wayStep p 0 t acc fun _=>rfl
 |L+1,t,acc=>h.wayStep p (L+1) t acc fun _=>Agree.wayA h p L _ _
theorem Agree.way(h:Agree s s')(r p:Int):bp s r p=bp s' r p:=by
 unfold Go.Proofs.YtmfheghbgihdmaaGreat.bp;rw[h.wayA p 3 r []]
theorem Agree.scanV(h:Agree s s')(L:Nat){t:Int}(ht:s.has t=B)(a:Int){f g:Int→Int→Vs}(hfg:∀x y,f x y=g x y):∀is:List Nat,dg s L t a f is=dg s' L t a g is
 | []=>rfl
 |i::is=>by
  unfold Go.Proofs.YtmfheghbgihdmaaGreat.dg;rw[h.word ht,Agree.scanV h L ht a hfg is];simp only[hfg]
theorem Agree.eachV(h:Agree s s'):∀(L:Nat) (t a:Int),cC s L t a=cC s' L t a
 |0,t,a=>by
  unfold Go.Proofs.YtmfheghbgihdmaaGreat.cC;rw[←h.has t];cases ht:s.has t with
  |false=>rfl
  |true=>rw[if_neg (by simp),if_neg (by simp)];exact h.scanV 0 ht a (fun _ _=>rfl) _
 |L+1,t,a=>by
  unfold Go.Proofs.YtmfheghbgihdmaaGreat.cC;rw[←h.has t];cases ht:s.has t with
  |false=>rfl
  |true=>rw[if_neg (by simp),if_neg (by simp)];exact h.scanV (L+1) ht a (fun x y=>Agree.eachV h L x y) _
theorem Agree.top(h:Agree s s'):s.top=s'.top:=by rw[←Ms.frees_top,←Ms.frees_top,h.fr]
theorem Agree.setW(h:Agree s s')(k i:Nat)(v:Int):Agree (s.setW k i v) (s'.setW k i v):=
 ⟨h.n,h.tk,h.fr,fun a b ht=>by
  show(if a=k∧b=i then v else s.wd a b)=(if a=k∧b=i then v else s'.wd a b);rw[h.wd a b ht]⟩
theorem Agree.findC(h:Agree s s')(r p:Int):bw s r p=bw s' r p:=by unfold Go.Proofs.YtmfheghbgihdmaaGreat.bw;rw[h.way r p]
theorem Agree.findM(h:Agree s s')(r p:Int):bK s r p=bK s' r p:=by unfold Go.Proofs.YtmfheghbgihdmaaGreat.bK;rw[h.way r p,h.findC r p]
theorem Agree.insC(h:Agree s s')(r:Int)(x:Mp):cT s r x=cT s' r x:=by unfold Go.Proofs.YtmfheghbgihdmaaGreat.cT;rw[h.way r x.page,h.fr]
end
open Go.ChangeShapes Go.WideShapes Go.ChangeAt Go.RowKit Go.Deep
def kr(K:TypeId→Option (List (Option IntKind)))(P:Program):List Field→Nat→Option (List (Option IntKind))
 | [],_=>E []
 |f::fs,off=>
  if f.offset=off then
   match K f.type with
   |some l=>if l.length=P.cellsOf f.type then(kr K P fs (off+l.length)).map (l++ ·) else F
   |none=>F
  else F
def qt(P:Program):Nat→TypeId→Option (List (Option IntKind))
 |0,_=>F
 |d+1,t=>
  match P.underlying t with
  |some .bool =>E [F]
  |some (.int k)=>E [E k]
  |some (.struct fs)=>
   match kr (qt P d) P fs.toList 0 with
   |some l=>if l.length=P.cellsOf t then E l else F
   |none=>F
  |_=>F
def CellsOk:List (Option IntKind)→List G→Prop
 | [],[]=>True
 |none::ks,v::vs=>(∃b,v= .bool b)∧CellsOk ks vs
 |some k::ks,v::vs=>(∃n,v= .int k n∧(Lit.int k n).wf =B)∧CellsOk ks vs
 |_,_=>False
theorem CellsOk.append:∀{k1 k2:List (Option IntKind)} {c1 c2:List G},CellsOk k1 c1→CellsOk k2 c2→CellsOk (k1++k2) (c1++c2)
 | [],_,[],_,_,h2=>h2
 | [],_,_::_,_,h1,_=>h1.elim
 |none::_,_,_::_,_,h1,h2=>⟨h1.1,h1.2.append h2⟩
 |some _::_,_,_::_,_,h1,h2=>⟨h1.1,h1.2.append h2⟩
 |none::_,_,[],_,h1,_=>h1.elim
 |some _::_,_,[],_,h1,_=>h1.elim
theorem CellsOk.int{k:IntKind}{ks:List (Option IntKind)}{cs:List G}(h:CellsOk (E k::ks) cs):∃n cs',cs= .int k n::cs'∧(Lit.int k n).wf =B∧CellsOk ks cs':=by
 match cs,h with
 |v::vs,⟨⟨n,e,hw⟩,h2⟩=>exact⟨n,vs,by rw[e],hw,h2⟩
theorem CellsOk.bool{ks:List (Option IntKind)}{cs:List G}(h:CellsOk (F::ks) cs):∃b cs',cs= .bool b::cs'∧CellsOk ks cs':=by
 match cs,h with
 |v::vs,⟨⟨b,e⟩,h2⟩=>exact⟨b,vs,by rw[e],h2⟩
theorem CellsOk.nil{cs:List G}(h:CellsOk [] cs):cs=[]:=by
 match cs,h with
 | [],_=>rfl
section
variable {H:Type} {enc:TypeId×G→H} {P:Program} {w:I} {base:Nat} {spare:Nat→Bool} {held:Bool}
theorem mg{K:TypeId→Option (List (Option IntKind))}{cs:List G}:∀(fs:List Field) (off:Nat) (l:List (Option IntKind)),kr K P fs off=E l→
  (∀f∈fs,∀k,K f.type=E k→CellsOk k ((cs.drop f.offset).take (P.cellsOf f.type)))→CellsOk l ((cs.drop off).take l.length)
 | [],off,l,h,_=>by
  simp[kr] at h;subst h;simp[CellsOk]
 |f::fs,off,l,h,hf=>by
  unfold kr at h;split at h
  ·rename_i ho
   split at h
   ·rename_i k hk
    split at h
    ·rename_i hl
     obtain⟨l2,h2,rfl⟩:=Option.map_eq_some_iff.1 h;have i1:=hf f (by simp) k hk;have i2:=mg fs _ l2 h2 fun g hg=>hf g (by simp[hg]);rw[ho,←hl] at i1;have e:(cs.drop off).take (k++l2).length =(cs.drop off).take k.length++(cs.drop (off+k.length)).take l2.length:=by
      rw[ad,List.take_add,List.drop_drop]
     rw[e];exact i1.append i2
    ·cases h
   ·cases h
  ·cases h
theorem mh:∀(d fuel:Nat) (t:TypeId) (ks:List (Option IntKind)) (cs:List G) (x:DataW H×List MemPlace),qt P d t=E ks→
  DataW.trod enc P w base spare held fuel t cs=E x→CellsOk ks cs
 |0,_,_,_,_,_,h,_=>by cases h
 |d+1,fuel,t,ks,cs,x,h,ht=>by
  unfold qt at h;split at h
  ·rename_i hu
   obtain⟨b,rfl,_⟩:=DataW.trod_bool hu ht;injection h with h;subst h
   exact⟨⟨b,rfl⟩,trivial⟩
  ·rename_i k hu
   obtain⟨n,rfl,_,hw⟩:=DataW.trod_int hu ht;injection h with h;subst h
   exact⟨⟨n,rfl,hw⟩,trivial⟩
  ·rename_i fs hu
   obtain⟨xs,n,rfl,_,hl,hxl,hf⟩:=DataW.trod_struct hu ht;split at h
   ·rename_i l hs
    split at h
    ·rename_i hll
     injection h with h;subst h
     have:=mg (cs:=cs) (P:=P) fs.toList 0 l hs fun f hfm k hk=>by
      obtain⟨i,hi,hfi⟩:=List.getElem_of_mem hfm;have hi':i<fs.size:=by simpa using hi
      have hg:fs[i]? =E f:=by rw[Array.getElem?_eq_getElem hi'];simpa using hfi
      have h1:=hf i f hg;rw[O (by omega)] at h1;exact mh d n f.type k _ _ hk h1
     rw[hll,←hl] at this;simpa using this
    ·cases h
   ·cases h
  ·cases h
theorem gF{n:Int}(h:(Lit.int .i64 n).wf =B):cL n:=by
 simp[Lit.wf,IntKind.min,IntKind.max,IntKind.signed,IntKind.bits] at h;exact⟨by omega,by omega⟩
theorem oV{t:TypeId}{r:Reach}{b0:Nat}{v:G}{x:DataW H}{p:List MemPlace}(ht:P.underlying t=E (.int .i64))(hv:Value.okWide P w r b0 t v)(h:DataW.Trod enc P w base spare held t v x p):∃n,v=M Q n∧cL n:=by
 obtain⟨n,rfl,_,_,hw⟩:=open_int ht hv h;exact⟨n,rfl,gF hw⟩
theorem kt(b off n:Nat):(((aMk b off F):Addr).add n)=⟨b,off+n,F⟩:=by
 unfold Addr.add;split<;>simp_all
theorem sW{α:Type}{cells:α→List G}{ok:α→Prop}{ks:List (Option IntKind)}(hd:∀cs,CellsOk ks cs→∃x:α,cs=cells x∧ok x){d:Nat}{t e:TypeId}{size:Nat}(ht:P.underlying t=E (.slice e))
  (hk:qt P d e=E ks) (hs:P.cellsOf e=size) (hpos:0<size) {A:Option Addr} {len cap:Nat} {x:DataW H} {p:List MemPlace} (h:DataW.Trod enc P w base spare held t (.slice A len cap) x p):
  ∃l:List α,Arr w A len size (l.map cells)∧∀y∈l,ok y:=by
 obtain⟨fuel,hf⟩:=h;rcases open_slice ht hf with ⟨hcs,_⟩|⟨a,len',cap',m,n,D,Pl,hcs,_,hl,hm,hmm,_,hel⟩
 ·simp[Value.cells] at hcs
  obtain⟨rfl,rfl,rfl⟩:=hcs;exact⟨[],⟨rfl,by omega,fun i xs hi=>by simp at hi⟩,fun y hy=>by cases hy⟩
 ·simp[Value.cells] at hcs
  obtain⟨rfl,rfl,rfl⟩:=hcs;have hlm:len≤m:=by rw[hmm];split<;>omega
  have key:∀k,k≤len→∃l:List α,l.length=k∧(∀y∈l,ok y)∧∀i y,l[i]? =E y→∃b off,a=(aMk b off F)∧b<w.heap.size∧∀j u,(cells y)[j]? =E u→w.cell? ⟨b,off+i*size+j,F⟩=E u:=by
   intro k;induction k with
   |zero=>exact fun _=>⟨[],rfl,(fun y hy=>by cases hy),(fun i y hi=>by simp at hi)⟩
   |succ k ih=>
    intro hk1;obtain⟨l,hll,hok,hcells⟩:=ih (by omega);obtain⟨cs',hc1,hc2⟩:=hel k (by omega);obtain⟨_,hcl,hat⟩:=World.cells?_some hc1;obtain⟨y,hy,hoy⟩:=hd _ (mh d n e ks cs' _ hk hc2);refine⟨l++[y],by simp[hll],fun z hz=> ?_,fun i z hz=> ?_⟩
    ·rcases List.mem_append.1 hz with hz|hz
     ·exact hok z hz
     ·simp at hz;subst hz;exact hoy
    ·rw[List.getElem?_append] at hz
     split at hz
     ·exact hcells i z hz
     ·rename_i hi
      have hik:i=k:=by
       have:=U.1 hz;obtain⟨h1,_⟩:=this;simp at h1;omega
      subst hik;rw[hll,Nat.sub_self] at hz;simp at hz;subst hz;have h0:=hat 0 (by omega);rw[hs] at hat h0 hcl;obtain⟨b,off,spot⟩:=a;have hspot:spot=F:=by
       have h00:∃u,(w.cell? (((⟨b,off,spot⟩:Addr).add (0*size)).add 0))=E u:=by
        obtain⟨cs0,hd1,_⟩:=hel 0 (by omega);obtain⟨_,hdl,hdat⟩:=World.cells?_some hd1;have:=hdat 0 (by omega);rw[hs] at this;rw[this,O (by omega)];exact⟨_,rfl⟩
       obtain⟨u,hu⟩:=h00;simpa [Addr.add] using World.cell?_spot hu
      subst hspot;have hc:∀j u,(cells y)[j]? =E u→w.cell? ⟨b,off+i*size+j,F⟩=E u:=by
       intro j u hu;have hj:j<size:=by
        have:=U.1 hu;obtain⟨h1,_⟩:=this;rw[←hy,hcl] at h1;exact h1
       have:=hat j hj;rw[kt,kt,hy,hu] at this;exact this
      refine⟨b,off,rfl,?_,hc⟩;rw[kt,kt,O (by omega)] at h0;exact World.block_lt_of_cell? w _ h0
  obtain⟨l,hll,hok,hcells⟩:=key len (Nat.le_refl _);refine⟨l,⟨by simp[hll],by unfold maxLen at hm;omega,fun i xs hi=> ?_⟩,hok⟩;rw[List.getElem?_map] at hi;obtain⟨y,hy,rfl⟩:=Option.map_eq_some_iff.1 hi;obtain⟨b,off,rfl,hb,hc⟩:=hcells i y hy;exact⟨b,off,rfl,hb,hc⟩
end
set_option maxRecDepth 100000
theorem vJ(d:Nat)(a0 b0:Int)(a1 b1:Int)(a2 b2:Int)(a3 b3:Int)(w:I):(Op.equalIn (d+2) 39 (.agg #[M Q a0,M Q a1,M Q a2,M Q a3]) (.agg #[M Q b0,M Q b1,M Q b2,M Q b3])).run prog w= .ok (a0==b0&&(a1==b1&&(a2==b2&&(a3==b3)))) w:=by
 have ui:=underlying3;have ci:=Tryz.isAgg3;have zi:=Tryz.sizeOf3;have hS:prog.underlying 39=E (.struct (prog.fieldsOf 39)):=by kernel_rfl
 have hp:prog.stoodInHeld 39=C:=by kernel_rfl
 rw[show d+2=(d+1)+1 from rfl,run_equalIn_agg w (d+1) 39 _ _ hS hp];simp only[Program.fieldsOf,underlying39];go_simp;by_cases h0:a0=b0
 ·skip
  by_cases h1:a1=b1
  ·skip
   by_cases h2:a2=b2
   ·skip
    by_cases h3:a3=b3
    ·skip
     simp[h0,h1,h2,h3]
    ·simp[h0,h1,h2,h3]
   ·simp[h0,h1,h2]
  ·simp[h0,h1]
 ·simp[h0]
@[go_sem] theorem yo (a0 b0:Int) (a1 b1:Int) (a2 b2:Int) (a3 b3:Int) (w:I):(Op.equalIn 10000 39 (.agg #[M Q a0,M Q a1,M Q a2,M Q a3]) (.agg #[M Q b0,M Q b1,M Q b2,M Q b3])).run prog w= .ok (a0==b0&&(a1==b1&&(a2==b2&&(a3==b3)))) w:=vJ 9998 a0 b0 a1 b1 a2 b2 a3 b3 w
@[go_sem] theorem wW:prog.eqGuardType prog.depth 39=C:=by kernel_rfl
theorem rq(d:Nat)(a0 b0:Int)(a1 b1:Int)(a2 b2:Bool)(w:I):(Op.equalIn (d+2) 41 (.agg #[M Q a0,M Q a1,V a2]) (.agg #[M Q b0,M Q b1,V b2])).run prog w= .ok (a0==b0&&(a1==b1&&(a2==b2))) w:=by
 have ub:=underlying4;have cb:=Tryz.isAgg4;have zb:=Tryz.sizeOf4;have ui:=underlying3;have ci:=Tryz.isAgg3;have zi:=Tryz.sizeOf3;have hS:prog.underlying 41=E (.struct (prog.fieldsOf 41)):=by kernel_rfl
 have hp:prog.stoodInHeld 41=C:=by kernel_rfl
 rw[show d+2=(d+1)+1 from rfl,run_equalIn_agg w (d+1) 41 _ _ hS hp];simp only[Program.fieldsOf,underlying41];go_simp;by_cases h0:a0=b0
 ·skip
  by_cases h1:a1=b1
  ·skip
   by_cases h2:a2=b2
   ·skip
    simp[h0,h1,h2]
   ·simp[h0,h1,h2]
  ·simp[h0,h1]
 ·simp[h0]
@[go_sem] theorem wX (a0 b0:Int) (a1 b1:Int) (a2 b2:Bool) (w:I):(Op.equalIn 10000 41 (.agg #[M Q a0,M Q a1,V a2]) (.agg #[M Q b0,M Q b1,V b2])).run prog w= .ok (a0==b0&&(a1==b1&&(a2==b2))) w:=rq 9998 a0 b0 a1 b1 a2 b2 w
@[go_sem] theorem uR:prog.eqGuardType prog.depth 41=C:=by kernel_rfl
theorem rr(d:Nat)(a0 b0:Int)(a1 b1:Int)(a2 b2:Int)(w:I):(Op.equalIn (d+2) 34 (.agg #[M Q a0,M Q a1,M Q a2]) (.agg #[M Q b0,M Q b1,M Q b2])).run prog w= .ok (a0==b0&&(a1==b1&&(a2==b2))) w:=by
 have ui:=underlying3;have ci:=Tryz.isAgg3;have zi:=Tryz.sizeOf3;have hS:prog.underlying 34=E (.struct (prog.fieldsOf 34)):=by kernel_rfl
 have hp:prog.stoodInHeld 34=C:=by kernel_rfl
 rw[show d+2=(d+1)+1 from rfl,run_equalIn_agg w (d+1) 34 _ _ hS hp];simp only[Program.fieldsOf,underlying34];go_simp;by_cases h0:a0=b0
 ·skip
  by_cases h1:a1=b1
  ·skip
   by_cases h2:a2=b2
   ·skip
    simp[h0,h1,h2]
   ·simp[h0,h1,h2]
  ·simp[h0,h1]
 ·simp[h0]
@[go_sem] theorem wY (a0 b0:Int) (a1 b1:Int) (a2 b2:Int) (w:I):(Op.equalIn 10000 34 (.agg #[M Q a0,M Q a1,M Q a2]) (.agg #[M Q b0,M Q b1,M Q b2])).run prog w= .ok (a0==b0&&(a1==b1&&(a2==b2))) w:=rr 9998 a0 b0 a1 b1 a2 b2 w
@[go_sem] theorem uS:prog.eqGuardType prog.depth 34=C:=by kernel_rfl
theorem sX(d:Nat)(a0 b0:Bool)(a1 b1:Bool)(a2 b2:Int)(a3 b3:Bool)(a4 b4:Bool)(a5 b5:Int)(w:I):(Op.equalIn (d+2) 70 (.agg #[V a0,V a1,M Q a2,V a3,V a4,M Q a5]) (.agg #[V b0,V b1,M Q b2,V b3,V b4,M Q b5])).run prog w= .ok (a0==b0&&(a1==b1&&(a2==b2&&(a3==b3&&(a4==b4&&(a5==b5)))))) w:=by
 have ub:=underlying4;have cb:=Tryz.isAgg4;have zb:=Tryz.sizeOf4;have ui:=underlying3;have ci:=Tryz.isAgg3;have zi:=Tryz.sizeOf3;have hS:prog.underlying 70=E (.struct (prog.fieldsOf 70)):=by kernel_rfl
 have hp:prog.stoodInHeld 70=C:=by kernel_rfl
 rw[show d+2=(d+1)+1 from rfl,run_equalIn_agg w (d+1) 70 _ _ hS hp];simp only[Program.fieldsOf,underlying70];go_simp;by_cases h0:a0=b0
 ·skip
  by_cases h1:a1=b1
  ·skip
   by_cases h2:a2=b2
   ·skip
    by_cases h3:a3=b3
    ·skip
     by_cases h4:a4=b4
     ·skip
      by_cases h5:a5=b5
      ·skip
       simp[h0,h1,h2,h3,h4,h5]
      ·simp[h0,h1,h2,h3,h4,h5]
     ·simp[h0,h1,h2,h3,h4]
    ·simp[h0,h1,h2,h3]
   ·simp[h0,h1,h2]
  ·simp[h0,h1]
 ·simp[h0]
@[go_sem] theorem xj (a0 b0:Bool) (a1 b1:Bool) (a2 b2:Int) (a3 b3:Bool) (a4 b4:Bool) (a5 b5:Int) (w:I):(Op.equalIn 10000 70 (.agg #[V a0,V a1,M Q a2,V a3,V a4,M Q a5]) (.agg #[V b0,V b1,M Q b2,V b3,V b4,M Q b5])).run prog w= .ok (a0==b0&&(a1==b1&&(a2==b2&&(a3==b3&&(a4==b4&&(a5==b5)))))) w:=sX 9998 a0 b0 a1 b1 a2 b2 a3 b3 a4 b4 a5 b5 w
@[go_sem] theorem vL:prog.eqGuardType prog.depth 70=C:=by kernel_rfl
theorem sY(d:Nat)(a0 b0:Int)(a1 b1:Int)(w:I):(Op.equalIn (d+2) 27 (.agg #[M Q a0,M Q a1]) (.agg #[M Q b0,M Q b1])).run prog w= .ok (a0==b0&&(a1==b1)) w:=by
 have ui:=underlying3;have ci:=Tryz.isAgg3;have zi:=Tryz.sizeOf3;have hS:prog.underlying 27=E (.struct (prog.fieldsOf 27)):=by kernel_rfl
 have hp:prog.stoodInHeld 27=C:=by kernel_rfl
 rw[show d+2=(d+1)+1 from rfl,run_equalIn_agg w (d+1) 27 _ _ hS hp];simp only[Program.fieldsOf,underlying27];go_simp;by_cases h0:a0=b0
 ·skip
  by_cases h1:a1=b1
  ·skip
   simp[h0,h1]
  ·simp[h0,h1]
 ·simp[h0]
@[go_sem] theorem xk (a0 b0:Int) (a1 b1:Int) (w:I):(Op.equalIn 10000 27 (.agg #[M Q a0,M Q a1]) (.agg #[M Q b0,M Q b1])).run prog w= .ok (a0==b0&&(a1==b1)) w:=sY 9998 a0 b0 a1 b1 w
@[go_sem] theorem vM:prog.eqGuardType prog.depth 27=C:=by kernel_rfl
@[go_sem] theorem xo (a0 b0:Bool) (a1 b1:Bool) (a2 b2:Bool) (a3 b3:Bool) (w:I):(Op.equalIn 10000 167 (.agg #[V a0,V a1,V a2,V a3]) (.agg #[V b0,V b1,V b2,V b3])).run prog w= .ok (a0==b0&&(a1==b1&&(a2==b2&&(a3==b3)))) w:=by
  have u3:=underlying4;have c3:=Tryz.isAgg4;have z3:=Tryz.sizeOf4;rw[show(10000:Nat)=9999+1 from rfl,Op.equalIn];simp only[Sem.run_bind,run_underlying underlying167,Result.andThen_ok];simp only[Std.Legacy.Range.forIn_eq_forIn_range',Std.Legacy.Range.size,Nat.sub_zero,Nat.add_sub_cancel,Nat.div_one,List.range'_succ,List.range'_zero,List.forIn_cons,List.forIn_nil];go_simp;by_cases h0:a0=b0
  ·skip
   by_cases h1:a1=b1
   ·skip
    by_cases h2:a2=b2
    ·skip
     by_cases h3:a3=b3
     ·skip
      simp[h0,h1,h2,h3]
     ·simp[h0,h1,h2,h3]
    ·simp[h0,h1,h2]
   ·simp[h0,h1]
  ·simp[h0]
@[go_sem] theorem vN:prog.eqGuardType prog.depth 167=C:=by kernel_rfl
@[go_sem] theorem yw (a0 b0:Int) (a1 b1:Int) (a2 b2:Int) (a3 b3:Int) (a4 b4:Int) (a5 b5:Int) (a6 b6:Int) (a7 b7:Int) (w:I):(Op.equalIn 10000 164 (.agg #[M W a0,M W a1,M W a2,M W a3,M W a4,M W a5,M W a6,M W a7]) (.agg #[M W b0,M W b1,M W b2,M W b3,M W b4,M W b5,M W b6,M W b7])).run prog w= .ok (a0==b0&&(a1==b1&&(a2==b2&&(a3==b3&&(a4==b4&&(a5==b5&&(a6==b6&&(a7==b7)))))))) w:=by
  have u3:=underlying64;have c3:=Tryz.isAgg64;have z3:=Tryz.sizeOf64;rw[show(10000:Nat)=9999+1 from rfl,Op.equalIn];simp only[Sem.run_bind,run_underlying underlying164,Result.andThen_ok];simp only[Std.Legacy.Range.forIn_eq_forIn_range',Std.Legacy.Range.size,Nat.sub_zero,Nat.add_sub_cancel,Nat.div_one,List.range'_succ,List.range'_zero,List.forIn_cons,List.forIn_nil];go_simp;by_cases h0:a0=b0
  ·skip
   by_cases h1:a1=b1
   ·skip
    by_cases h2:a2=b2
    ·skip
     by_cases h3:a3=b3
     ·skip
      by_cases h4:a4=b4
      ·skip
       by_cases h5:a5=b5
       ·skip
        by_cases h6:a6=b6
        ·skip
         by_cases h7:a7=b7
         ·skip
          simp[h0,h1,h2,h3,h4,h5,h6,h7]
         ·simp[h0,h1,h2,h3,h4,h5,h6,h7]
        ·simp[h0,h1,h2,h3,h4,h5,h6]
       ·simp[h0,h1,h2,h3,h4,h5]
      ·simp[h0,h1,h2,h3,h4]
     ·simp[h0,h1,h2,h3]
    ·simp[h0,h1,h2]
   ·simp[h0,h1]
  ·simp[h0]
@[go_sem] theorem xp:prog.eqGuardType prog.depth 164=C:=by kernel_rfl
def fc(s:T):Nat→G:=fun j=>if j % 9=0 then V (s.tk (j / 9)) else(M W) (s.wd (j / 9) (j % 9 - 1))
theorem wZ(s:T)(k:Nat):fc s (k*9)=V (s.tk k):=by
 unfold fc;rw[if_pos (by omega),show k*9 / 9=k by omega]
theorem xa(s:T)(k i:Nat)(h:i<8):fc s (k*9+1+i)=M W (s.wd k i):=by
 unfold fc;rw[if_neg (by omega),show(k*9+1+i) / 9=k by omega,show(k*9+1+i) % 9 - 1=i by omega]
def fO(l:List Nat):List G:=l.map fun(k:Nat)=>M Q (k:Int)
def bR(p g:Nat)(vf:G)(s:T)(R:ab):ab:=
 aa p #[.slice (E (aMk g 0 F)) s.n s.n,vf] 163*(aa g (bm (s.n*9) (fc s)) 166*(bZ 3 1 vf s.frees.length (fO s.frees)*R))
def ai(p:Nat)(s:T):ab:=ex fun g=>ex fun vf=>bR p g vf s (dN True)
theorem fv(R:ab):dN True*R=R:=by
 funext h
 apply propext;constructor
 ·rintro⟨h1,h2,d,rfl,⟨_,rfl⟩,q⟩
  have:Hpm.union Hpm.emp h2=h2:=by funext b;simp[Hpm.union,Hpm.emp]
  rw[this];exact q
 ·intro q
  exact⟨Hpm.emp,h,fun b=> .inl rfl,by funext b;simp[Hpm.union,Hpm.emp],⟨trivial,rfl⟩,q⟩
theorem dF{p:Nat}{s:T}{R:ab}{w:I}(h:Z w (ai p s*R)):∃g vf,Z w (bR p g vf s R):=by
 unfold ai at h;obtain⟨g,h⟩:=aH.1 h;obtain⟨vf,h⟩:=aH.1 h;refine⟨g,vf,?_⟩;unfold bR at h⊢;simpa only[aG,fv] using h
theorem dG{p g:Nat}{vf:G}{s:T}{R:ab}{w:I}(h:Z w (bR p g vf s R)):Z w (ai p s*R):=by
 unfold ai;refine aH.2 ⟨g,aH.2 ⟨vf,?_⟩⟩;unfold bR at h⊢;simpa only[aG,fv] using h
theorem nP{s:T}{k:Int}(h:¬(0≤k∧k<s.n)):s.has k=C:=by
 unfold Ms.has;by_cases h0:0≤k<;>by_cases h4:k<s.n<;>simp[h0,h4]
 omega
theorem qu{s:T}{k:Nat}(h:k<s.n):s.has k=s.tk k:=by
 unfold Ms.has;have h4:(k:Int)<s.n:=by omega
 simp[h]
theorem fP(p g:Nat)(vf:G)(s:T)(k:Int)(R:ab)(w:I)(h:Z w (bR p g vf s R)):
  Y prog 165 #[.pointer (E (aMk p 0 F)),.int .i64 k] w (ag (V (s.has k)) w):=by
 obtain⟨c0,c1⟩:=h.cells2;by_cases h0:0≤k
 ·by_cases h4:k<s.n
  ·obtain⟨k,rfl⟩:=S h0
   have hc:=h.right.tabGet (j:=k*9) (by omega);rw[wZ] at hc;have hy:=J (qu (s:=s) (k:=k) (by omega));have hg:=h.right.lt;go_enter func165,ntmps165;go_wp2;go_ret;exact⟨by rw[hy.out];rfl,rfl⟩
  ·have hy:=J (nP (s:=s) (k:=k) (by omega))
   go_enter func165,ntmps165;go_wp2;go_ret;exact⟨by rw[hy.out];rfl,rfl⟩
 ·have hy:=J (nP (s:=s) (k:=k) (by omega))
  go_enter func165,ntmps165;go_wp2;go_ret;exact⟨by rw[hy.out];rfl,rfl⟩
def dH(s:T)(g:Nat)(k i:Int):G:=if s.hasW k i then .pointer (E ⟨g,k.toNat*9+1+i.toNat,F⟩) else .pointer F
theorem iL{s:T}{k i:Int}:s.hasW k i=B↔s.has k=B∧0≤i∧i<8:=by
 unfold Ms.hasW;simp
theorem gZ(p g:Nat)(vf:G)(s:T)(k i:Int)(R:ab)(w:I)(h:Z w (bR p g vf s R)):
  Y prog 182 #[.pointer (E (aMk p 0 F)),.int .i64 k,.int .i64 i] w (ag (dH s g k i) w):=by
 obtain⟨c0,c1⟩:=h.cells2;cases hk:s.has k with
 |false=>
  have hy:=J (show dH s g k i= .pointer F by unfold dH Ms.hasW;rw[hk];rfl);go_enter func182,ntmps182;go_wp2_with(go_at_call 165;refine(fP p g vf s _ _ _ h).mono ?_;rintro e w' ⟨rfl,rfl⟩)
  go_ret;exact⟨by rw[hy.out];rfl,rfl⟩
 |true=>
  by_cases i0:i<0
  ·have hy:=J (show dH s g k i= .pointer F by unfold dH Ms.hasW;rw[if_neg];simp;omega)
   go_enter func182,ntmps182;go_wp2_with(go_at_call 165;refine(fP p g vf s _ _ _ h).mono ?_;rintro e w' ⟨rfl,rfl⟩)
   go_ret;exact⟨by rw[hy.out];rfl,rfl⟩
  by_cases i8:8≤i
  ·have hy:=J (show dH s g k i= .pointer F by unfold dH Ms.hasW;rw[if_neg];simp;omega)
   go_enter func182,ntmps182;go_wp2_with(go_at_call 165;refine(fP p g vf s _ _ _ h).mono ?_;rintro e w' ⟨rfl,rfl⟩)
   go_ret;exact⟨by rw[hy.out];rfl,rfl⟩
  have hk':=Ms.has_iff.1 hk;obtain⟨k0,k1,_⟩:=hk';obtain⟨k,rfl⟩:=S k0;obtain⟨i,rfl⟩:=S (show 0≤i by omega);have hy:=J (show dH s g k i= .pointer (E ⟨g,k*9+1+i,F⟩) by unfold dH;rw[if_pos (iL.2 ⟨hk,by omega,by omega⟩)];simp);have hg:=h.right.lt;go_enter func182,ntmps182;go_wp2_with(go_at_call 165;refine(fP p g vf s _ _ _ h).mono ?_;rintro e w' ⟨rfl,rfl⟩)
  go_ret;exact⟨by rw[hy.out];rfl,rfl⟩
def dQ(s:T)(k i:Int):Int:=if s.hasW k i then s.wd k.toNat i.toNat else 0
theorem kG{p g:Nat}{vf:G}{s:T}{k i:Int}{R:ab}{w:I}(h:Z w (bR p g vf s R))(hw:s.hasW k i=B):
  w.cell? ⟨g,k.toNat*9+1+i.toNat,F⟩=E (M W (s.wd k.toNat i.toNat)):=by
 obtain⟨hk,i0,i8⟩:=iL.1 hw;obtain⟨k0,k1,_⟩:=Ms.has_iff.1 hk;rw[h.right.tabGet (by omega),xa _ _ _ (by omega)]
theorem ur(s:T)(k i:Nat)(v:Int)(hi:i<8)(j:Nat):bU (fc s) (k*9+1+i) (M W v) j=fc (s.setW k i v) j:=by
 unfold bU fc Ms.setW;dsimp only;by_cases h:j=k*9+1+i
 ·subst h
  rw[if_pos rfl,if_neg (by omega),show(k*9+1+i) / 9=k by omega,show(k*9+1+i) % 9 - 1=i by omega,if_pos ⟨rfl,rfl⟩]
 ·rw[if_neg h]
  by_cases h9:j % 9=0
  ·rw[if_pos h9,if_pos h9]
  ·rw[if_neg h9,if_neg h9,if_neg (by omega)]
theorem jU{p g:Nat}{vf:G}{s:T}{k i:Nat}{R:ab}{w:I}(h:Z w (bR p g vf s R))(hi:i<8)(v:Int):
  Z (w.setCell ⟨g,k*9+1+i,F⟩ (M W v)) (bR p g vf (s.setW k i v) R):=
 ((h.p2.tabSet _ _).tabExt fun j _=>ur s k i v hi j).p2
theorem sZ(p g:Nat)(vf:G)(s:T)(k i:Int)(R:ab)(w:I)(h:Z w (bR p g vf s R)):
  Y prog 170 #[.pointer (E (aMk p 0 F)),.int .i64 k,.int .i64 i] w (ag (.tuple #[M W (dQ s k i),V (s.hasW k i)]) w):=by
 cases hw:s.hasW k i with
 |true=>
  have hc:=kG h hw;have hy:=J (show dQ s k i=s.wd k.toNat i.toNat by unfold dQ;rw[if_pos hw]);have hp:dH s g k i= .pointer (E ⟨g,k.toNat*9+1+i.toNat,F⟩):=by unfold dH;rw[if_pos hw]
  clear hw;generalize k.toNat*9+1+i.toNat=o at*
  generalize s.wd k.toNat i.toNat=x at*
  have hg:=h.right.lt;go_enter func170,ntmps170;go_wp2_with(go_at_call 182;refine(gZ p g vf s _ _ _ _ h).mono ?_;rintro e w' ⟨rfl,rfl⟩)
  exact af (v:= .tuple #[M W x,V B]) (by simp[results,results170,go_sem]) rfl ⟨by rw[hy.out],rfl⟩
 |false=>
  have hy:=J (show dQ s k i=0 by unfold dQ;rw[hw];rfl);have hp:dH s g k i= .pointer F:=by unfold dH;rw[hw];rfl
  clear hw;go_enter func170,ntmps170;go_wp2_with(go_at_call 182;refine(gZ p g vf s _ _ _ _ h).mono ?_;rintro e w' ⟨rfl,rfl⟩)
  exact af (v:= .tuple #[M W 0,V C]) (by simp[results,results170,go_sem]) rfl ⟨by rw[hy.out],rfl⟩
def fg(s:T)(k i:Int)(v:Int):T:=if s.hasW k i then s.setW k.toNat i.toNat v else s
theorem rt(p g:Nat)(vf:G)(s:T)(k i v:Int)(R:ab)(w:I)(h:Z w (bR p g vf s R)):
  Y prog 154 #[.pointer (E (aMk p 0 F)),.int .i64 k,.int .i64 i,.int .u64 v] w (cI (V (s.hasW k i)) (bR p g vf (fg s k i v) R) w):=by
 cases hw:s.hasW k i with
 |true=>
  have hc:=kG h hw;have h2:=jU (k:=k.toNat) (i:=i.toNat) h (by have:=(iL.1 hw).2;omega) v;have hy:=J (show fg s k i v=s.setW k.toNat i.toNat v by unfold fg;rw[if_pos hw]);have hp:dH s g k i= .pointer (E ⟨g,k.toNat*9+1+i.toNat,F⟩):=by unfold dH;rw[if_pos hw]
  clear hw;generalize k.toNat*9+1+i.toNat=o at*
  have hf:=h.right.free o;have hg:=h.right.lt;go_enter func154,ntmps154;go_wp2_with(go_at_call 182;refine(gZ p g vf s _ _ _ _ h).mono ?_;rintro e w' ⟨rfl,rfl⟩)
  go_ret;exact⟨rfl,by rw[hy.out];exact h2,ah⟩
 |false=>
  have hy:=J (show fg s k i v=s by unfold fg;rw[hw];rfl);have hp:dH s g k i= .pointer F:=by unfold dH;rw[hw];rfl
  clear hw;go_enter func154,ntmps154;go_wp2_with(go_at_call 182;refine(gZ p g vf s _ _ _ _ h).mono ?_;rintro e w' ⟨rfl,rfl⟩)
  go_ret;exact⟨rfl,by rw[hy.out];exact h,Ext.refl _⟩
def iM(s:T)(k i bS:Int):Bool:=s.hasW k i&&(s.wd k.toNat i.toNat==bS)
def iq(s:T)(k i bS:Int)(v:Int):T:=if iM s k i bS then s.setW k.toNat i.toNat v else s
theorem tb(p g:Nat)(vf:G)(s:T)(k i bS v:Int)(R:ab)(w:I)(h:Z w (bR p g vf s R)):
  Y prog 164 #[.pointer (E (aMk p 0 F)),.int .i64 k,.int .i64 i,.int .u64 bS,.int .u64 v] w (cI (V (iM s k i bS)) (bR p g vf (iq s k i bS v) R) w):=by
 cases hw:s.hasW k i with
 |true=>
  have hc:=kG h hw;have h2:=jU (k:=k.toNat) (i:=i.toNat) h (by have:=(iL.1 hw).2;omega) v;have hp:dH s g k i= .pointer (E ⟨g,k.toNat*9+1+i.toNat,F⟩):=by unfold dH;rw[if_pos hw]
  have hs:iM s k i bS=(s.wd k.toNat i.toNat==bS):=by unfold iM;rw[hw];rfl
  clear hw;generalize hx:s.wd k.toNat i.toNat=x at*
  clear hx;have hf:=h.right.free (k.toNat*9+1+i.toNat);have hg:=h.right.lt;generalize k.toNat*9+1+i.toNat=o at*
  cases he:(x==bS) with
  |true=>
   have hy:=J (show iq s k i bS v=s.setW k.toNat i.toNat v by unfold iq;rw[hs,he];rfl);have hz:=J (hs.trans he);clear hs;go_enter func164,ntmps164;go_wp2_with(go_at_call 182;refine(gZ p g vf s _ _ _ _ h).mono ?_;rintro e w' ⟨rfl,rfl⟩)
   go_ret;exact⟨by rw[hz.out];rfl,by rw[hy.out];exact h2,ah⟩
  |false=>
   have hy:=J (show iq s k i bS v=s by unfold iq;rw[hs,he];rfl);have hz:=J (hs.trans he);clear hs;go_enter func164,ntmps164;go_wp2_with(go_at_call 182;refine(gZ p g vf s _ _ _ _ h).mono ?_;rintro e w' ⟨rfl,rfl⟩)
   go_ret;exact⟨by rw[hz.out];rfl,by rw[hy.out];exact h,Ext.refl _⟩
 |false=>
  have hz:=J (show iM s k i bS=C by unfold iM;rw[hw];rfl);have hy:=J (show iq s k i bS v=s by unfold iq;rw[hz.out];rfl);have hp:dH s g k i= .pointer F:=by unfold dH;rw[hw];rfl
  clear hw;go_enter func164,ntmps164;go_wp2_with(go_at_call 182;refine(gZ p g vf s _ _ _ _ h).mono ?_;rintro e w' ⟨rfl,rfl⟩)
  go_ret;exact⟨by rw[hz.out];rfl,by rw[hy.out];exact h,Ext.refl _⟩
theorem tf(p g:Nat)(vf:G)(s:T)(R:ab)(w:I)(h:Z w (bR p g vf s R)):
  Y prog 75 #[.pointer (E (aMk p 0 F))] w (ag (M Q (s.frees.length:Nat)) w):=by
 obtain⟨A,c,rfl⟩:=h.right.right.rowForm;obtain⟨c0,c1⟩:=h.cells2;go_enter func75,ntmps75;go_wp2;go_ret;exact⟨rfl,rfl⟩
theorem oW{l:List Nat}{j k:Nat}(h:l[j]? =E k):(fO l)[j]? =E (M Q (k:Int)):=by simp[fO,h]
theorem ut(s:T)(k:Nat)(j:Nat):
  bU (bU (bU (bU (bU (bU (bU (bU (bU (fc s) (k*9) (V B)) (k*9+1) (M W 0)) (k*9+2) (M W 0)) (k*9+3) (M W 0)) (k*9+4) (M W 0)) (k*9+5) (M W 0)) (k*9+6) (M W 0)) (k*9+7) (M W 0)) (k*9+8) (M W 0) j=fc (s.take k) j:=by
 unfold bU fc Ms.take;dsimp only;unfold bU;by_cases h:j / 9=k
 ·by_cases h0:j % 9=0
  ·rw[if_neg (by omega),if_neg (by omega),if_neg (by omega),if_neg (by omega),if_neg (by omega),if_neg (by omega),if_neg (by omega),if_neg (by omega),if_pos (by omega),if_pos h0,if_pos h]
  ·rw[if_neg h0,if_neg h0,if_pos h]
   by_cases h8:j=k*9+8
   ·rw[if_pos h8]
   by_cases h7:j=k*9+7
   ·rw[if_neg h8,if_pos h7]
   by_cases h6:j=k*9+6
   ·rw[if_neg h8,if_neg h7,if_pos h6]
   by_cases h5:j=k*9+5
   ·rw[if_neg h8,if_neg h7,if_neg h6,if_pos h5]
   by_cases h4:j=k*9+4
   ·rw[if_neg h8,if_neg h7,if_neg h6,if_neg h5,if_pos h4]
   by_cases h3:j=k*9+3
   ·rw[if_neg h8,if_neg h7,if_neg h6,if_neg h5,if_neg h4,if_pos h3]
   by_cases h2:j=k*9+2
   ·rw[if_neg h8,if_neg h7,if_neg h6,if_neg h5,if_neg h4,if_neg h3,if_pos h2]
   by_cases h1:j=k*9+1
   ·rw[if_neg h8,if_neg h7,if_neg h6,if_neg h5,if_neg h4,if_neg h3,if_neg h2,if_pos h1]
   omega
 ·rw[if_neg (by omega),if_neg (by omega),if_neg (by omega),if_neg (by omega),if_neg (by omega),if_neg (by omega),if_neg (by omega),if_neg (by omega),if_neg (by omega),if_neg h,if_neg h]
theorem tg(p g:Nat)(vf:G)(s:T)(k:Nat)(R:ab)(w:I)(h:Z w (bR p g vf s R))(hk:s.top=E k)(hn:k<s.n):
  Y prog 52 #[.pointer (E (aMk p 0 F))] w fun e w'=>∃vf',cI (M Q k) (bR p g vf' (s.take k) R) w e w':=by
 have hfr:=Ms.frees_take s k hk;obtain⟨m,hm⟩:∃m,s.frees.length=m+1:=⟨(s.take k).frees.length,by rw[←hfr];simp⟩;have hm':(s.take k).frees.length =m:=by rw[←hfr] at hm;simpa using hm
 have hlast:s.frees[m]? =E k:=by rw[←hfr,←hm'];simp
 have hints:(fO s.frees).take m=fO (s.take k).frees :=by rw[←hfr,←hm'];simp[fO]
 obtain⟨c0,c1⟩:=h.cells2;have e0:=h.lt;have f1:=h.free 1;have h1:Z w (bZ 3 1 vf (m+1) (fO s.frees)*(aa p #[.slice (E (aMk g 0 F)) s.n s.n,vf] 163*(aa g (bm (s.n*9) (fc s)) 166*R))):=by
  have:=h;unfold bR at this;rw[hm] at this;exact this.eq (by(simp only[aG,ar,bj]))
 obtain⟨gf,cap,rfl,hcap,hcap2,hgf,hx⟩:=h1.rowHead;have hx':=hx _ (oW hlast);have h2:=h1.rowPop.p2.set 1 (.slice (E (aMk gf 0 F)) m cap);have e1:=h.right.lt;have hm63:m+1≤9223372036854775807:=by unfold maxLen at hcap2;omega
 have h3:=h2.a2.p2;have hg1:=h3.tabGet (j:=k*9) (by omega);have t1:=h3.tabGet (j:=k*9+1) (by omega);have z1:=h3.free (k*9+1);have t2:=h3.tabGet (j:=k*9+2) (by omega);have z2:=h3.free (k*9+2);have t3:=h3.tabGet (j:=k*9+3) (by omega);have z3:=h3.free (k*9+3);have t4:=h3.tabGet (j:=k*9+4) (by omega);have z4:=h3.free (k*9+4);have t5:=h3.tabGet (j:=k*9+5) (by omega);have z5:=h3.free (k*9+5);have t6:=h3.tabGet (j:=k*9+6) (by omega);have z6:=h3.free (k*9+6);have t7:=h3.tabGet (j:=k*9+7) (by omega);have z7:=h3.free (k*9+7);have t8:=h3.tabGet (j:=k*9+8) (by omega);have z8:=h3.free (k*9+8);have z0:=h3.free (k*9);have h4:=((((((((h3.tabSet (k*9) (V B)).tabSet (k*9+1) (M W 0)).tabSet (k*9+2) (M W 0)).tabSet (k*9+3) (M W 0)).tabSet (k*9+4) (M W 0)).tabSet (k*9+5) (M W 0)).tabSet (k*9+6) (M W 0)).tabSet (k*9+7) (M W 0)).tabSet (k*9+8) (M W 0);go_enter func52,ntmps52;go_wp2;go_ret;refine⟨.slice (E (aMk gf 0 F)) m cap,rfl,?_,(((((((((((Ext.refl w).set _ _).set _ _).set _ _).set _ _).set _ _).set _ _).set _ _).set _ _).set _ _).set _ _)⟩;have h5:=(h4.tabExt (f':=fc (s.take k)) fun j _=>ut s k j).p2.a1.in2;unfold bR;rw[hm',←hints];exact h5
theorem ru(p g:Nat)(vf:G)(s:T)(R:ab)(w:I)(h:Z w (bR p g vf s R))(hk:s.top=F):
  Y prog 52 #[.pointer (E (aMk p 0 F))] w (ag (M Q (-1)) w):=by
 have he:s.frees=[]:=by rw[←Ms.frees_top] at hk;simpa using hk
 obtain⟨c0,c1⟩:=h.cells2;obtain⟨A,c,rfl⟩:=h.right.right.rowForm;have hn:s.frees.length=0:=by rw[he];rfl
 rw[hn] at c1;go_enter func52,ntmps52;go_wp2;go_ret;exact⟨rfl,rfl⟩
theorem gr:jh prog 3 (M Q 0) 1 8:=⟨by kernel_rfl,rfl,by omega⟩
theorem uu(s:T)(k:Nat)(j:Nat):bU (fc s) (k*9) (V C) j=fc (s.give k) j:=by
 unfold bU fc Ms.give;dsimp only;unfold bU;by_cases h:j=k*9
 ·rw[if_pos h,if_pos (by omega),if_pos (by omega)]
 ·rw[if_neg h]
  by_cases h0:j % 9=0
  ·rw[if_pos h0,if_pos h0,if_neg (by omega)]
  ·rw[if_neg h0,if_neg h0]
theorem uv(p g:Nat)(vf:G)(s:T)(k:Int)(R:ab)(w:I)(h:Z w (bR p g vf s R))(hk:s.has k=C):
  Y prog 111 #[.pointer (E (aMk p 0 F)),.int .i64 k] w (ag (V C) w):=by
 go_enter func111,ntmps111;go_wp2_with(go_at_call 165;refine(fP p g vf s _ _ _ h).mono ?_;rintro e w' ⟨rfl,rfl⟩)
 go_ret;exact⟨rfl,rfl⟩
theorem ti(p g:Nat)(vf:G)(s:T)(k:Nat)(R:ab)(w:I)(h:Z w (bR p g vf s R))(hk:s.has k=B)(hlen:s.frees.length<1000000):
  Y prog 111 #[.pointer (E (aMk p 0 F)),.int .i64 k] w fun e w'=>∃vf',cI (V B) (bR p g vf' (s.give k) R) w e w':=by
 obtain⟨k0,k1,_⟩:=Ms.has_iff.1 hk;obtain⟨c0,c1⟩:=h.cells2;obtain⟨A,c,rfl⟩:=h.right.right.rowForm;have e0:=h.lt;have e1:=h.right.lt;have hc:=h.right.tabGet (j:=k*9) (by omega);have hf:=h.right.free (k*9);have f1:=h.free 1;have hne:=h.ne;have h2:=((h.p2.tabSet (k*9) (V C)).tabExt (f':=fc (s.give k)) fun j _=>uu s k j);have h3:Z (w.setCell ⟨g,k*9,F⟩ (V C)) (bZ 3 1 (.slice A s.frees.length c) s.frees.length (fO s.frees)*(aa p #[.slice (E (aMk g 0 F)) s.n s.n,.slice A s.frees.length c] 163*(aa g (bm (s.n*9) (fc (s.give k))) 166*R))):=h2.eq (by(simp only[aG,ar,bj]));have d0:=h3.right.cells2.1;have d1:=h3.right.cells2.2;have e2:=h3.right.lt;have hrow:=h3.alloc (.cells #[M Q k] 3);have hlen':(s.give k).frees.length =s.frees.length+1:=by rw[Ms.frees_give];simp
 have hints:fO (s.give k).frees =fO s.frees++[M Q (k:Int)]:=by rw[Ms.frees_give];simp[fO]
 have hnews:=eO (w.setCell ⟨g,k*9,F⟩ (V C)) (M Q k) 3;rw[show(w.setCell ⟨g,k*9,F⟩ (V C)).heap.size =w.heap.size by simp[World.setCell]] at hnews;have HT:=fun k'=>fP p g _ s k' _ _ h;generalize s.frees.length=m at*
 have hL:=J hlen';clear h h2 hlen';go_enter func111,ntmps111;go_wp2_with(first|(go_at_call 165;refine(HT _).mono ?_;rintro e w' ⟨rfl,rfl⟩)|(at_builtin;refine aW rfl _ _ 45 rfl underlying45 gr _ _ _ rfl hrow (aMk w.heap.size 0 F) 1 1 [M Q k] rfl rfl hnews ?c1 ?c2 ?c3 ?_))
 case c1=>intro u hu;simp at hu;subst hu;rfl
 case c2=>unfold maxLen;omega
 case c3=>omega
 intro v' w2 h' x';obtain⟨A',c',rfl⟩:=h'.rowForm;have g0:=h'.right.lt;have g1:=h'.right.free 1;have g2:=h'.right.cells2.1;have g3:=h'.right.cells2.2;have h5:=(h'.p2.set 1 (.slice A' (m+1) c')).in2;clear hrow d0 d1 e2 h3;go_wp2;go_ret;refine⟨.slice A' (m+1) c',rfl,?_,ah⟩;unfold bR;rw[hL.out,hints];exact h5
end Go.Proofs.YtmfheghbgihdmaaGreat
