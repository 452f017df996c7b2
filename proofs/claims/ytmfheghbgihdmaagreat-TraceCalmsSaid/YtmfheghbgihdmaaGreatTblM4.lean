/- Remove, Protect and marks on a tree of tables; with no program in sight. -/
import Derived.Test.YtmfheghbgihdmaaGreatSep
import Derived.ProofKit
import Derived.OpenShut
import Derived.ChangeOld
import Derived.Below
import Derived.Deep.Slices
import Derived.Test.YtmfheghbgihdmaaGreatProg
import Derived.Laws.StructEq
import Derived.KernelRfl
import Derived.Lib.Hide
import Derived.WalkSpells
import Derived.Outline
import Derived.BigQuiet
import Derived.Laws.IdiomCopy
import Derived.ArgAppend
import Derived.Deep.RegionLaw
import Derived.Deep.RegionHeld3
import Derived.Deep.LoopGhost
import Derived.Deep.DeepCutAuto
import Derived.Deep.CutBlock
import Derived.Defers
import Derived.Recover
import Derived.WalkLawsBesides
import Derived.Laws.Pointers
namespace Go.Proofs.YtmfheghbgihdmaaGreat
open Go.IntKind renaming u64→vU
open Go.Value renaming bool→vB
open Go.Lib renaming hid→B
open Go.Ending renaming returned→C
open Option renaming some→F,none→I
open Go.Value renaming int→G
open Go.IntKind renaming i64→J
open Bool renaming false→M,true→O
open Go renaming World→N,Value→S,Calls→T,bodyPost_ret→al,Addr→bG
open Int renaming eq_ofNat_of_zero_le→U
open Go.Proofs.YtmfheghbgihdmaaGreat.Ext renaming refl→V
open Go.Addr renaming mk→W
open Go.Proofs.YtmfheghbgihdmaaGreat renaming Has→Y,over→ax,may→bb,Pure→bs,Same→bz
open Go.Proofs.YtmfheghbgihdmaaGreat.Ms renaming new→Z,has_iff→bi,frees_give→bk,frees_top→b9,take→bA,frees_len→bB,frees_le→bD,hasW→bP,frees_take→ca,give→cc,top_lt→cd,setW→cf,has→cg,top→ck
open Go.Proofs.YtmfheghbgihdmaaGreat.Has renaming new→af,rowNil→bL
open Go.World renaming size_alloc→ag
open List renaming getElem?_eq_some_iff→bd,getElem?_eq_getElem→bf,length_append→b8
open Tryz
open Go.RowKit
section
variable {s:Ms} {r:Int} {gone:List Int} {X:Int→Prop} {L:List Mp}
theorem tr{L:Nat}(h:L≤3):kd 0 L:=⟨(eu h).1,by rw[(eu h).2];simp[En.zero]⟩
theorem rS(hw:Wf s r gone X){p t v:Int}{d:Nat}(hp:de p)(he:Ends s r p d t)(hv:kd v (3 - d)):∀q,de q→
  if q / aw (3 - d)=p / aw (3 - d) then way (cM s p t d v) r q=⟨0,cO s r q (d+1),((3 - d:Nat):Int),aD v (3 - d:Nat)⟩∧way s r q=⟨0,cO s r q (d+1),((3 - d:Nat):Int),cN s p t (3 - d)⟩
  else way (cM s p t d v) r q=way s r q:=by
 intro q hq;obtain⟨e,u,hu⟩:=hw.ends q hq;obtain⟨hu',hE⟩:=mG hw hp he.le he.tab he.no hv hq hu;have htabs:cO (cM s p t d v) r q (e+1)=cO s r q (e+1):=by
  unfold cO;refine List.map_congr_left fun x hx=> ?_;rw[fN hw hp he.le he.tab he.no hv hq x (by have:=List.mem_range.1 hx;have:=hu.le;omega)]
 by_cases hpre:q / aw (3 - d)=p / aw (3 - d)
 ·rw[if_pos hpre]
  obtain⟨hs,hse⟩:=he.same hp hq hpre;obtain⟨rfl,rfl⟩:=hs.unique hu;rw[if_pos ⟨rfl,hpre⟩] at hE;rw[bV hq.1 hq.2 hu',bV hq.1 hq.2 hu,hE,hse,htabs];exact⟨rfl,rfl⟩
 ·rw[if_neg hpre]
  rw[if_neg (fun h=>hpre h.2)] at hE;rw[bV hq.1 hq.2 hu',bV hq.1 hq.2 hu,hE,htabs]
theorem eW{s s':Ms}{r q:Int}(h:way s' r q=way s r q):bt s' r q=bt s r q:=by unfold bt;rw[h]
theorem gh{p:Int}(h:bu s r p=0):de p:=by
 apply Classical.byContradiction;intro hn;have:=pZ (s:=s) (r:=r) hn;unfold bu at h;rw[this] at h;cases h
theorem Wf.found(hw:Wf s r gone X){p:Int}(h:bu s r p=0):∃d t,Ends s r p d t∧(cN s p t (3 - d)).leaf =O∧way s r p=⟨0,cO s r p (d+1),((3 - d:Nat):Int),cN s p t (3 - d)⟩∧bt s r p=F (bK s r p)∧
  3 - d<3∧∀q,ax (bK s r p) q=decide (q / aw (3 - d)=p / aw (3 - d)):=by
 have hp:=gh h;obtain⟨d,t,he⟩:=hw.ends p hp;have hwe:=bV hp.1 hp.2 he;have hf:=hw.find hp;rw[h] at hf;have hm:bt s r p=F (bK s r p):=by
  cases hh:bt s r p with
  |none=>rw[hh] at hf;cases hf.1
  |some m=>rw[hf.2,hh];rfl
 have hl:(cN s p t (3 - d)).leaf =O:=by
  rw[be hp he] at hm;split at hm
  ·assumption
  ·cases hm
 have hfm:bK s r p=aB (cN s p t (3 - d)) ((3 - d:Nat):Int) p:=by
  rw[be hp he,if_pos hl] at hm;injection hm with hm
  exact hm.symm
 obtain⟨h3,_,ho⟩:=he.map hp hl;refine⟨d,t,he,hl,hwe,hm,h3,fun q=> ?_⟩;rw[hfm];exact ho q
theorem mX(hw:Wf s r gone (fun _=>False))(hi:s.Inv){p:Int}(hf:bu s r p=0):
  Wf (dm s r p) r ((fy s r p).reverse ++gone) (fun _=>False)∧(dm s r p).Inv ∧(dm s r p).n =s.n∧(dm s r p).frees =s.frees∧(∀u,(dm s r p).tk u=s.tk u)∧
  ∀q,de q→bt (dm s r p) r q=(if ax (bK s r p) q=O then I else bt s r q)∧(ax (bK s r p) q=M→bt s r q≠I→way (dm s r p) r q=way s r q):=by
 have hp:=gh hf;obtain⟨d,t,he,hl,hwe,hm,h3,ho⟩:=hw.found hf;have hle:=he.le;unfold dm fy;rw[if_pos hf,if_pos hf,hwe];dsimp only;rw[ly,Nat.add_sub_cancel];have hv:=tr (show 3 - d≤3 by omega);have hP:=hw.put hp he.le he.tab he.no hv;have hX:Wf (cM s p t d 0) r gone (fun u=>u=t):=hP.mono (by
  rintro u (⟨a,_⟩|a)
  ·exact a.elim
  ·exact a.2)
 have hmp:=rS hw hp he hv;have hmap:∀q,de q→bt (cM s p t d 0) r q=(if ax (bK s r p) q=O then I else bt s r q)∧(ax (bK s r p) q=M→bt s r q≠I→way (cM s p t d 0) r q=way s r q):=fun q hq=>by
  have:=hmp q hq;rw[ho q];split at this
  ·rename_i hpre
   rw[decide_eq_true hpre,if_pos rfl];refine⟨?_,fun h=>by cases h⟩;unfold bt;rw[this.1,(eu (show 3 - d≤3 by omega)).2];rfl
  ·rename_i hpre
   rw[decide_eq_false hpre,if_neg (by simp)];exact⟨eW this,fun _ _=>this⟩
 have hPi:(cM s p t d 0).Inv :=hi.setW _ _ (by omega);cases d with
 |zero=>
  have htr:t=r:=by have:=he.tab;injection this with this;exact this.symm
  have e0:(cO s r p 1).getD 0 0=t:=i9 he.tab (by omega);have es:ed p (cO s r p (0+1)) 0 s=(cM s p t 0 0,[]):=by unfold ed;rw[e0]
  rw[es];subst htr;exact⟨hX.no_root,hPi,rfl,rfl,fun _=>rfl,hmap⟩
 |succ k=>
  have e0:(cO s r p (k+1+1)).getD (k+1) 0=t:=i9 he.tab (by omega);have ez:s.setW ((cO s r p (k+1+1)).getD (k+1) 0).toNat (ap p (3 - (k+1):Nat)).toNat 0=cM s p t (k+1) 0:=by rw[e0]
  unfold ed;rw[ez,e0];by_cases hz:fx (cM s p t (k+1) 0) t=O
  ·rw[if_pos hz]
   have htab:∀j,j≤k+1→bm (cM s p t (k+1) 0) r p j=bm s r p j:=fun j hj=>fN hw hp he.le he.tab he.no hv hp j (by omega);obtain⟨i1,i2,i3,i4,i5,i6⟩:=wF hp k (cM s p t (k+1) 0) r gone t (cO s r p (k+1+1)) (by omega) hPi hX (by rw[htab _ (Nat.le_refl _)];exact he.tab) hz (fun j hj=>by
    rw[htab j (by omega)];obtain⟨u,hu⟩:=dY he.tab (show j≤k+1 by omega);rw[i9 hu (by omega),hu];rfl)
   refine⟨?_,i2,i3,i4,i5,fun q hq=> ?_⟩
   ·dsimp only
    rw[List.reverse_cons,List.append_assoc];exact i1
   ·have a:=i6 q hq
    have b:=hmap q hq;refine⟨a.1.trans b.1,fun h1 h2=> ?_⟩;have hb:=b.2 h1 h2;have:bt (cM s p t (k+1) 0) r q≠I:=by rw[eW hb];exact h2
    exact(a.2 this).trans hb
  ·rw[if_neg hz]
   exact⟨hX.no_full (by simpa using hz),hPi,rfl,rfl,fun _=>rfl,hmap⟩
theorem rT(hw:Wf s r gone (fun _=>False))(hi:s.Inv){p t:Int}{d:Nat}(hp:de p)(he:Ends s r p d t){e':En}(hf:aj e' (3 - d:Nat)=0)(hl':e'.leaf=O):
  Wf (cM s p t d (bq e' (3 - d:Nat))) r gone (fun _=>False)∧(cM s p t d (bq e' (3 - d:Nat))).Inv ∧
  ∀q,de q→if q / aw (3 - d)=p / aw (3 - d) then way (cM s p t d (bq e' (3 - d:Nat))) r q=⟨0,cO s r q (d+1),((3 - d:Nat):Int),e'⟩∧way s r q=⟨0,cO s r q (d+1),((3 - d:Nat):Int),cN s p t (3 - d)⟩
   else way (cM s p t d (bq e' (3 - d:Nat))) r q=way s r q:=by
 have ht:e'.there=O:=by
  cases h:e'.there with
  |true=>rfl
  |false=>rw[dE hf h] at hl';cases hl'
 obtain⟨k1,k2,k3⟩:=kT hf;have hv:kd (bq e' (3 - d:Nat)) (3 - d):=⟨k1,by rw[k2,hl'];simp⟩;have hne:bq e' (3 - d:Nat)≠0:=fun h=>by rw[k3.1 h] at ht;cases ht
 have hrg:0≤bq e' (3 - d:Nat)∧bq e' (3 - d:Nat)<18446744073709551616:=by
  have:=jH (dF hf ht);unfold bq;rw[if_pos ⟨hf,ht⟩];omega
 refine⟨(hw.put hp he.le he.tab he.no hv).mono ?_,hi.setW _ _ hrg,fun q hq=> ?_⟩
 ·rintro u (⟨a,_⟩|a)
  ·exact a
  ·exact hne a.1
 ·have:=rS hw hp he hv q hq
  rw[k2] at this;exact this
theorem n7{e:En}{l ri:Int}(hf:aj e l=0)(hl:e.leaf=O)(h0:0≤ri)(h7:ri≤7):aj {e with rights:=ri} l=0:=by
 have ht:e.there=O:=by
  cases h:e.there with
  |true=>rfl
  |false=>rw[dE hf h] at hl;cases hl
 have hk:=dF hf ht;exact jG ht ⟨hk.l0,hk.l4,h0,h7,hk.f0,hk.f1,hk.leaf,fun h=>by rw[hl] at h;cases h⟩
theorem rU{e:En}{l:Int}(a:Ac)(hf:aj e l=0)(hl:e.leaf=O):aj (bY e a) l=0∧(bY e a).leaf =O:=by
 have ht:e.there=O:=by
  cases h:e.there with
  |true=>rfl
  |false=>rw[dE hf h] at hl;cases hl
 have hk:=dF hf ht;exact⟨jG ht ⟨hk.l0,hk.l4,hk.r0,hk.r7,hk.f0,hk.f1,hk.leaf,fun h=>by have h':e.leaf=M:=h;rw[hl] at h';cases h'⟩,hl⟩
theorem rV(hw:Wf s r gone (fun _=>False))(hi:s.Inv){p ri:Int}(hf:iQ s r p ri=0):
  Wf (gX s r p ri) r gone (fun _=>False)∧(gX s r p ri).Inv ∧(gX s r p ri).n =s.n∧(gX s r p ri).frees =s.frees∧(∀u,(gX s r p ri).tk u=s.tk u)∧
  ∀q,de q→(ax (bK s r p) q=O→bt s r q=F (bK s r p)∧bt (gX s r p ri) r q=F {bK s r p with rights:=ri}∧(way (gX s r p ri) r q).e ={(way s r q).e with rights:=ri})∧
   (ax (bK s r p) q=M→way (gX s r p ri) r q=way s r q):=by
 have hr:0≤ri∧ri≤7:=by
  unfold iQ at hf;split at hf
  ·cases hf
  ·omega
 have hf0:bu s r p=0:=by
  unfold iQ at hf;rw[if_neg (by omega)] at hf;exact hf
 have hp:=gh hf0;obtain⟨d,t,he,hl,hwe,hm,h3,ho⟩:=hw.found hf0;have hef:=(fp he.dec).1;have hf':aj {cN s p t (3 - d) with rights:=ri} (3 - d:Nat)=0:=n7 hef hl hr.1 hr.2;have es:gX s r p ri=cM s p t d (bq {cN s p t (3 - d) with rights:=ri} (3 - d:Nat)):=by
  unfold gX;rw[if_pos hf,hwe];dsimp only;rw[jn he.tab]
 rw[es];obtain⟨i1,i2,i3⟩:=rT hw hi hp he hf' hl;refine⟨i1,i2,rfl,rfl,fun _=>rfl,fun q hq=>⟨fun hov=> ?_,fun hov=> ?_⟩⟩
 ·have:=i3 q hq
  rw[ho q] at hov;have hpre:=of_decide_eq_true hov;rw[if_pos hpre] at this;have hmq:bt s r q=F (bK s r p):=Wf.overMap hw hp hq hm (by rw[ho q];exact hov) hw;refine⟨hmq,?_,?_⟩
  ·unfold bt at hmq⊢
   rw[this.2] at hmq;rw[this.1];dsimp only at hmq⊢;rw[if_pos hl] at hmq;rw[if_pos hl];injection hmq with hmq
   rw[←hmq];have hef2:aj (cN s p t (3 - d)) (3 - d:Nat)=0:=hef;rw[ga hq hf' hl (eK h3),ga hq hef2 hl (eK h3)]
  ·rw[this.1,this.2]
 ·have:=i3 q hq
  rw[ho q] at hov;rw[if_neg (of_decide_eq_false hov)] at this;exact this
end
theorem gj{a:Ac}(h:aq a=0):cY a.page=O:=by
 unfold aq at h;unfold cY;split at h
 ·cases h
 ·split at h
  ·cases h
  ·simp;omega
theorem gZ{e:En}{l p:Int}(a:Ac)(hf:aj e l=0)(hl:e.leaf=O):aB (bY e a) l p=aB e l p:=by
 obtain⟨h1,h2⟩:=rU a hf hl;unfold aB;rw[h1,h2,hf,hl];rfl
theorem mY{e:En}{l p:Int}(hf:aj e l=0)(hl:e.leaf=O)(hp:cY p=O):(aB e l p).rights =e.rights:=by
 have h:0≤p∧p<4096:=by simpa [cY] using hp
 unfold aB;rw[if_pos ⟨hf,hl,h⟩]
theorem tu(s:Ms)(k i:Nat):s.setW k i (s.wd k i)=s:=by
 unfold cf;obtain⟨n,tk,wd,next,back⟩:=s;dsimp only;congr 1
 funext a b
 split
 ·rename_i h;rw[h.1,h.2]
 ·rfl
theorem rp(e:En)(a:Ac):dZ (bY e a) a=O:=by
 obtain⟨t,l,r,u,d,f⟩:=e;obtain⟨p,k,us⟩:=a;unfold dZ bY;dsimp only;cases d<;>simp
 by_cases h:k=1<;>simp[h]
def sW(s:Ms)(y:Wy)(a:Ac):Ms:=s.setW (y.tabs.getLastD 0).toNat (ap a.page y.lev).toNat (bq (bY y.e a) y.lev)
def kh(y:Wy)(a:Ac):Bool:=y.e.there&&bb y.e.rights a
def uZ(s:Ms)(y:Wy)(a:Ac):Ms:=if kh y a=O then sW s y a else s
def x00(y:Wy)(a:Ac):Rs:=
 if y.e.there=M then⟨O,⟨1,0,0⟩,⟨Mp.zero,M⟩⟩
 else if bb y.e.rights a=M then⟨O,⟨2,0,0⟩,⟨Mp.zero,M⟩⟩
 else⟨O,bF (aB y.e y.lev a.page) a,⟨aB y.e y.lev a.page,(bY y.e a).dirty⟩⟩
def vb(y:Wy)(a:Ac):Int:=4 - y.lev+(if kh y a=O∧dZ y.e a=M then 1 else 0)
structure OnWay (s:Ms) (root:Int) (a:Ac) (i:Nat) (c:Ck):Prop where
 on:c.on=O
 acc:c.a=a
 ok:c.Ok
 lev:∃L:Nat,c.level=L∧L≤3∧(∃ac,way s root a.page=cZ s a.page L c.t ac)∧(c.mark=M→i+L=3)∧(c.mark=O→i+L=4∧s.has c.t=O∧c.word s=c.w)
theorem OnWay.start(s:Ms)(root:Int){a:Ac}{c:Ck}(hc:aq a=0)(hon:c.on=O)(ha:c.a=a)(ht:c.t=root)(hl:c.level=3)(hm:c.mark=M):OnWay s root a 0 c:=by
 refine⟨hon,ha,⟨fun _=>(by rw[ha];exact hc),fun _=>(by omega),fun _=>(by omega),fun h=>(by rw[hon] at h;cases h),fun h=>(by rw[hm] at h;cases h),fun h=>(by rw[hm] at h;cases h),fun h=>(by rw[hm] at h;cases h),fun h=>(by rw[hm] at h;cases h)⟩,3,by rw[hl];rfl,Nat.le_refl _,⟨[],?_⟩,fun _=>rfl,fun h=>(by rw[hm] at h;cases h)⟩;unfold way;rw[if_pos (gj hc),ht]
theorem OnWay.few{s:Ms}{root:Int}{a:Ac}{i:Nat}{c:Ck}(h:OnWay s root a i c):i≤4:=by
 obtain⟨L,_,_,_,h1,h2⟩:=h.lev;cases hm:c.mark with
 |true=>have:=(h2 hm).1;omega
 |false=>have:=h1 hm;omega
inductive wT (s:Ms) (root:Int) (a:Ac) (i:Nat) (c:Ck) (r:Sp):Prop
 |bad (h:r.code≠0) (hc:(way s root a.page).code =r.code) (hr:r.r=Rs.zero) (hs:r.s=s) (hk:r.c=c)
 |on (h:r.code=0) (hr:r.r=Rs.zero) (hs:r.s=s) (hw:OnWay s root a (i+1) r.c)
 |done (h:r.code=0) (hc:(way s root a.page).code =0) (hr:r.r=x00 (way s root a.page) a) (hs:r.s=uZ s (way s root a.page) a) (hi:((i+1:Nat):Int)=vb (way s root a.page) a) (hw:r.c.on=M) (hk:r.c.Ok)
theorem OnWay.step{s:Ms}{root:Int}{a:Ac}{i:Nat}{c:Ck}(hw:OnWay s root a i c):wT s root a i c (aL s root c):=by
 obtain⟨L,hL,hL3,⟨ac,hway⟩,hm0,hm1⟩:=hw.lev;have hon:=hw.on;have ha:=hw.acc;have hck:=hw.ok.acc hon;rw[ha] at hck;have hp:=gj hck;have hword:c.word s=av s c.t (ap a.page L):=by unfold Ck.word;rw[ha,hL]
 have hok:=hw.ok.step s root;cases hmk:c.mark with
 |true=>
  obtain⟨hi,hh,hcw⟩:=hm1 hmk;have hd:=hw.ok.dec hmk;obtain⟨hth,hlf⟩:=hw.ok.leaf hmk;have hmay:=hw.ok.may hmk;have hnr:=hw.ok.need hmk;rw[←hcw,hword,hL] at hd hth hlf hmay hnr;rw[ha] at hmay hnr;have hY:=dW (acc:=ac) hh hd (.inr hlf);rw[←hway] at hY;unfold aL at hok⊢;rw[if_neg (by rw[hon];simp),if_neg (by rw[hh];simp),if_neg (by rintro⟨_,h⟩;exact h hcw),if_neg (by rw[hword,hL];simp[hd]),if_neg (by rw[hword,hL,hth];simp),if_neg (by rw[hword,hL,hlf];simp),if_neg (by rw[hword,hL,ha,hmay];simp),if_pos hmk] at hok⊢;have hf:=(fp hd).1;have hdone:kh (way s root a.page) a=O:=by rw[hY];unfold kh;simp[hth,hmay]
  refine .done rfl (by rw[hY]) ?_ ?_ ?_ rfl hok
  ·unfold Ck.leafEnd x00
   rw[hY];dsimp only;rw[if_neg (by rw[hth];simp),if_neg (by rw[hmay];simp),ha,hL,hword,gZ a hf hlf]
  ·unfold Ck.leafEnd uZ
   rw[if_pos hdone];unfold sW;rw[hY,ha,hL,hword];simp
  ·unfold vb
   rw[hdone,hY];dsimp only;rw[if_pos ⟨rfl,hnr⟩];omega
 |false=>
  have hi:=hm0 hmk;unfold aL at hok⊢;rw[if_neg (by rw[hon];simp)] at hok⊢;cases hh:s.has c.t with
  |false=>
   rw[if_pos rfl];rw[fY hh] at hway;exact .bad (show(12:Int)≠0 by decide) (by rw[hway];rfl) rfl rfl rfl
  |true=>
   rw[hh] at hok;rw[if_neg (by simp),if_neg (by rintro⟨h,_⟩;rw[hmk] at h;cases h)] at hok⊢;by_cases hd:br (av s c.t (ap a.page L)) L=0
   ·rw[if_neg (by rw[hword,hL];simp[hd])] at hok⊢
    have hf:=(fp hd).1;cases hth:(aD (av s c.t (ap a.page L)) L).there with
    |false=>
     rw[if_pos (by rw[hword,hL];exact hth)] at hok⊢;rw[dW hh hd (.inl hth)] at hway;refine .done rfl (by rw[hway]) ?_ ?_ ?_ rfl hok
     ·unfold Ck.endWith x00
      rw[hway];dsimp only;rw[if_pos hth]
     ·unfold Ck.endWith uZ kh
      rw[hway];dsimp only;rw[hth];simp
     ·unfold vb kh
      rw[hway];dsimp only;rw[hth];simp;omega
    |true=>
     rw[if_neg (by rw[hword,hL,hth];simp)] at hok⊢;cases hlf:(aD (av s c.t (ap a.page L)) L).leaf with
     |false=>
      rw[if_pos (by rw[hword,hL];exact hlf)] at hok⊢;obtain⟨K,hK,hY⟩:=jh (acc:=ac) hh hd (by rw[hth,hlf];simp);subst hK;refine .on rfl rfl rfl ⟨hon,ha,hok,K,?_,by omega,⟨ac++[c.t],?_⟩,fun _=>by omega,fun h=>by rw[show c.mark=O from h] at hmk;cases hmk⟩
      ·show c.level - 1=_
       omega
      ·rw[hway,hY]
       show _=cZ s a.page K (aD (c.word s) c.level).frame _;rw[hword,hL]
     |true=>
      rw[if_neg (by rw[hword,hL,hlf];simp)] at hok⊢;rw[dW hh hd (.inr hlf)] at hway;cases hmay:bb (aD (av s c.t (ap a.page L)) L).rights a with
      |false=>
       rw[if_pos (by rw[hword,hL,ha];exact hmay)] at hok⊢;refine .done rfl (by rw[hway]) ?_ ?_ ?_ rfl hok
       ·unfold Ck.endWith x00
        rw[hway];dsimp only;rw[if_neg (by rw[hth];simp),if_pos hmay]
       ·unfold Ck.endWith uZ kh
        rw[hway];dsimp only;rw[hth,hmay];simp
       ·unfold vb kh
        rw[hway];dsimp only;rw[hth,hmay];simp;omega
      |true=>
       rw[if_neg (by rw[hword,hL,ha,hmay];simp),if_neg (by rw[hmk];simp)] at hok⊢;have hdone:kh (way s root a.page) a=O:=by rw[hway];unfold kh;simp[hth,hmay]
       cases hr:dZ (aD (av s c.t (ap a.page L)) L) a with
       |true=>
        rw[if_pos (by rw[hword,hL,ha];exact hr)] at hok⊢;have hme:=(mO _ a).2 hr;refine .done rfl (by rw[hway]) ?_ ?_ ?_ rfl hok
        ·unfold Ck.leafEnd x00
         rw[hway];dsimp only;rw[if_neg (by rw[hth];simp),if_neg (by rw[hmay];simp),ha,hL,hword,hme]
        ·unfold Ck.leafEnd uZ
         rw[if_pos hdone];unfold sW;rw[hway];dsimp only;rw[hme,(fp hd).2];have hg:(ac++[c.t]).getLastD 0=c.t:=by simp
         rw[hg];exact(tu s _ _).symm
        ·unfold vb
         rw[hdone,hway];dsimp only;rw[hr];simp;omega
       |false=>
        rw[if_neg (by rw[hword,hL,ha,hr];simp)] at hok⊢;refine .on rfl rfl rfl ⟨hon,ha,hok,L,hL,hL3,⟨ac,?_⟩,fun h=>(by cases h),fun _=>⟨by omega,hh,rfl⟩⟩;rw[hway];exact(dW hh hd (.inr hlf)).symm
   ·rw[if_pos (by rw[hword,hL];exact hd)]
    rw[iq hh hd] at hway;exact .bad (by rw[hword,hL];exact hd) (by rw[hway,hword,hL];rfl) rfl rfl rfl
theorem iy(e:En)(l:Int):0≤bq e l∧bq e l<18446744073709551616:=by
 unfold bq;split
 ·rename_i h
  obtain⟨_,a,b⟩:=jH (dF h.1 h.2);omega
 ·omega
theorem oT{a b:Mp}{p:Int}(ha:ax a p=O)(hb:ax b p=O):dV a b=O:=by
 rw[dX] at ha hb;unfold dV;rw[Bool.or_eq_true,dX,dX];omega
theorem tv(a b:Mp):dV a b=dV b a:=Bool.or_comm _ _
namespace Tl
theorem Ok.one{l:List Ln}(h:Ok l){x y:Ln}(hx:x∈l)(hy:y∈l){p:Int}(ox:ax x.m p=O)(oy:ax y.m p=O):x=y:=by
 obtain⟨i,hi,rfl⟩:=List.getElem_of_mem hx;obtain⟨j,hj,rfl⟩:=List.getElem_of_mem hy;have hm:=oT ox oy;rcases Nat.lt_trichotomy i j with hlt|rfl|hlt
 ·rw[List.pairwise_iff_getElem.1 h.apart i j hi hj hlt] at hm;cases hm
 ·rfl
 ·rw[tv,List.pairwise_iff_getElem.1 h.apart j i hj hi hlt] at hm;cases hm
def idx(l:List Ln)(p:Int):Int:=match l.findIdx? fun x=>ax x.m p with|some k=>(k:Int)|none=> -1
theorem idx_find(l:List Ln)(p:Int):(find l p=I∧idx l p= -1)∨∃(k:Nat) (h:k<l.length),idx l p=k∧find l p=F l[k]∧ax l[k].m p=O:=by
 unfold find idx;cases hf:l.findIdx? fun x=>ax x.m p with
 |none=>
  left;refine⟨?_,rfl⟩;rw[List.find?_eq_none];intro x hx;have:=List.findIdx?_eq_none_iff.1 hf x hx;simpa using this
 |some k=>
  right;obtain⟨hk,h1,h2⟩:=List.findIdx?_eq_some_iff_getElem.1 hf;refine⟨k,hk,rfl,?_,h1⟩;rw[List.find?_eq_some_iff_getElem];exact⟨h1,k,hk,rfl,fun j hj=>by have:=h2 j hj;simpa using this⟩
end Tl
def ja(l:List Ln)(a:Ac):Option An:=
 match Tl.find l a.page with
 |some x=>if x.dirty=O∨a.kind≠1∨bb x.m.rights a=M then F (bF x.m a) else I
 |none=>I
structure Bq where
 an:An
 fin:Bool
 code:Int
 c:Ck
def ce(l:List Ln)(root:Int)(k:Ck)(a:Ac):Bq:=
 if aq a≠0 then⟨An.zero,M,aq a,k⟩
 else if k.on=O then⟨An.zero,M,8,k⟩
 else match ja l a with
  |some r=>⟨r,O,0,k⟩
  |none=>⟨An.zero,M,0,k.begin root a⟩
theorem vc{l:List Ln}{root:Int}{k:Ck}{a:Ac}(h:k.Ok):(ce l root k a).c.Ok :=by
 unfold ce;split;· exact h
 rename_i hc;split;· exact h
 split;· exact h
 exact Ck.Ok.begin root (by simpa using hc)
def gQ(l:List Ln)(r:Rs):List Ln:=if r.fin=O∧r.an.fin=0 then Tl.put l r.ln else l
theorem tw{s:Ms}{root:Int}{c:Ck}(h:(aL s root c).code ≠0):(aL s root c).r =Rs.zero:=by
 unfold aL at h⊢;split;· rfl
 rename_i h1;rw[if_neg h1] at h;split;· rfl
 rename_i h2;rw[if_neg h2] at h;split;· rfl
 rename_i h3;rw[if_neg h3] at h;split;· rfl
 rename_i h4;rw[if_neg h4] at h;split
 ·rename_i h5;rw[if_pos h5] at h;exact absurd rfl h
 rename_i h5;rw[if_neg h5] at h;split
 ·rfl
 rename_i h6;rw[if_neg h6] at h;split
 ·rename_i h7;rw[if_pos h7] at h;exact absurd rfl h
 rename_i h7;rw[if_neg h7] at h;split
 ·rename_i h8;rw[if_pos h8] at h;exact absurd rfl h
 rename_i h8;rw[if_neg h8] at h;split
 ·rename_i h9;rw[if_pos h9] at h;exact absurd rfl h
 ·rfl
theorem nF(e:En)(l p:Int):0≤(aB e l p).page ∧(aB e l p).page <4096:=by
 unfold aB;split
 ·rename_i h
  by_cases h0:bn l=0
  ·show 0≤p / bn l*bn l∧p / bn l*bn l<4096
   rw[h0];omega
  have hs:0<bn l:=by rcases pV h0 with ⟨_,e⟩|⟨_,e⟩|⟨_,e⟩<;>omega
  have h1:=Int.ediv_mul_le p h0;have h2:0≤p / bn l:=Int.ediv_nonneg (by omega) (by omega);have h3:0≤p / bn l*bn l:=Int.mul_nonneg h2 (by omega);exact⟨h3,by show p / bn l*bn l<4096;omega⟩
 ·exact⟨by show(0:Int)≤0;omega,by show(0:Int)<4096;omega⟩
theorem mZ(s:Ms)(root:Int)(c:Ck):cW (aL s root c).r.ln.m.page :=by
 have hz:cW Mp.zero.page:=by show cW 0;unfold cW;omega
 have hl:∀e l p,cW (aB e l p).page :=fun e l p=>by have:=nF e l p;unfold cW;omega
 unfold aL;split;· exact hz
 split;· exact hz
 split;· exact hz
 split;· exact hz
 split;· exact hz
 split;· exact hz
 split;· exact hz
 split;· exact hl _ _ _
 split;· exact hl _ _ _
 exact hz
theorem vd{l:List Ln}(h:Tl.Ok l)(r:Rs):Tl.Ok (gQ l r):=by
 unfold gQ;split
 ·exact h.put _
 ·exact h
structure Agree (s s':Ms):Prop where
 n:s.n=s'.n
 tk:∀k,s.tk k=s'.tk k
 fr:s.frees=s'.frees
 wd:∀k i,s.tk k=O→s.wd k i=s'.wd k i
section
variable {s s':Ms}
theorem Agree.refl(s:Ms):Agree s s:=⟨rfl,fun _=>rfl,rfl,fun _ _ _=>rfl⟩
theorem Agree.trans{s2:Ms}(h:Agree s s')(k:Agree s' s2):Agree s s2:=⟨h.n.trans k.n,fun j=>(h.tk j).trans (k.tk j),h.fr.trans k.fr,fun j i ht=>(h.wd j i ht).trans (k.wd j i (by rw[←h.tk];exact ht))⟩
theorem Agree.has(h:Agree s s')(k:Int):s.has k=s'.has k:=by
 unfold cg;rw[h.n,h.tk]
theorem Agree.word(h:Agree s s'){t:Int}(ht:s.has t=O)(i:Int):av s t i=av s' t i:=h.wd _ _ (bi.1 ht).2.2
theorem Agree.wayStep(h:Agree s s')(p:Int)(L:Nat)(t:Int)(acc:List Int){f g:Int→Wy}(hfg:∀x,f x=g x):iF s p L t acc f=iF s' p L t acc g:=by
 unfold Go.Proofs.YtmfheghbgihdmaaGreat.iF;rw[←h.has t];cases ht:s.has t with
 |false=>rfl
 |true=>rw[h.word ht,hfg]
theorem Agree.wayA(h:Agree s s')(p:Int):∀(L:Nat) (t:Int) (acc:List Int),cZ s p L t acc=cZ s' p L t acc
 |0,t,acc=>h.wayStep p 0 t acc fun _=>rfl
 |L+1,t,acc=>h.wayStep p (L+1) t acc fun _=>Agree.wayA h p L _ _
theorem Agree.way(h:Agree s s')(r p:Int):way s r p=way s' r p:=by
 unfold Go.Proofs.YtmfheghbgihdmaaGreat.way;rw[h.wayA p 3 r []]
theorem Agree.scanV(h:Agree s s')(L:Nat){t:Int}(ht:s.has t=O)(a:Int){f g:Int→Int→Vs}(hfg:∀x y,f x y=g x y):∀is:List Nat,dp s L t a f is=dp s' L t a g is
 | []=>rfl
 |i::is=>by
  unfold Go.Proofs.YtmfheghbgihdmaaGreat.dp;rw[h.word ht,Agree.scanV h L ht a hfg is];simp only[hfg]
theorem Agree.eachV(h:Agree s s'):∀(L:Nat) (t a:Int),cu s L t a=cu s' L t a
 |0,t,a=>by
  unfold Go.Proofs.YtmfheghbgihdmaaGreat.cu;rw[←h.has t];cases ht:s.has t with
  |false=>rfl
  |true=>rw[if_neg (by simp),if_neg (by simp)];exact h.scanV 0 ht a (fun _ _=>rfl) _
 |L+1,t,a=>by
  unfold Go.Proofs.YtmfheghbgihdmaaGreat.cu;rw[←h.has t];cases ht:s.has t with
  |false=>rfl
  |true=>rw[if_neg (by simp),if_neg (by simp)];exact h.scanV (L+1) ht a (fun x y=>Agree.eachV h L x y) _
theorem Agree.top(h:Agree s s'):s.top=s'.top:=by rw[←b9,←b9,h.fr]
theorem Agree.setW(h:Agree s s')(k i:Nat)(v:Int):Agree (s.setW k i v) (s'.setW k i v):=
 ⟨h.n,h.tk,h.fr,fun a b ht=>by
  show(if a=k∧b=i then v else s.wd a b)=(if a=k∧b=i then v else s'.wd a b);rw[h.wd a b ht]⟩
theorem Agree.findC(h:Agree s s')(r p:Int):bu s r p=bu s' r p:=by unfold Go.Proofs.YtmfheghbgihdmaaGreat.bu;rw[h.way r p]
theorem Agree.findM(h:Agree s s')(r p:Int):bK s r p=bK s' r p:=by unfold Go.Proofs.YtmfheghbgihdmaaGreat.bK;rw[h.way r p,h.findC r p]
theorem Agree.insC(h:Agree s s')(r:Int)(x:Mp):cU s r x=cU s' r x:=by unfold Go.Proofs.YtmfheghbgihdmaaGreat.cU;rw[h.way r x.page,h.fr]
end
open Go.ChangeShapes Go.WideShapes Go.ChangeAt Go.RowKit Go.Deep
def kY(K:TypeId→Option (List (Option IntKind)))(P:Program):List Field→Nat→Option (List (Option IntKind))
 | [],_=>F []
 |f::fs,off=>
  if f.offset=off then
   match K f.type with
   |some l=>if l.length=P.cellsOf f.type then(kY K P fs (off+l.length)).map (l++ ·) else I
   |none=>I
  else I
def n8(P:Program):Nat→TypeId→Option (List (Option IntKind))
 |0,_=>I
 |d+1,t=>
  match P.underlying t with
  |some .bool =>F [I]
  |some (.int k)=>F [F k]
  |some (.struct fs)=>
   match kY (n8 P d) P fs.toList 0 with
   |some l=>if l.length=P.cellsOf t then F l else I
   |none=>I
  |_=>I
def CellsOk:List (Option IntKind)→List S→Prop
 | [],[]=>True
 |none::ks,v::vs=>(∃b,v= .bool b)∧CellsOk ks vs
 |some k::ks,v::vs=>(∃n,v= .int k n∧(Lit.int k n).wf =O)∧CellsOk ks vs
 |_,_=>False
theorem CellsOk.append:∀{k1 k2:List (Option IntKind)} {c1 c2:List S},CellsOk k1 c1→CellsOk k2 c2→CellsOk (k1++k2) (c1++c2)
 | [],_,[],_,_,h2=>h2
 | [],_,_::_,_,h1,_=>h1.elim
 |none::_,_,_::_,_,h1,h2=>⟨h1.1,h1.2.append h2⟩
 |some _::_,_,_::_,_,h1,h2=>⟨h1.1,h1.2.append h2⟩
 |none::_,_,[],_,h1,_=>h1.elim
 |some _::_,_,[],_,h1,_=>h1.elim
theorem CellsOk.int{k:IntKind}{ks:List (Option IntKind)}{cs:List S}(h:CellsOk (F k::ks) cs):∃n cs',cs= .int k n::cs'∧(Lit.int k n).wf =O∧CellsOk ks cs':=by
 match cs,h with
 |v::vs,⟨⟨n,e,hw⟩,h2⟩=>exact⟨n,vs,by rw[e],hw,h2⟩
theorem CellsOk.bool{ks:List (Option IntKind)}{cs:List S}(h:CellsOk (I::ks) cs):∃b cs',cs= .bool b::cs'∧CellsOk ks cs':=by
 match cs,h with
 |v::vs,⟨⟨b,e⟩,h2⟩=>exact⟨b,vs,by rw[e],h2⟩
theorem CellsOk.nil{cs:List S}(h:CellsOk [] cs):cs=[]:=by
 match cs,h with
 | [],_=>rfl
section
variable {H:Type} {enc:TypeId×S→H} {P:Program} {w:N} {base:Nat} {spare:Nat→Bool} {held:Bool}
theorem m9{K:TypeId→Option (List (Option IntKind))}{cs:List S}:∀(fs:List Field) (off:Nat) (l:List (Option IntKind)),kY K P fs off=F l→
  (∀f∈fs,∀k,K f.type=F k→CellsOk k ((cs.drop f.offset).take (P.cellsOf f.type)))→CellsOk l ((cs.drop off).take l.length)
 | [],off,l,h,_=>by
  simp[kY] at h;subst h;simp[CellsOk]
 |f::fs,off,l,h,hf=>by
  unfold kY at h;split at h
  ·rename_i ho
   split at h
   ·rename_i k hk
    split at h
    ·rename_i hl
     obtain⟨l2,h2,rfl⟩:=Option.map_eq_some_iff.1 h;have i1:=hf f (by simp) k hk;have i2:=m9 fs _ l2 h2 fun g hg=>hf g (by simp[hg]);rw[ho,←hl] at i1;have e:(cs.drop off).take (k++l2).length =(cs.drop off).take k.length++(cs.drop (off+k.length)).take l2.length:=by
      rw[b8,List.take_add,List.drop_drop]
     rw[e];exact i1.append i2
    ·cases h
   ·cases h
  ·cases h
theorem kF:∀(d fuel:Nat) (t:TypeId) (ks:List (Option IntKind)) (cs:List S) (x:DataW H×List MemPlace),n8 P d t=F ks→
  DataW.trod enc P w base spare held fuel t cs=F x→CellsOk ks cs
 |0,_,_,_,_,_,h,_=>by cases h
 |d+1,fuel,t,ks,cs,x,h,ht=>by
  unfold n8 at h;split at h
  ·rename_i hu
   obtain⟨b,rfl,_⟩:=DataW.trod_bool hu ht;injection h with h;subst h
   exact⟨⟨b,rfl⟩,trivial⟩
  ·rename_i k hu
   obtain⟨n,rfl,_,hw⟩:=DataW.trod_int hu ht;injection h with h;subst h
   exact⟨⟨n,rfl,hw⟩,trivial⟩
  ·rename_i fs hu
   obtain⟨xs,n,rfl,_,hl,hxl,hf⟩:=DataW.trod_struct hu ht;split at h
   ·rename_i l hs
    split at h
    ·rename_i hll
     injection h with h;subst h
     have:=m9 (cs:=cs) (P:=P) fs.toList 0 l hs fun f hfm k hk=>by
      obtain⟨i,hi,hfi⟩:=List.getElem_of_mem hfm;have hi':i<fs.size:=by simpa using hi
      have hg:fs[i]? =F f:=by rw[Array.getElem?_eq_getElem hi'];simpa using hfi
      have h1:=hf i f hg;rw[bf (by omega)] at h1;exact kF d n f.type k _ _ hk h1
     rw[hll,←hl] at this;simpa using this
    ·cases h
   ·cases h
  ·cases h
theorem rq{d:Nat}{t:TypeId}{ks:List (Option IntKind)}{v:S}{x:DataW H}{p:List MemPlace}(hk:n8 P d t=F ks)(h:DataW.Trod enc P w base spare held t v x p):CellsOk ks v.cells.toList:=by
 obtain⟨fuel,hf⟩:=h;exact kF d fuel t ks _ _ hk hf
theorem fT{n:Int}(h:(Lit.int .i64 n).wf =O):cW n:=by
 simp[Lit.wf,IntKind.min,IntKind.max,IntKind.signed,IntKind.bits] at h;exact⟨by omega,by omega⟩
theorem qg{t:TypeId}{r:Reach}{b0:Nat}{v:S}{x:DataW H}{p:List MemPlace}(ht:P.underlying t=F (.int .i64))(hv:Value.okWide P w r b0 t v)(h:DataW.Trod enc P w base spare held t v x p):∃n,v=G J n∧cW n:=by
 obtain⟨n,rfl,_,_,hw⟩:=open_int ht hv h;exact⟨n,rfl,fT hw⟩
theorem vg{cs:List S}(h:CellsOk [F .i64,F .i64,I] cs):∃x:Ac,cs=x.cells∧x.ok:=by
 obtain⟨a0,c0,rfl,w0,g0⟩:=h.int;obtain⟨a1,c1,rfl,w1,g1⟩:=g0.int;obtain⟨a2,c2,rfl,g2⟩:=g1.bool;obtain rfl:=g2.nil;exact⟨⟨a0,a1,a2⟩,rfl,fT w0,fT w1⟩
theorem vh{α:Type}{cells:α→List S}{ok:α→Prop}{ks:List (Option IntKind)}(hd:∀cs,CellsOk ks cs→∃x:α,cs=cells x∧ok x){d:Nat}{t:TypeId}{fs:Array Field}(hk:n8 P d t=F ks)
  (ht:P.underlying t=F (.struct fs)) {r:Reach} {b0:Nat} {v:S} {x:DataW H} {p:List MemPlace} (hv:Value.okWide P w r b0 t v) (h:DataW.Trod enc P w base spare held t v x p):∃m:α,v= .agg (cells m).toArray ∧ok m:=by
 obtain⟨cs,rfl,_⟩:=okWide_struct ht hv;obtain⟨m,hm,ho⟩:=hd _ (rq hk h);refine⟨m,?_,ho⟩;have:cs.toList=cells m:=hm;rw[←this]
theorem kZ(b off n:Nat):(((W b off I):bG).add n)=⟨b,off+n,I⟩:=by
 unfold Addr.add;split<;>simp_all
theorem vi{α:Type}{cells:α→List S}{ok:α→Prop}{ks:List (Option IntKind)}(hd:∀cs,CellsOk ks cs→∃x:α,cs=cells x∧ok x){d:Nat}{t e:TypeId}{size:Nat}(ht:P.underlying t=F (.slice e))
  (hk:n8 P d e=F ks) (hs:P.cellsOf e=size) (hpos:0<size) {A:Option bG} {len cap:Nat} {x:DataW H} {p:List MemPlace} (h:DataW.Trod enc P w base spare held t (.slice A len cap) x p):
  ∃l:List α,Arr w A len size (l.map cells)∧∀y∈l,ok y:=by
 obtain⟨fuel,hf⟩:=h;rcases open_slice ht hf with ⟨hcs,_⟩|⟨a,len',cap',m,n,D,Pl,hcs,_,hl,hm,hmm,_,hel⟩
 ·simp[Value.cells] at hcs
  obtain⟨rfl,rfl,rfl⟩:=hcs;exact⟨[],⟨rfl,by omega,fun i xs hi=>by simp at hi⟩,fun y hy=>by cases hy⟩
 ·simp[Value.cells] at hcs
  obtain⟨rfl,rfl,rfl⟩:=hcs;have hlm:len≤m:=by rw[hmm];split<;>omega
  have key:∀k,k≤len→∃l:List α,l.length=k∧(∀y∈l,ok y)∧∀i y,l[i]? =F y→∃b off,a=(W b off I)∧b<w.heap.size∧∀j u,(cells y)[j]? =F u→w.cell? ⟨b,off+i*size+j,I⟩=F u:=by
   intro k;induction k with
   |zero=>exact fun _=>⟨[],rfl,(fun y hy=>by cases hy),(fun i y hi=>by simp at hi)⟩
   |succ k ih=>
    intro hk1;obtain⟨l,hll,hok,hcells⟩:=ih (by omega);obtain⟨cs',hc1,hc2⟩:=hel k (by omega);obtain⟨_,hcl,hat⟩:=World.cells?_some hc1;obtain⟨y,hy,hoy⟩:=hd _ (kF d n e ks cs' _ hk hc2);refine⟨l++[y],by simp[hll],fun z hz=> ?_,fun i z hz=> ?_⟩
    ·rcases List.mem_append.1 hz with hz|hz
     ·exact hok z hz
     ·simp at hz;subst hz;exact hoy
    ·rw[List.getElem?_append] at hz
     split at hz
     ·exact hcells i z hz
     ·rename_i hi
      have hik:i=k:=by
       have:=bd.1 hz;obtain⟨h1,_⟩:=this;simp at h1;omega
      subst hik;rw[hll,Nat.sub_self] at hz;simp at hz;subst hz;have h0:=hat 0 (by omega);rw[hs] at hat h0 hcl;obtain⟨b,off,spot⟩:=a;have hspot:spot=I:=by
       have h00:∃u,(w.cell? (((⟨b,off,spot⟩:bG).add (0*size)).add 0))=F u:=by
        obtain⟨cs0,hd1,_⟩:=hel 0 (by omega);obtain⟨_,hdl,hdat⟩:=World.cells?_some hd1;have:=hdat 0 (by omega);rw[hs] at this;rw[this,bf (by omega)];exact⟨_,rfl⟩
       obtain⟨u,hu⟩:=h00;simpa [Addr.add] using World.cell?_spot hu
      subst hspot;have hc:∀j u,(cells y)[j]? =F u→w.cell? ⟨b,off+i*size+j,I⟩=F u:=by
       intro j u hu;have hj:j<size:=by
        have:=bd.1 hu;obtain⟨h1,_⟩:=this;rw[←hy,hcl] at h1;exact h1
       have:=hat j hj;rw[kZ,kZ,hy,hu] at this;exact this
      refine⟨b,off,rfl,?_,hc⟩;rw[kZ,kZ,bf (by omega)] at h0;exact World.block_lt_of_cell? w _ h0
  obtain⟨l,hll,hok,hcells⟩:=key len (Nat.le_refl _);refine⟨l,⟨by simp[hll],by unfold maxLen at hm;omega,fun i xs hi=> ?_⟩,hok⟩;rw[List.getElem?_map] at hi;obtain⟨y,hy,rfl⟩:=Option.map_eq_some_iff.1 hi;obtain⟨b,off,rfl,hb,hc⟩:=hcells i y hy;exact⟨b,off,rfl,hb,hc⟩
end
set_option maxRecDepth 100000
theorem yI(d:Nat)(a0 b0:Int)(a1 b1:Int)(a2 b2:Int)(a3 b3:Int)(w:N):(Op.equalIn (d+2) 39 (.agg #[G J a0,G J a1,G J a2,G J a3]) (.agg #[G J b0,G J b1,G J b2,G J b3])).run prog w= .ok (a0==b0&&(a1==b1&&(a2==b2&&(a3==b3)))) w:=by
 have ui:=underlying3;have ci:=Tryz.isAgg3;have zi:=Tryz.sizeOf3;have hS:prog.underlying 39=F (.struct (prog.fieldsOf 39)):=by kernel_rfl
 have hp:prog.stoodInHeld 39=M:=by kernel_rfl
 rw[show d+2=(d+1)+1 from rfl,run_equalIn_agg w (d+1) 39 _ _ hS hp];simp only[Program.fieldsOf,underlying39];go_simp;by_cases h0:a0=b0
 ·skip
  by_cases h1:a1=b1
  ·skip
   by_cases h2:a2=b2
   ·skip
    by_cases h3:a3=b3
    ·skip
     simp[h0,h1,h2,h3]
    ·simp[h0,h1,h2,h3]
   ·simp[h0,h1,h2]
  ·simp[h0,h1]
 ·simp[h0]
@[go_sem] theorem AQ (a0 b0:Int) (a1 b1:Int) (a2 b2:Int) (a3 b3:Int) (w:N):(Op.equalIn 10000 39 (.agg #[G J a0,G J a1,G J a2,G J a3]) (.agg #[G J b0,G J b1,G J b2,G J b3])).run prog w= .ok (a0==b0&&(a1==b1&&(a2==b2&&(a3==b3)))) w:=yI 9998 a0 b0 a1 b1 a2 b2 a3 b3 w
@[go_sem] theorem zK:prog.eqGuardType prog.depth 39=M:=by kernel_rfl
theorem tx(d:Nat)(a0 b0:Int)(a1 b1:Int)(a2 b2:Bool)(w:N):(Op.equalIn (d+2) 41 (.agg #[G J a0,G J a1,vB a2]) (.agg #[G J b0,G J b1,vB b2])).run prog w= .ok (a0==b0&&(a1==b1&&(a2==b2))) w:=by
 have ub:=underlying4;have cb:=Tryz.isAgg4;have zb:=Tryz.sizeOf4;have ui:=underlying3;have ci:=Tryz.isAgg3;have zi:=Tryz.sizeOf3;have hS:prog.underlying 41=F (.struct (prog.fieldsOf 41)):=by kernel_rfl
 have hp:prog.stoodInHeld 41=M:=by kernel_rfl
 rw[show d+2=(d+1)+1 from rfl,run_equalIn_agg w (d+1) 41 _ _ hS hp];simp only[Program.fieldsOf,underlying41];go_simp;by_cases h0:a0=b0
 ·skip
  by_cases h1:a1=b1
  ·skip
   by_cases h2:a2=b2
   ·skip
    simp[h0,h1,h2]
   ·simp[h0,h1,h2]
  ·simp[h0,h1]
 ·simp[h0]
@[go_sem] theorem zL (a0 b0:Int) (a1 b1:Int) (a2 b2:Bool) (w:N):(Op.equalIn 10000 41 (.agg #[G J a0,G J a1,vB a2]) (.agg #[G J b0,G J b1,vB b2])).run prog w= .ok (a0==b0&&(a1==b1&&(a2==b2))) w:=tx 9998 a0 b0 a1 b1 a2 b2 w
@[go_sem] theorem xG:prog.eqGuardType prog.depth 41=M:=by kernel_rfl
theorem tz(d:Nat)(a0 b0:Int)(a1 b1:Int)(a2 b2:Int)(w:N):(Op.equalIn (d+2) 34 (.agg #[G J a0,G J a1,G J a2]) (.agg #[G J b0,G J b1,G J b2])).run prog w= .ok (a0==b0&&(a1==b1&&(a2==b2))) w:=by
 have ui:=underlying3;have ci:=Tryz.isAgg3;have zi:=Tryz.sizeOf3;have hS:prog.underlying 34=F (.struct (prog.fieldsOf 34)):=by kernel_rfl
 have hp:prog.stoodInHeld 34=M:=by kernel_rfl
 rw[show d+2=(d+1)+1 from rfl,run_equalIn_agg w (d+1) 34 _ _ hS hp];simp only[Program.fieldsOf,underlying34];go_simp;by_cases h0:a0=b0
 ·skip
  by_cases h1:a1=b1
  ·skip
   by_cases h2:a2=b2
   ·skip
    simp[h0,h1,h2]
   ·simp[h0,h1,h2]
  ·simp[h0,h1]
 ·simp[h0]
@[go_sem] theorem zM (a0 b0:Int) (a1 b1:Int) (a2 b2:Int) (w:N):(Op.equalIn 10000 34 (.agg #[G J a0,G J a1,G J a2]) (.agg #[G J b0,G J b1,G J b2])).run prog w= .ok (a0==b0&&(a1==b1&&(a2==b2))) w:=tz 9998 a0 b0 a1 b1 a2 b2 w
@[go_sem] theorem xH:prog.eqGuardType prog.depth 34=M:=by kernel_rfl
theorem vj(d:Nat)(a0 b0:Bool)(a1 b1:Bool)(a2 b2:Int)(a3 b3:Bool)(a4 b4:Bool)(a5 b5:Int)(w:N):(Op.equalIn (d+2) 70 (.agg #[vB a0,vB a1,G J a2,vB a3,vB a4,G J a5]) (.agg #[vB b0,vB b1,G J b2,vB b3,vB b4,G J b5])).run prog w= .ok (a0==b0&&(a1==b1&&(a2==b2&&(a3==b3&&(a4==b4&&(a5==b5)))))) w:=by
 have ub:=underlying4;have cb:=Tryz.isAgg4;have zb:=Tryz.sizeOf4;have ui:=underlying3;have ci:=Tryz.isAgg3;have zi:=Tryz.sizeOf3;have hS:prog.underlying 70=F (.struct (prog.fieldsOf 70)):=by kernel_rfl
 have hp:prog.stoodInHeld 70=M:=by kernel_rfl
 rw[show d+2=(d+1)+1 from rfl,run_equalIn_agg w (d+1) 70 _ _ hS hp];simp only[Program.fieldsOf,underlying70];go_simp;by_cases h0:a0=b0
 ·skip
  by_cases h1:a1=b1
  ·skip
   by_cases h2:a2=b2
   ·skip
    by_cases h3:a3=b3
    ·skip
     by_cases h4:a4=b4
     ·skip
      by_cases h5:a5=b5
      ·skip
       simp[h0,h1,h2,h3,h4,h5]
      ·simp[h0,h1,h2,h3,h4,h5]
     ·simp[h0,h1,h2,h3,h4]
    ·simp[h0,h1,h2,h3]
   ·simp[h0,h1,h2]
  ·simp[h0,h1]
 ·simp[h0]
@[go_sem] theorem Ad (a0 b0:Bool) (a1 b1:Bool) (a2 b2:Int) (a3 b3:Bool) (a4 b4:Bool) (a5 b5:Int) (w:N):(Op.equalIn 10000 70 (.agg #[vB a0,vB a1,G J a2,vB a3,vB a4,G J a5]) (.agg #[vB b0,vB b1,G J b2,vB b3,vB b4,G J b5])).run prog w= .ok (a0==b0&&(a1==b1&&(a2==b2&&(a3==b3&&(a4==b4&&(a5==b5)))))) w:=vj 9998 a0 b0 a1 b1 a2 b2 a3 b3 a4 b4 a5 b5 w
@[go_sem] theorem yJ:prog.eqGuardType prog.depth 70=M:=by kernel_rfl
theorem vm(d:Nat)(a0 b0:Int)(a1 b1:Int)(w:N):(Op.equalIn (d+2) 27 (.agg #[G J a0,G J a1]) (.agg #[G J b0,G J b1])).run prog w= .ok (a0==b0&&(a1==b1)) w:=by
 have ui:=underlying3;have ci:=Tryz.isAgg3;have zi:=Tryz.sizeOf3;have hS:prog.underlying 27=F (.struct (prog.fieldsOf 27)):=by kernel_rfl
 have hp:prog.stoodInHeld 27=M:=by kernel_rfl
 rw[show d+2=(d+1)+1 from rfl,run_equalIn_agg w (d+1) 27 _ _ hS hp];simp only[Program.fieldsOf,underlying27];go_simp;by_cases h0:a0=b0
 ·skip
  by_cases h1:a1=b1
  ·skip
   simp[h0,h1]
  ·simp[h0,h1]
 ·simp[h0]
@[go_sem] theorem Ae (a0 b0:Int) (a1 b1:Int) (w:N):(Op.equalIn 10000 27 (.agg #[G J a0,G J a1]) (.agg #[G J b0,G J b1])).run prog w= .ok (a0==b0&&(a1==b1)) w:=vm 9998 a0 b0 a1 b1 w
@[go_sem] theorem yK:prog.eqGuardType prog.depth 27=M:=by kernel_rfl
@[go_sem] theorem Af (a0 b0:Bool) (a1 b1:Bool) (a2 b2:Bool) (a3 b3:Bool) (w:N):(Op.equalIn 10000 167 (.agg #[vB a0,vB a1,vB a2,vB a3]) (.agg #[vB b0,vB b1,vB b2,vB b3])).run prog w= .ok (a0==b0&&(a1==b1&&(a2==b2&&(a3==b3)))) w:=by
  have u3:=underlying4;have c3:=Tryz.isAgg4;have z3:=Tryz.sizeOf4;rw[show(10000:Nat)=9999+1 from rfl,Op.equalIn];simp only[Sem.run_bind,run_underlying underlying167,Result.andThen_ok];simp only[Std.Legacy.Range.forIn_eq_forIn_range',Std.Legacy.Range.size,Nat.sub_zero,Nat.add_sub_cancel,Nat.div_one,List.range'_succ,List.range'_zero,List.forIn_cons,List.forIn_nil];go_simp;by_cases h0:a0=b0
  ·skip
   by_cases h1:a1=b1
   ·skip
    by_cases h2:a2=b2
    ·skip
     by_cases h3:a3=b3
     ·skip
      simp[h0,h1,h2,h3]
     ·simp[h0,h1,h2,h3]
    ·simp[h0,h1,h2]
   ·simp[h0,h1]
  ·simp[h0]
@[go_sem] theorem yM:prog.eqGuardType prog.depth 167=M:=by kernel_rfl
@[go_sem] theorem AW (a0 b0:Int) (a1 b1:Int) (a2 b2:Int) (a3 b3:Int) (a4 b4:Int) (a5 b5:Int) (a6 b6:Int) (a7 b7:Int) (w:N):(Op.equalIn 10000 164 (.agg #[G vU a0,G vU a1,G vU a2,G vU a3,G vU a4,G vU a5,G vU a6,G vU a7]) (.agg #[G vU b0,G vU b1,G vU b2,G vU b3,G vU b4,G vU b5,G vU b6,G vU b7])).run prog w= .ok (a0==b0&&(a1==b1&&(a2==b2&&(a3==b3&&(a4==b4&&(a5==b5&&(a6==b6&&(a7==b7)))))))) w:=by
  have u3:=underlying64;have c3:=Tryz.isAgg64;have z3:=Tryz.sizeOf64;rw[show(10000:Nat)=9999+1 from rfl,Op.equalIn];simp only[Sem.run_bind,run_underlying underlying164,Result.andThen_ok];simp only[Std.Legacy.Range.forIn_eq_forIn_range',Std.Legacy.Range.size,Nat.sub_zero,Nat.add_sub_cancel,Nat.div_one,List.range'_succ,List.range'_zero,List.forIn_cons,List.forIn_nil];go_simp;by_cases h0:a0=b0
  ·skip
   by_cases h1:a1=b1
   ·skip
    by_cases h2:a2=b2
    ·skip
     by_cases h3:a3=b3
     ·skip
      by_cases h4:a4=b4
      ·skip
       by_cases h5:a5=b5
       ·skip
        by_cases h6:a6=b6
        ·skip
         by_cases h7:a7=b7
         ·skip
          simp[h0,h1,h2,h3,h4,h5,h6,h7]
         ·simp[h0,h1,h2,h3,h4,h5,h6,h7]
        ·simp[h0,h1,h2,h3,h4,h5,h6]
       ·simp[h0,h1,h2,h3,h4,h5]
      ·simp[h0,h1,h2,h3,h4]
     ·simp[h0,h1,h2,h3]
    ·simp[h0,h1,h2]
   ·simp[h0,h1]
  ·simp[h0]
@[go_sem] theorem Ag:prog.eqGuardType prog.depth 164=M:=by kernel_rfl
def fc(s:Ms):Nat→S:=fun j=>if j % 9=0 then vB (s.tk (j / 9)) else(G vU) (s.wd (j / 9) (j % 9 - 1))
theorem zN(s:Ms)(k:Nat):fc s (k*9)=vB (s.tk k):=by
 unfold fc;rw[if_pos (by omega),show k*9 / 9=k by omega]
theorem zO(s:Ms)(k i:Nat)(h:i<8):fc s (k*9+1+i)=G vU (s.wd k i):=by
 unfold fc;rw[if_neg (by omega),show(k*9+1+i) / 9=k by omega,show(k*9+1+i) % 9 - 1=i by omega]
def gm(l:List Nat):List S:=l.map fun(k:Nat)=>G J (k:Int)
def bO(p g:Nat)(vf:S)(s:Ms)(R:ab):ab:=
 aa p #[.slice (F (W g 0 I)) s.n s.n,vf] 163*(aa g (bo (s.n*9) (fc s)) 166*(ct 3 1 vf s.frees.length (gm s.frees)*R))
def ai(p:Nat)(s:Ms):ab:=ex fun g=>ex fun vf=>bO p g vf s (eY True)
theorem gp(R:ab):eY True*R=R:=by
 funext h
 apply propext;constructor
 ·rintro⟨h1,h2,d,rfl,⟨_,rfl⟩,q⟩
  have:Hpm.union Hpm.emp h2=h2:=by funext b;simp[Hpm.union,Hpm.emp]
  rw[this];exact q
 ·intro q
  exact⟨Hpm.emp,h,fun b=> .inl rfl,by funext b;simp[Hpm.union,Hpm.emp],⟨trivial,rfl⟩,q⟩
theorem dM{p:Nat}{s:Ms}{R:ab}{w:N}(h:Y w (ai p s*R)):∃g vf,Y w (bO p g vf s R):=by
 unfold ai at h;obtain⟨g,h⟩:=aF.1 h;obtain⟨vf,h⟩:=aF.1 h;refine⟨g,vf,?_⟩;unfold bO at h⊢;simpa only[aX,gp] using h
theorem dN{p g:Nat}{vf:S}{s:Ms}{R:ab}{w:N}(h:Y w (bO p g vf s R)):Y w (ai p s*R):=by
 unfold ai;refine aF.2 ⟨g,aF.2 ⟨vf,?_⟩⟩;unfold bO at h⊢;simpa only[aX,gp] using h
theorem oU{s:Ms}{k:Int}(h:¬(0≤k∧k<s.n)):s.has k=M:=by
 unfold cg;by_cases h0:0≤k<;>by_cases h4:k<s.n<;>simp[h0,h4]
 omega
theorem rW{s:Ms}{k:Nat}(h:k<s.n):s.has k=s.tk k:=by
 unfold cg;have h4:(k:Int)<s.n:=by omega
 simp[h]
theorem gq(p g:Nat)(vf:S)(s:Ms)(k:Int)(R:ab)(w:N)(h:Y w (bO p g vf s R)):
  T prog 165 #[.pointer (F (W p 0 I)),.int .i64 k] w (bz (vB (s.has k)) w):=by
 obtain⟨c0,c1⟩:=h.cells2;by_cases h0:0≤k
 ·by_cases h4:k<s.n
  ·obtain⟨k,rfl⟩:=U h0
   have hc:=h.right.tabGet (j:=k*9) (by omega);rw[zN] at hc;have hy:=B (rW (s:=s) (k:=k) (by omega));have hg:=h.right.lt;go_enter func165,ntmps165;go_wp2;go_ret;exact⟨by rw[hy.out];rfl,rfl⟩
  ·have hy:=B (oU (s:=s) (k:=k) (by omega))
   go_enter func165,ntmps165;go_wp2;go_ret;exact⟨by rw[hy.out];rfl,rfl⟩
 ·have hy:=B (oU (s:=s) (k:=k) (by omega))
  go_enter func165,ntmps165;go_wp2;go_ret;exact⟨by rw[hy.out];rfl,rfl⟩
def dO(s:Ms)(g:Nat)(k i:Int):S:=if s.hasW k i then .pointer (F ⟨g,k.toNat*9+1+i.toNat,I⟩) else .pointer I
theorem jb{s:Ms}{k i:Int}:s.hasW k i=O↔s.has k=O∧0≤i∧i<8:=by
 unfold bP;simp
theorem iz(p g:Nat)(vf:S)(s:Ms)(k i:Int)(R:ab)(w:N)(h:Y w (bO p g vf s R)):
  T prog 182 #[.pointer (F (W p 0 I)),.int .i64 k,.int .i64 i] w (bz (dO s g k i) w):=by
 obtain⟨c0,c1⟩:=h.cells2;cases hk:s.has k with
 |false=>
  have hy:=B (show dO s g k i= .pointer I by unfold dO bP;rw[hk];rfl);go_enter func182,ntmps182;go_wp2_with(go_at_call 165;refine(gq p g vf s _ _ _ h).mono ?_;rintro e w' ⟨rfl,rfl⟩)
  go_ret;exact⟨by rw[hy.out];rfl,rfl⟩
 |true=>
  by_cases i0:i<0
  ·have hy:=B (show dO s g k i= .pointer I by unfold dO bP;rw[if_neg];simp;omega)
   go_enter func182,ntmps182;go_wp2_with(go_at_call 165;refine(gq p g vf s _ _ _ h).mono ?_;rintro e w' ⟨rfl,rfl⟩)
   go_ret;exact⟨by rw[hy.out];rfl,rfl⟩
  by_cases i8:8≤i
  ·have hy:=B (show dO s g k i= .pointer I by unfold dO bP;rw[if_neg];simp;omega)
   go_enter func182,ntmps182;go_wp2_with(go_at_call 165;refine(gq p g vf s _ _ _ h).mono ?_;rintro e w' ⟨rfl,rfl⟩)
   go_ret;exact⟨by rw[hy.out];rfl,rfl⟩
  have hk':=bi.1 hk;obtain⟨k0,k1,_⟩:=hk';obtain⟨k,rfl⟩:=U k0;obtain⟨i,rfl⟩:=U (show 0≤i by omega);have hy:=B (show dO s g k i= .pointer (F ⟨g,k*9+1+i,I⟩) by unfold dO;rw[if_pos (jb.2 ⟨hk,by omega,by omega⟩)];simp);have hg:=h.right.lt;go_enter func182,ntmps182;go_wp2_with(go_at_call 165;refine(gq p g vf s _ _ _ h).mono ?_;rintro e w' ⟨rfl,rfl⟩)
  go_ret;exact⟨by rw[hy.out];rfl,rfl⟩
def eh(s:Ms)(k i:Int):Int:=if s.hasW k i then s.wd k.toNat i.toNat else 0
theorem lE{p g:Nat}{vf:S}{s:Ms}{k i:Int}{R:ab}{w:N}(h:Y w (bO p g vf s R))(hw:s.hasW k i=O):
  w.cell? ⟨g,k.toNat*9+1+i.toNat,I⟩=F (G vU (s.wd k.toNat i.toNat)):=by
 obtain⟨hk,i0,i8⟩:=jb.1 hw;obtain⟨k0,k1,_⟩:=bi.1 hk;rw[h.right.tabGet (by omega),zO _ _ _ (by omega)]
theorem wU(s:Ms)(k i:Nat)(v:Int)(hi:i<8)(j:Nat):bT (fc s) (k*9+1+i) (G vU v) j=fc (s.setW k i v) j:=by
 unfold bT fc cf;dsimp only;by_cases h:j=k*9+1+i
 ·subst h
  rw[if_pos rfl,if_neg (by omega),show(k*9+1+i) / 9=k by omega,show(k*9+1+i) % 9 - 1=i by omega,if_pos ⟨rfl,rfl⟩]
 ·rw[if_neg h]
  by_cases h9:j % 9=0
  ·rw[if_pos h9,if_pos h9]
  ·rw[if_neg h9,if_neg h9,if_neg (by omega)]
theorem ki{p g:Nat}{vf:S}{s:Ms}{k i:Nat}{R:ab}{w:N}(h:Y w (bO p g vf s R))(hi:i<8)(v:Int):
  Y (w.setCell ⟨g,k*9+1+i,I⟩ (G vU v)) (bO p g vf (s.setW k i v) R):=
 ((h.p2.tabSet _ _).tabExt fun j _=>wU s k i v hi j).p2
theorem vo(p g:Nat)(vf:S)(s:Ms)(k i:Int)(R:ab)(w:N)(h:Y w (bO p g vf s R)):
  T prog 170 #[.pointer (F (W p 0 I)),.int .i64 k,.int .i64 i] w (bz (.tuple #[G vU (eh s k i),vB (s.hasW k i)]) w):=by
 cases hw:s.hasW k i with
 |true=>
  have hc:=lE h hw;have hy:=B (show eh s k i=s.wd k.toNat i.toNat by unfold eh;rw[if_pos hw]);have hp:dO s g k i= .pointer (F ⟨g,k.toNat*9+1+i.toNat,I⟩):=by unfold dO;rw[if_pos hw]
  clear hw;generalize k.toNat*9+1+i.toNat=o at*
  generalize s.wd k.toNat i.toNat=x at*
  have hg:=h.right.lt;go_enter func170,ntmps170;go_wp2_with(go_at_call 182;refine(iz p g vf s _ _ _ _ h).mono ?_;rintro e w' ⟨rfl,rfl⟩)
  exact al (v:= .tuple #[G vU x,vB O]) (by simp[results,results170,go_sem]) rfl ⟨by rw[hy.out],rfl⟩
 |false=>
  have hy:=B (show eh s k i=0 by unfold eh;rw[hw];rfl);have hp:dO s g k i= .pointer I:=by unfold dO;rw[hw];rfl
  clear hw;go_enter func170,ntmps170;go_wp2_with(go_at_call 182;refine(iz p g vf s _ _ _ _ h).mono ?_;rintro e w' ⟨rfl,rfl⟩)
  exact al (v:= .tuple #[G vU 0,vB M]) (by simp[results,results170,go_sem]) rfl ⟨by rw[hy.out],rfl⟩
def fA(s:Ms)(k i:Int)(v:Int):Ms:=if s.hasW k i then s.setW k.toNat i.toNat v else s
theorem tC(p g:Nat)(vf:S)(s:Ms)(k i v:Int)(R:ab)(w:N)(h:Y w (bO p g vf s R)):
  T prog 154 #[.pointer (F (W p 0 I)),.int .i64 k,.int .i64 i,.int .u64 v] w (cR (vB (s.hasW k i)) (bO p g vf (fA s k i v) R) w):=by
 cases hw:s.hasW k i with
 |true=>
  have hc:=lE h hw;have h2:=ki (k:=k.toNat) (i:=i.toNat) h (by have:=(jb.1 hw).2;omega) v;have hy:=B (show fA s k i v=s.setW k.toNat i.toNat v by unfold fA;rw[if_pos hw]);have hp:dO s g k i= .pointer (F ⟨g,k.toNat*9+1+i.toNat,I⟩):=by unfold dO;rw[if_pos hw]
  clear hw;generalize k.toNat*9+1+i.toNat=o at*
  have hf:=h.right.free o;have hg:=h.right.lt;go_enter func154,ntmps154;go_wp2_with(go_at_call 182;refine(iz p g vf s _ _ _ _ h).mono ?_;rintro e w' ⟨rfl,rfl⟩)
  go_ret;exact⟨rfl,by rw[hy.out];exact h2,ah⟩
 |false=>
  have hy:=B (show fA s k i v=s by unfold fA;rw[hw];rfl);have hp:dO s g k i= .pointer I:=by unfold dO;rw[hw];rfl
  clear hw;go_enter func154,ntmps154;go_wp2_with(go_at_call 182;refine(iz p g vf s _ _ _ _ h).mono ?_;rintro e w' ⟨rfl,rfl⟩)
  go_ret;exact⟨rfl,by rw[hy.out];exact h,V _⟩
def jc(s:Ms)(k i bE:Int):Bool:=s.hasW k i&&(s.wd k.toNat i.toNat==bE)
def iG(s:Ms)(k i bE:Int)(v:Int):Ms:=if jc s k i bE then s.setW k.toNat i.toNat v else s
theorem vp(p g:Nat)(vf:S)(s:Ms)(k i bE v:Int)(R:ab)(w:N)(h:Y w (bO p g vf s R)):
  T prog 164 #[.pointer (F (W p 0 I)),.int .i64 k,.int .i64 i,.int .u64 bE,.int .u64 v] w (cR (vB (jc s k i bE)) (bO p g vf (iG s k i bE v) R) w):=by
 cases hw:s.hasW k i with
 |true=>
  have hc:=lE h hw;have h2:=ki (k:=k.toNat) (i:=i.toNat) h (by have:=(jb.1 hw).2;omega) v;have hp:dO s g k i= .pointer (F ⟨g,k.toNat*9+1+i.toNat,I⟩):=by unfold dO;rw[if_pos hw]
  have hs:jc s k i bE=(s.wd k.toNat i.toNat==bE):=by unfold jc;rw[hw];rfl
  clear hw;generalize hx:s.wd k.toNat i.toNat=x at*
  clear hx;have hf:=h.right.free (k.toNat*9+1+i.toNat);have hg:=h.right.lt;generalize k.toNat*9+1+i.toNat=o at*
  cases he:(x==bE) with
  |true=>
   have hy:=B (show iG s k i bE v=s.setW k.toNat i.toNat v by unfold iG;rw[hs,he];rfl);have hz:=B (hs.trans he);clear hs;go_enter func164,ntmps164;go_wp2_with(go_at_call 182;refine(iz p g vf s _ _ _ _ h).mono ?_;rintro e w' ⟨rfl,rfl⟩)
   go_ret;exact⟨by rw[hz.out];rfl,by rw[hy.out];exact h2,ah⟩
  |false=>
   have hy:=B (show iG s k i bE v=s by unfold iG;rw[hs,he];rfl);have hz:=B (hs.trans he);clear hs;go_enter func164,ntmps164;go_wp2_with(go_at_call 182;refine(iz p g vf s _ _ _ _ h).mono ?_;rintro e w' ⟨rfl,rfl⟩)
   go_ret;exact⟨by rw[hz.out];rfl,by rw[hy.out];exact h,V _⟩
 |false=>
  have hz:=B (show jc s k i bE=M by unfold jc;rw[hw];rfl);have hy:=B (show iG s k i bE v=s by unfold iG;rw[hz.out];rfl);have hp:dO s g k i= .pointer I:=by unfold dO;rw[hw];rfl
  clear hw;go_enter func164,ntmps164;go_wp2_with(go_at_call 182;refine(iz p g vf s _ _ _ _ h).mono ?_;rintro e w' ⟨rfl,rfl⟩)
  go_ret;exact⟨by rw[hz.out];rfl,by rw[hy.out];exact h,V _⟩
theorem vq(p g:Nat)(vf:S)(s:Ms)(R:ab)(w:N)(h:Y w (bO p g vf s R)):
  T prog 75 #[.pointer (F (W p 0 I))] w (bz (G J (s.frees.length:Nat)) w):=by
 obtain⟨A,c,rfl⟩:=h.right.right.rowForm;obtain⟨c0,c1⟩:=h.cells2;go_enter func75,ntmps75;go_wp2;go_ret;exact⟨rfl,rfl⟩
theorem qh{l:List Nat}{j k:Nat}(h:l[j]? =F k):(gm l)[j]? =F (G J (k:Int)):=by simp[gm,h]
theorem wV(s:Ms)(k:Nat)(j:Nat):
  bT (bT (bT (bT (bT (bT (bT (bT (bT (fc s) (k*9) (vB O)) (k*9+1) (G vU 0)) (k*9+2) (G vU 0)) (k*9+3) (G vU 0)) (k*9+4) (G vU 0)) (k*9+5) (G vU 0)) (k*9+6) (G vU 0)) (k*9+7) (G vU 0)) (k*9+8) (G vU 0) j=fc (s.take k) j:=by
 unfold bT fc bA;dsimp only;unfold bT;by_cases h:j / 9=k
 ·by_cases h0:j % 9=0
  ·rw[if_neg (by omega),if_neg (by omega),if_neg (by omega),if_neg (by omega),if_neg (by omega),if_neg (by omega),if_neg (by omega),if_neg (by omega),if_pos (by omega),if_pos h0,if_pos h]
  ·rw[if_neg h0,if_neg h0,if_pos h]
   by_cases h8:j=k*9+8
   ·rw[if_pos h8]
   by_cases h7:j=k*9+7
   ·rw[if_neg h8,if_pos h7]
   by_cases h6:j=k*9+6
   ·rw[if_neg h8,if_neg h7,if_pos h6]
   by_cases h5:j=k*9+5
   ·rw[if_neg h8,if_neg h7,if_neg h6,if_pos h5]
   by_cases h4:j=k*9+4
   ·rw[if_neg h8,if_neg h7,if_neg h6,if_neg h5,if_pos h4]
   by_cases h3:j=k*9+3
   ·rw[if_neg h8,if_neg h7,if_neg h6,if_neg h5,if_neg h4,if_pos h3]
   by_cases h2:j=k*9+2
   ·rw[if_neg h8,if_neg h7,if_neg h6,if_neg h5,if_neg h4,if_neg h3,if_pos h2]
   by_cases h1:j=k*9+1
   ·rw[if_neg h8,if_neg h7,if_neg h6,if_neg h5,if_neg h4,if_neg h3,if_neg h2,if_pos h1]
   omega
 ·rw[if_neg (by omega),if_neg (by omega),if_neg (by omega),if_neg (by omega),if_neg (by omega),if_neg (by omega),if_neg (by omega),if_neg (by omega),if_neg (by omega),if_neg h,if_neg h]
theorem vr(p g:Nat)(vf:S)(s:Ms)(k:Nat)(R:ab)(w:N)(h:Y w (bO p g vf s R))(hk:s.top=F k)(hn:k<s.n):
  T prog 52 #[.pointer (F (W p 0 I))] w fun e w'=>∃vf',cR (G J k) (bO p g vf' (s.take k) R) w e w':=by
 have hfr:=ca s k hk;obtain⟨m,hm⟩:∃m,s.frees.length=m+1:=⟨(s.take k).frees.length,by rw[←hfr];simp⟩;have hm':(s.take k).frees.length =m:=by rw[←hfr] at hm;simpa using hm
 have hlast:s.frees[m]? =F k:=by rw[←hfr,←hm'];simp
 have hints:(gm s.frees).take m=gm (s.take k).frees :=by rw[←hfr,←hm'];simp[gm]
 obtain⟨c0,c1⟩:=h.cells2;have e0:=h.lt;have f1:=h.free 1;have h1:Y w (ct 3 1 vf (m+1) (gm s.frees)*(aa p #[.slice (F (W g 0 I)) s.n s.n,vf] 163*(aa g (bo (s.n*9) (fc s)) 166*R))):=by
  have:=h;unfold bO at this;rw[hm] at this;exact this.eq (by(simp only[aX,ay,cF]))
 obtain⟨gf,cap,rfl,hcap,hcap2,hgf,hx⟩:=h1.rowHead;have hx':=hx _ (qh hlast);have h2:=h1.rowPop.p2.set 1 (.slice (F (W gf 0 I)) m cap);have e1:=h.right.lt;have hm63:m+1≤9223372036854775807:=by unfold maxLen at hcap2;omega
 have h3:=h2.a2.p2;have hg1:=h3.tabGet (j:=k*9) (by omega);have t1:=h3.tabGet (j:=k*9+1) (by omega);have z1:=h3.free (k*9+1);have t2:=h3.tabGet (j:=k*9+2) (by omega);have z2:=h3.free (k*9+2);have t3:=h3.tabGet (j:=k*9+3) (by omega);have z3:=h3.free (k*9+3);have t4:=h3.tabGet (j:=k*9+4) (by omega);have z4:=h3.free (k*9+4);have t5:=h3.tabGet (j:=k*9+5) (by omega);have z5:=h3.free (k*9+5);have t6:=h3.tabGet (j:=k*9+6) (by omega);have z6:=h3.free (k*9+6);have t7:=h3.tabGet (j:=k*9+7) (by omega);have z7:=h3.free (k*9+7);have t8:=h3.tabGet (j:=k*9+8) (by omega);have z8:=h3.free (k*9+8);have z0:=h3.free (k*9);have h4:=((((((((h3.tabSet (k*9) (vB O)).tabSet (k*9+1) (G vU 0)).tabSet (k*9+2) (G vU 0)).tabSet (k*9+3) (G vU 0)).tabSet (k*9+4) (G vU 0)).tabSet (k*9+5) (G vU 0)).tabSet (k*9+6) (G vU 0)).tabSet (k*9+7) (G vU 0)).tabSet (k*9+8) (G vU 0);go_enter func52,ntmps52;go_wp2;go_ret;refine⟨.slice (F (W gf 0 I)) m cap,rfl,?_,(((((((((((V w).set _ _).set _ _).set _ _).set _ _).set _ _).set _ _).set _ _).set _ _).set _ _).set _ _)⟩;have h5:=(h4.tabExt (f':=fc (s.take k)) fun j _=>wV s k j).p2.a1.in2;unfold bO;rw[hm',←hints];exact h5
theorem tD(p g:Nat)(vf:S)(s:Ms)(R:ab)(w:N)(h:Y w (bO p g vf s R))(hk:s.top=I):
  T prog 52 #[.pointer (F (W p 0 I))] w (bz (G J (-1)) w):=by
 have he:s.frees=[]:=by rw[←b9] at hk;simpa using hk
 obtain⟨c0,c1⟩:=h.cells2;obtain⟨A,c,rfl⟩:=h.right.right.rowForm;have hn:s.frees.length=0:=by rw[he];rfl
 rw[hn] at c1;go_enter func52,ntmps52;go_wp2;go_ret;exact⟨rfl,rfl⟩
theorem fK:jD prog 3 (G J 0) 1 8:=⟨by kernel_rfl,rfl,by omega⟩
theorem wW(s:Ms)(k:Nat)(j:Nat):bT (fc s) (k*9) (vB M) j=fc (s.give k) j:=by
 unfold bT fc cc;dsimp only;unfold bT;by_cases h:j=k*9
 ·rw[if_pos h,if_pos (by omega),if_pos (by omega)]
 ·rw[if_neg h]
  by_cases h0:j % 9=0
  ·rw[if_pos h0,if_pos h0,if_neg (by omega)]
  ·rw[if_neg h0,if_neg h0]
theorem wX(p g:Nat)(vf:S)(s:Ms)(k:Int)(R:ab)(w:N)(h:Y w (bO p g vf s R))(hk:s.has k=M):
  T prog 111 #[.pointer (F (W p 0 I)),.int .i64 k] w (bz (vB M) w):=by
 go_enter func111,ntmps111;go_wp2_with(go_at_call 165;refine(gq p g vf s _ _ _ h).mono ?_;rintro e w' ⟨rfl,rfl⟩)
 go_ret;exact⟨rfl,rfl⟩
theorem vt(p g:Nat)(vf:S)(s:Ms)(k:Nat)(R:ab)(w:N)(h:Y w (bO p g vf s R))(hk:s.has k=O)(hlen:s.frees.length<1000000):
  T prog 111 #[.pointer (F (W p 0 I)),.int .i64 k] w fun e w'=>∃vf',cR (vB O) (bO p g vf' (s.give k) R) w e w':=by
 obtain⟨k0,k1,_⟩:=bi.1 hk;obtain⟨c0,c1⟩:=h.cells2;obtain⟨A,c,rfl⟩:=h.right.right.rowForm;have e0:=h.lt;have e1:=h.right.lt;have hc:=h.right.tabGet (j:=k*9) (by omega);have hf:=h.right.free (k*9);have f1:=h.free 1;have hne:=h.ne;have h2:=((h.p2.tabSet (k*9) (vB M)).tabExt (f':=fc (s.give k)) fun j _=>wW s k j);have h3:Y (w.setCell ⟨g,k*9,I⟩ (vB M)) (ct 3 1 (.slice A s.frees.length c) s.frees.length (gm s.frees)*(aa p #[.slice (F (W g 0 I)) s.n s.n,.slice A s.frees.length c] 163*(aa g (bo (s.n*9) (fc (s.give k))) 166*R))):=h2.eq (by(simp only[aX,ay,cF]));have d0:=h3.right.cells2.1;have d1:=h3.right.cells2.2;have e2:=h3.right.lt;have hrow:=h3.alloc (.cells #[G J k] 3);have hlen':(s.give k).frees.length =s.frees.length+1:=by rw[bk];simp
 have hints:gm (s.give k).frees =gm s.frees++[G J (k:Int)]:=by rw[bk];simp[gm]
 have hnews:=dU (w.setCell ⟨g,k*9,I⟩ (vB M)) (G J k) 3;rw[show(w.setCell ⟨g,k*9,I⟩ (vB M)).heap.size =w.heap.size by simp[World.setCell]] at hnews;have HT:=fun k'=>gq p g _ s k' _ _ h;generalize s.frees.length=m at*
 have hL:=B hlen';clear h h2 hlen';go_enter func111,ntmps111;go_wp2_with(first|(go_at_call 165;refine(HT _).mono ?_;rintro e w' ⟨rfl,rfl⟩)|(at_builtin;refine aV rfl _ _ 45 rfl underlying45 fK _ _ _ rfl hrow (W w.heap.size 0 I) 1 1 [G J k] rfl rfl hnews ?c1 ?c2 ?c3 ?_))
 case c1=>intro u hu;simp at hu;subst hu;rfl
 case c2=>unfold maxLen;omega
 case c3=>omega
 intro v' w2 h' x';obtain⟨A',c',rfl⟩:=h'.rowForm;have g0:=h'.right.lt;have g1:=h'.right.free 1;have g2:=h'.right.cells2.1;have g3:=h'.right.cells2.2;have h5:=(h'.p2.set 1 (.slice A' (m+1) c')).in2;clear hrow d0 d1 e2 h3;go_wp2;go_ret;refine⟨.slice A' (m+1) c',rfl,?_,ah⟩;unfold bO;rw[hL.out,hints];exact h5
def tableZero:S:= .agg #[vB M,G vU 0,G vU 0,G vU 0,G vU 0,G vU 0,G vU 0,G vU 0,G vU 0]
theorem tE:(prog.info? 166).map (fun i=>(i.zero,i.size,i.bytes))=F (F tableZero,9,72):=by kernel_rfl
theorem AL(j:Nat):j % 9=0∨j % 9=1∨j % 9=2∨j % 9=3∨j % 9=4∨j % 9=5∨j % 9=6∨j % 9=7∨j % 9=8:=by omega
theorem yN(n j:Nat):tableZero.cells[j % 9]! =fc (Z n) j:=by
 unfold fc Z;dsimp only;rcases AL j with h|h|h|h|h|h|h|h|h<;>rw[h]<;>rfl
theorem rr(n k:Nat)(h:k<n):(List.range' (n - (k+1)) (k+1)).reverse =(List.range' (n - k) k).reverse ++[n - 1 - k]:=by
 rw[Ms.range'_rev,show n - (k+1)+1=n - k by omega,show n - (k+1)=n - 1 - k by omega]
theorem yO(n:Int)(w:N)(h:¬(0≤n∧n≤128)):
  T prog 51 #[.int .i64 n] w (bs (.tuple #[.pointer I,.agg #[G J 1,G J (-1)]]) w):=by
 have b2:=ar (af (aT w) #[G J 1,G J (-1)] 27).right ((V w).alloc (.cells #[G J 1,G J (-1)] 27));by_cases h0:n<0
 ·go_enter func51,ntmps51
  go_wp2;exact al (v:= .tuple #[.pointer I,.agg #[G J 1,G J (-1)]]) (by simp[results,results51,go_sem]) rfl ⟨rfl,b2⟩
 ·have h8:128<n:=by omega
  go_enter func51,ntmps51;go_wp2;exact al (v:= .tuple #[.pointer I,.agg #[G J 1,G J (-1)]]) (by simp[results,results51,go_sem]) rfl ⟨rfl,b2⟩
theorem qi(n:Nat)(hn:n≤128)(w:N):(Instr.makeSlice 161 (.int .i64 (n:Int)) (.int .i64 (n:Int))).run prog w= .ok (.slice (F (W w.heap.size 0 I)) n n) (w.alloc (.cells (bo (n*9) (fc (Z n))) 166)):=by
 rw[gV (P:=prog) 161 166 tableZero 9 72 underlying161 tE rfl n (by omega) (by omega) w,jF (fun j _=>yN n j)]
theorem rt(n:Nat)(hn:n≤128)(R:ab)(w:N)(h:Y w R):
  T prog 51 #[.int .i64 n] w fun e w'=>∃p g vf,cR (.tuple #[.pointer (F (W p 0 I)),.agg #[G J 0,G J 0]]) (bO p g vf (Z n) R) w e w':=by
 have hmk:=qi n hn;have h1:=h.new #[G J 0,G J 0] 27;have h2:=h1.new (bo (n*9) (fc (Z n))) 166;have h3:=h2.new #[.slice (F ⟨w.heap.size+1,0,I⟩) n n,.slice I 0 0] 163;have x3:=(((V w).alloc (.cells #[G J 0,G J 0] 27)).alloc (.cells (bo (n*9) (fc (Z n))) 166)).alloc (.cells #[.slice (F ⟨w.heap.size+1,0,I⟩) n n,.slice I 0 0] 163);simp only[ag] at h2 h3;have h4:Y (((w.alloc (.cells #[G J 0,G J 0] 27)).alloc (.cells (bo (n*9) (fc (Z n))) 166)).alloc (.cells #[.slice (F ⟨w.heap.size+1,0,I⟩) n n,.slice I 0 0] 163))
   (ct 3 1 (.slice I 0 0) 0 (gm (List.range' (n - 0) 0).reverse)*(aa (w.heap.size+1+1) #[.slice (F ⟨w.heap.size+1,0,I⟩) n n,.slice I 0 0] 163*(aa (w.heap.size+1) (bo (n*9) (fc (Z n))) 166*(aa w.heap.size #[G J 0,G J 0] 27*R)))):=
  bL h3
 clear h1 h2 h3;go_enter func51,ntmps51;go_wp2;go_loopw [18] (fun t wz=>∃(j:Nat) (A:Option bG) (c:Nat),j≤n∧t=G J j∧
   Y wz (ct 3 1 (.slice A j c) j (gm (List.range' (n - j) j).reverse)*(aa (w.heap.size+1+1) #[.slice (F ⟨w.heap.size+1,0,I⟩) n n,.slice A j c] 163*(aa (w.heap.size+1) (bo (n*9) (fc (Z n))) 166*(aa w.heap.size #[G J 0,G J 0] 27*R))))∧Ext w wz)
  (fun t _=>n - (intOf t).toNat)
 case atStart=>exact⟨0,I,0,by omega,rfl,h4,x3⟩
 case round=>
  obtain⟨j,A,c,hj,rfl,hz,hx⟩:=hrel;clear h4 x3;obtain⟨c0,c1⟩:=hz.right.cells2;have e0:=hz.right.lt;have e1:=hz.r3.lt;by_cases hjn:j<n
  ·have hp:=B (rr n j hjn)
   have hrow:=hz.alloc (.cells #[G J (((n - 1 - j:Nat)):Int)] 3);have hv:(((n - 1 - j:Nat)):Int)=(n:Int) - 1 - j:=by omega
   rw[hv] at hrow;go_wp2_with(at_builtin;refine aV rfl _ _ 45 rfl underlying45 fK _ _ _ rfl hrow (W wr.heap.size 0 I) 1 1 [G J ((n:Int) - 1 - j)] rfl rfl (dU _ _ _) ?c1 ?c2 ?c3 ?_)
   case c1=>intro u hu;simp at hu;subst hu;rfl
   case c2=>unfold maxLen;omega
   case c3=>omega
   intro v' w2 h' x';obtain⟨A',c',rfl⟩:=h'.rowForm;have g0:=h'.right.lt;have g1:=h'.right.free 1;have g2:=h'.right.cells2.1;have g3:=h'.right.cells2.2;have h5:=(h'.p2.set 1 (.slice A' (j+1) c')).p2;go_wp2;go_roundw
   case rel=>
    refine⟨j+1,A',c',by omega,by go_num,?_,ah⟩;rw[hp.out];simpa [gm,hv] using h5
   case measure=>simp[intOf];omega
  ·obtain rfl:j=n:=by omega
   have h6:Y wr (aa w.heap.size #[G J 0,G J 0] 27*(aa (w.heap.size+1+1) #[.slice (F ⟨w.heap.size+1,0,I⟩) j j,.slice A j c] 163*(aa (w.heap.size+1) (bo (j*9) (fc (Z j))) 166*(ct 3 1 (.slice A j c) j (gm (List.range' (j - j) j).reverse)*R)))):=hz.eq (by(simp only[aX,ay,cF]));have f0:=h6.free 0;have f1:=h6.free 1;obtain⟨d0,d1⟩:=h6.cells2;have h7:=(h6.set 0 (G J 0)).set 1 (G J 0);obtain⟨k0,k1⟩:=h7.cells2;have h8:=h7.right;have hfr:(Z j).frees =(List.range' (j - j) j).reverse :=by rw[Ms.frees_new,Nat.sub_self]
   have HF:=B hfr;clear hfr;go_wp2;refine al (v:= .tuple #[.pointer (F ⟨w.heap.size+1+1,0,I⟩),.agg #[G J 0,G J 0]]) (by simp[results,results51,go_sem,d0,d1]) rfl ⟨w.heap.size+1+1,w.heap.size+1,.slice A j c,rfl,?_,ah⟩;unfold bO;rw[HF.out];have e:(List.range' (j - j) j).reverse.length =j:=by simp
   rw[e];exact h8
def wc(s:Ms):Nat→S:=fun j=>G vU (s.wd (j / 8) (j % 8))
def tc(s:Ms):Nat→S:=fun j=>vB (s.tk j)
def dj(q gw gi:Nat)(vk:S)(s:Ms)(R:ab):ab:=
 aa q #[.slice (F (W gw 0 I)) s.n s.n,.slice (F (W gi 0 I)) s.n s.n,vk,G J (s.next:Nat)] 141*
  (aa gw (bo (s.n*8) (wc s)) 164*(aa gi (bo s.n (tc s)) 4*(ct 3 1 vk s.back.length (gm s.back)*R)))
theorem jr(q gw gi:Nat)(vk:S)(s:Ms)(k:Int)(R:ab)(w:N)(h:Y w (dj q gw gi vk s R)):
  T prog 119 #[.pointer (F (W q 0 I)),.int .i64 k] w (bz (vB (s.has k)) w):=by
 obtain⟨c0,c1,c2,c3⟩:=h.cells4;by_cases h0:0≤k
 ·by_cases h4:k<s.n
  ·obtain⟨k,rfl⟩:=U h0
   have hc:w.cell? (W gi k I)=F (vB (s.tk k)):=h.right.right.tabGet (j:=k) (by omega);have hy:=B (rW (s:=s) (k:=k) (by omega));have hg:=h.right.right.lt;go_enter func119,ntmps119;go_wp2;go_ret;exact⟨by rw[hy.out];rfl,rfl⟩
  ·have hy:=B (oU (s:=s) (k:=k) (by omega))
   go_enter func119,ntmps119;go_wp2;go_ret;exact⟨by rw[hy.out];rfl,rfl⟩
 ·have hy:=B (oU (s:=s) (k:=k) (by omega))
  go_enter func119,ntmps119;go_wp2;go_ret;exact⟨by rw[hy.out];rfl,rfl⟩
theorem qj(q gw gi:Nat)(vk:S)(s:Ms)(R:ab)(w:N)(h:Y w (dj q gw gi vk s R))(hle:s.next≤s.n)(hn:s.n≤1000)(hb:s.back.length≤1000000):
  T prog 26 #[.pointer (F (W q 0 I))] w (bs (G J (s.frees.length:Nat)) w):=by
 obtain⟨A,c,rfl⟩:=h.r3.rowForm;obtain⟨c0,c1,c2,c3⟩:=h.cells4;have v0:=ae c0;have v1:=ae c1;have v2:=ae c2;have v3:=ae c3;have hy:=B (show((s.frees.length:Nat):Int)=s.back.length+s.n - s.next by rw[bB];omega);go_enter func26,ntmps26;go_wp2;refine au (by kernel_rfl) (by kernel_rfl) ?_;repeat(first|go_big_quiet_step (fail)|quiet_step (fail))
 refine wpQuiet_nil ?_;intro _ hw';obtain⟨uq,hw''⟩:=hw';subst hw'';go_wp2;go_ret;exact⟨by rw[hy.out];rfl,aE _ _⟩
theorem rX(s:Ms)(k j:Nat):bT (tc s) k (vB O) j=tc (s.take k) j:=by
 unfold bT tc bA;dsimp only;unfold bT;by_cases h:j=k
 ·rw[if_pos h,if_pos h]
 ·rw[if_neg h,if_neg h]
theorem rY(s:Ms)(k:Nat)(j:Nat):
  bT (bT (bT (bT (bT (bT (bT (bT (wc s) (k*8) (G vU 0)) (k*8+1) (G vU 0)) (k*8+2) (G vU 0)) (k*8+3) (G vU 0)) (k*8+4) (G vU 0)) (k*8+5) (G vU 0)) (k*8+6) (G vU 0)) (k*8+7) (G vU 0) j=wc (s.take k) j:=by
 unfold bT wc bA;dsimp only;by_cases h:j / 8=k
 ·rw[if_pos h]
  by_cases h7:j=k*8+7
  ·rw[if_pos h7]
  by_cases h6:j=k*8+6
  ·rw[if_neg h7,if_pos h6]
  by_cases h5:j=k*8+5
  ·rw[if_neg h7,if_neg h6,if_pos h5]
  by_cases h4:j=k*8+4
  ·rw[if_neg h7,if_neg h6,if_neg h5,if_pos h4]
  by_cases h3:j=k*8+3
  ·rw[if_neg h7,if_neg h6,if_neg h5,if_neg h4,if_pos h3]
  by_cases h2:j=k*8+2
  ·rw[if_neg h7,if_neg h6,if_neg h5,if_neg h4,if_neg h3,if_pos h2]
  by_cases h1:j=k*8+1
  ·rw[if_neg h7,if_neg h6,if_neg h5,if_neg h4,if_neg h3,if_neg h2,if_pos h1]
  by_cases h0:j=k*8
  ·rw[if_neg h7,if_neg h6,if_neg h5,if_neg h4,if_neg h3,if_neg h2,if_neg h1,if_pos h0]
  omega
 ·rw[if_neg (by omega),if_neg (by omega),if_neg (by omega),if_neg (by omega),if_neg (by omega),if_neg (by omega),if_neg (by omega),if_neg (by omega),if_neg h]
theorem oV(q gw gi:Nat)(vk:S)(s:Ms)(R:ab)(w:N)(h:Y w (dj q gw gi vk s R))(hk:s.top=I):
  T prog 57 #[.pointer (F (W q 0 I))] w (bs (G J (-1)) w):=by
 have hb:s.back=[]∧s.n≤s.next:=by
  unfold ck at hk;cases hl:s.back.getLast? with
  |some x=>rw[hl] at hk;cases hk
  |none=>
   rw[hl] at hk;simp only at hk;split at hk
   ·cases hk
   ·exact⟨by simpa using hl,by omega⟩
 obtain⟨hb,hle⟩:=hb;obtain⟨A,c,rfl⟩:=h.r3.rowForm;have hn:s.back.length=0:=by rw[hb];rfl
 obtain⟨c0,c1,c2,c3⟩:=h.cells4;rw[hn] at c2;have v0:=ae c0;have v1:=ae c1;have v3:=ae c3;go_enter func57,ntmps57;go_wp2;refine au (by kernel_rfl) (by kernel_rfl) ?_;repeat(first|go_big_quiet_step (fail)|quiet_step (fail))
 refine wpQuiet_nil ?_;intro _ hw';obtain⟨uq,hw''⟩:=hw';subst hw'';go_wp2;go_ret;exact⟨rfl,aE _ _⟩
theorem oW(q gw gi:Nat)(vk:S)(s:Ms)(k:Nat)(R:ab)(w:N)(h:Y w (dj q gw gi vk s R))(hk:s.back.getLast?=F k)(hn:k<s.n):
  T prog 57 #[.pointer (F (W q 0 I))] w fun e w'=>∃vk',cR (G J k) (dj q gw gi vk' (s.take k) R) w e w':=by
 have hne:s.back≠[]:=by rintro e;rw[e] at hk;cases hk
 have hfr:=dl hk;have hnx:(s.take k).next =s.next:=by simp[bA,hne]
 have hbk:(s.take k).back =s.back.dropLast:=rfl;obtain⟨m,hm⟩:∃m,s.back.length=m+1:=⟨s.back.dropLast.length,by rw[←hfr];simp⟩;have hm':s.back.dropLast.length=m:=by rw[←hfr] at hm;simpa using hm
 have hlast:s.back[m]? =F k:=by rw[←hfr,←hm'];simp
 have hints:(gm s.back).take m=gm s.back.dropLast:=by
  have e1:gm s.back=gm s.back.dropLast++[G J (k:Int)]:=by rw[←hfr];simp[gm]
  rw[e1,←hm'];simp[gm]
 obtain⟨c0,c1,c2,c3⟩:=h.cells4;have e0:=h.lt;have f2:=h.free 2;have h1:Y w (ct 3 1 vk (m+1) (gm s.back)*(aa q #[.slice (F (W gw 0 I)) s.n s.n,.slice (F (W gi 0 I)) s.n s.n,vk,G J (s.next:Nat)] 141*
   (aa gw (bo (s.n*8) (wc s)) 164*(aa gi (bo s.n (tc s)) 4*R)))):=by
  have:=h;unfold dj at this;rw[hm] at this;exact this.eq (by(simp only[aX,ay,cF]))
 have n1:=h.ne;have n2:q≠gi:=h.in2.ne;have n3:gw≠gi:=h.right.ne;obtain⟨gb,cap,rfl,hcap,hcap2,hgb,hx⟩:=h1.rowHead;have hx':=hx _ (qh hlast);have hm63:m+1≤9223372036854775807:=by unfold maxLen at hcap2;omega
 have h2:=h1.rowPop.p2.set 2 (.slice (F (W gb 0 I)) m cap);have h3:=h2.a2.p2.a2.p2;have hg:=h3.lt;have i0:=h3.tabGet (j:=k) hn;have i1:=h3.free k;have hW:=((h3.tabSet k (vB O)).tabExt (f':=tc (s.take k)) fun j _=>rX s k j).p2.a1;have e1:=hW.lt;have t0:=hW.tabGet (j:=k*8) (by omega);have z0:=hW.free (k*8);have t1:=hW.tabGet (j:=k*8+1) (by omega);have z1:=hW.free (k*8+1);have t2:=hW.tabGet (j:=k*8+2) (by omega);have z2:=hW.free (k*8+2);have t3:=hW.tabGet (j:=k*8+3) (by omega);have z3:=hW.free (k*8+3);have t4:=hW.tabGet (j:=k*8+4) (by omega);have z4:=hW.free (k*8+4);have t5:=hW.tabGet (j:=k*8+5) (by omega);have z5:=hW.free (k*8+5);have t6:=hW.tabGet (j:=k*8+6) (by omega);have z6:=hW.free (k*8+6);have t7:=hW.tabGet (j:=k*8+7) (by omega);have z7:=hW.free (k*8+7);have h4:=(((((((hW.tabSet (k*8) (G vU 0)).tabSet (k*8+1) (G vU 0)).tabSet (k*8+2) (G vU 0)).tabSet (k*8+3) (G vU 0)).tabSet (k*8+4) (G vU 0)).tabSet (k*8+5) (G vU 0)).tabSet (k*8+6) (G vU 0)).tabSet (k*8+7) (G vU 0);have h5:=(h4.tabExt (f':=wc (s.take k)) fun j _=>rY s k j).p2.a1.in2.in3;clear h1 h2 h4;go_enter func57,ntmps57;go_wp2;go_ret;refine⟨.slice (F (W gb 0 I)) m cap,rfl,?_,((((((((((V w).set _ _).set _ _).set _ _).set _ _).set _ _).set _ _).set _ _).set _ _).set _ _).set _ _⟩;unfold dj;rw[hnx,hbk,hm',←hints];exact h5
theorem oX(q gw gi:Nat)(vk:S)(s:Ms)(R:ab)(w:N)(h:Y w (dj q gw gi vk s R))(hb:s.back=[])(hn:s.next<s.n)(hn2:s.n≤1000):
  T prog 57 #[.pointer (F (W q 0 I))] w fun e w'=>∃vk',cR (G J (s.next:Nat)) (dj q gw gi vk' (s.take s.next) R) w e w':=by
 have hnx:(s.take s.next).next =s.next+1:=by simp[bA,hb]
 have hbk:(s.take s.next).back =[]:=by simp[bA,hb]
 obtain⟨A,c,rfl⟩:=h.r3.rowForm;unfold dj at h;rw[hb] at h;dsimp only[List.length_nil] at h;obtain⟨c0,c1,c2,c3⟩:=h.cells4;have v0:=ae c0;have v1:=ae c1;have v3:=ae c3;go_enter func57,ntmps57;go_wp2;refine au (by kernel_rfl) (by kernel_rfl) ?_;repeat(first|go_big_quiet_step (fail)|quiet_step (fail))
 refine wpQuiet_nil ?_;intro _ hw';obtain⟨uq,hw''⟩:=hw';subst hw'';have hv:=h.via uq;have xv:=(V w).below (aE w uq);generalize gU w uq=w1 at*
 clear v0 v1 v3 c0 c1 c2 c3 h;obtain⟨c0,c1,c2,c3⟩:=hv.cells4;have e0:=hv.lt;have f3:=hv.free 3;have n1:=hv.ne;have n2:q≠gi:=hv.in2.ne;have n3:gw≠gi:=hv.right.ne;have h2:=hv.set 3 (G J ((s.next+1:Nat):Int));rw[show(((s.next+1:Nat)):Int)=(s.next:Int)+1 by omega] at h2;have h3:=h2.in2.p2;have hg:=h3.lt;have i0:=h3.tabGet (j:=s.next) hn;have i1:=h3.free s.next;have hW:=((h3.tabSet s.next (vB O)).tabExt (f':=tc (s.take s.next)) fun j _=>rX s s.next j).in2.p2;have e1:=hW.lt;have t0:=hW.tabGet (j:=s.next*8) (by omega);have z0:=hW.free (s.next*8);have t1:=hW.tabGet (j:=s.next*8+1) (by omega);have z1:=hW.free (s.next*8+1);have t2:=hW.tabGet (j:=s.next*8+2) (by omega);have z2:=hW.free (s.next*8+2);have t3:=hW.tabGet (j:=s.next*8+3) (by omega);have z3:=hW.free (s.next*8+3);have t4:=hW.tabGet (j:=s.next*8+4) (by omega);have z4:=hW.free (s.next*8+4);have t5:=hW.tabGet (j:=s.next*8+5) (by omega);have z5:=hW.free (s.next*8+5);have t6:=hW.tabGet (j:=s.next*8+6) (by omega);have z6:=hW.free (s.next*8+6);have t7:=hW.tabGet (j:=s.next*8+7) (by omega);have z7:=hW.free (s.next*8+7);have h4:=(((((((hW.tabSet (s.next*8) (G vU 0)).tabSet (s.next*8+1) (G vU 0)).tabSet (s.next*8+2) (G vU 0)).tabSet (s.next*8+3) (G vU 0)).tabSet (s.next*8+4) (G vU 0)).tabSet (s.next*8+5) (G vU 0)).tabSet (s.next*8+6) (G vU 0)).tabSet (s.next*8+7) (G vU 0);have h5:=(h4.tabExt (f':=wc (s.take s.next)) fun j _=>rY s s.next j);clear h2 h4 h3;go_wp2;go_ret;refine⟨.slice A 0 c,rfl,?_,((((((((((xv.set _ _).set _ _).set _ _).set _ _).set _ _).set _ _).set _ _).set _ _).set _ _).set _ _)⟩;unfold dj;rw[hnx,hbk];have h6:=h5.in2.p2;exact h6
theorem qk(q gw gi:Nat)(vk:S)(s:Ms)(k:Nat)(R:ab)(w:N)(h:Y w (dj q gw gi vk s R))(i:s.Inv)(hn2:s.n≤1000)(hk:s.top=F k):
  T prog 57 #[.pointer (F (W q 0 I))] w fun e w'=>∃vk',cR (G J k) (dj q gw gi vk' (s.take k) R) w e w':=by
 have hlt:=cd i hk;cases hb:s.back.getLast? with
 |some x=>
  have:x=k:=by unfold ck at hk;rw[hb] at hk;simpa using hk
  subst this;exact oW q gw gi vk s x R w h hb hlt.1
 |none=>
  have he:s.back=[]:=by simpa using hb
  have:s.next<s.n∧s.next=k:=by
   unfold ck at hk;rw[hb] at hk;simp only at hk;split at hk
   ·exact⟨by assumption,by simpa using hk⟩
   ·cases hk
  obtain⟨h1,rfl⟩:=this;exact oX q gw gi vk s R w h he h1 hn2
theorem wY(s:Ms)(k j:Nat):bT (tc s) k (vB M) j=tc (s.give k) j:=by
 unfold bT tc cc;dsimp only;unfold bT;by_cases h:j=k
 ·rw[if_pos h,if_pos h]
 ·rw[if_neg h,if_neg h]
theorem ru(q gw gi:Nat)(vk:S)(s:Ms)(k:Int)(R:ab)(w:N)(h:Y w (dj q gw gi vk s R))(hk:s.has k=M):
  T prog 127 #[.pointer (F (W q 0 I)),.int .i64 k] w (bz (vB M) w):=by
 go_enter func127,ntmps127;go_wp2_with(go_at_call 119;refine(jr q gw gi vk s _ _ _ h).mono ?_;rintro e w' ⟨rfl,rfl⟩)
 go_ret;exact⟨rfl,rfl⟩
theorem qm(q gw gi:Nat)(vk:S)(s:Ms)(k:Nat)(R:ab)(w:N)(h:Y w (dj q gw gi vk s R))(hk:s.has k=O)(hlen:s.back.length<1000000):
  T prog 127 #[.pointer (F (W q 0 I)),.int .i64 k] w fun e w'=>∃vk',cR (vB O) (dj q gw gi vk' (s.give k) R) w e w':=by
 obtain⟨k0,k1,_⟩:=bi.1 hk;obtain⟨c0,c1,c2,c3⟩:=h.cells4;obtain⟨A,c,rfl⟩:=h.r3.rowForm;have e0:=h.lt;have e1:=h.right.right.lt;have hc:=h.right.right.tabGet (j:=k) (by omega);have hf:=h.right.right.free k;have hne:q≠gi:=h.in2.ne;have h2:=((h.in2.p2.tabSet k (vB M)).tabExt (f':=tc (s.give k)) fun j _=>wY s k j);have h3:Y (w.setCell (W gi k I) (vB M)) (ct 3 1 (.slice A s.back.length c) s.back.length (gm s.back)*(aa q #[.slice (F (W gw 0 I)) s.n s.n,.slice (F (W gi 0 I)) s.n s.n,.slice A s.back.length c,G J (s.next:Nat)] 141*
   (aa gw (bo (s.n*8) (wc s)) 164*(aa gi (bo s.n (tc (s.give k))) 4*R)))):=h2.eq (by(simp only[aX,ay,cF]))
 obtain⟨d0,d1,d2,d3⟩:=h3.right.cells4;have e2:=h3.right.lt;have hrow:=h3.alloc (.cells #[G J k] 3);have hlen':(s.give k).back.length =s.back.length+1:=by simp[cc]
 have hints:gm (s.give k).back =gm s.back++[G J (k:Int)]:=by simp[cc,gm]
 have hnews:=dU (w.setCell (W gi k I) (vB M)) (G J k) 3;rw[show(w.setCell (W gi k I) (vB M)).heap.size =w.heap.size by simp[World.setCell]] at hnews;have HT:=fun k'=>jr q gw gi _ s k' _ _ h;generalize s.back.length=m at*
 have hL:=B hlen';clear h h2 hlen';go_enter func127,ntmps127;go_wp2_with(first|(go_at_call 119;refine(HT _).mono ?_;rintro e w' ⟨rfl,rfl⟩)|(at_builtin;refine aV rfl _ _ 45 rfl underlying45 fK _ _ _ rfl hrow (W w.heap.size 0 I) 1 1 [G J k] rfl rfl hnews ?c1 ?c2 ?c3 ?_))
 case c1=>intro u hu;simp at hu;subst hu;rfl
 case c2=>unfold maxLen;omega
 case c3=>omega
 intro v' w2 h' x';obtain⟨A',c',rfl⟩:=h'.rowForm;have g0:=h'.right.lt;have g1:=h'.right.free 2;obtain⟨y0,y1,y2,y3⟩:=h'.right.cells4;have h5:=(h'.p2.set 2 (.slice A' (m+1) c')).in2.in3;clear hrow d0 d1 d2 d3 e2 h3;go_wp2;go_ret;refine⟨.slice A' (m+1) c',rfl,?_,ah⟩;unfold dj;rw[hL.out,hints];exact h5
def wordsZero:S:= .agg #[G vU 0,G vU 0,G vU 0,G vU 0,G vU 0,G vU 0,G vU 0,G vU 0]
theorem tF:(prog.info? 164).map (fun i=>(i.zero,i.size,i.bytes))=F (F wordsZero,8,64):=by kernel_rfl
theorem vu:(prog.info? 4).map (fun i=>(i.zero,i.size,i.bytes))=F (F (vB M),1,1):=by kernel_rfl
theorem zP(j:Nat):j % 8=0∨j % 8=1∨j % 8=2∨j % 8=3∨j % 8=4∨j % 8=5∨j % 8=6∨j % 8=7:=by omega
theorem yP(n j:Nat):wordsZero.cells[j % 8]! =wc (Z n) j:=by
 unfold wc Z;dsimp only;rcases zP j with h|h|h|h|h|h|h|h<;>rw[h]<;>rfl
theorem rv(n:Nat)(hn:n≤128)(w:N):(Instr.makeSlice 139 (.int .i64 (n:Int)) (.int .i64 (n:Int))).run prog w= .ok (.slice (F (W w.heap.size 0 I)) n n) (w.alloc (.cells (bo (n*8) (wc (Z n))) 164)):=by
 rw[gV (P:=prog) 139 164 wordsZero 8 64 underlying139 tF rfl n (by omega) (by omega) w,jF (fun j _=>yP n j)]
theorem na(n:Nat)(hn:n≤128)(w:N):(Instr.makeSlice 50 (.int .i64 (n:Int)) (.int .i64 (n:Int))).run prog w= .ok (.slice (F (W w.heap.size 0 I)) n n) (w.alloc (.cells (bo n (tc (Z n))) 4)):=by
 rw[gV (P:=prog) 50 4 (vB M) 1 1 underlying50 vu rfl n (by omega) (by omega) w,Nat.mul_one,jF (f:=fun j=>(vB M).cells[j % 1]!) (g:=tc (Z n)) (fun j _=>by
  show(vB M).cells[j % 1]! =vB M;rw[Nat.mod_one];rfl)]
theorem rx(n:Nat)(hn:n≤128)(R:ab)(w:N)(h:Y w R):
  T prog 56 #[.int .i64 n] w fun e w'=>∃q gw gi vk,cR (.pointer (F (W q 0 I))) (dj q gw gi vk (Z n) R) w e w':=by
 have hW:=rv n hn;have hB:=na n hn;go_enter func56,ntmps56;go_wp2;go_region
 ·have h1:=h.new (bo (n*8) (wc (Z n))) 164
  have h2:=h1.new (bo n (tc (Z n))) 4;have h3:=h2.new #[.slice (F (W w.heap.size 0 I)) n n,.slice (F ⟨w.heap.size+1,0,I⟩) n n,.slice I 0 0,G J 0] 141;have x3:=(((V w).alloc (.cells (bo (n*8) (wc (Z n))) 164)).alloc (.cells (bo n (tc (Z n))) 4)).alloc (.cells #[.slice (F (W w.heap.size 0 I)) n n,.slice (F ⟨w.heap.size+1,0,I⟩) n n,.slice I 0 0,G J 0] 141);simp only[ag] at h2 h3;have h4:=bL (e:=3) (size:=1) h3;have h5:=h4.p2.in2.in3;have h6:=h5.in2;go_wp2;go_ret;exact⟨_,w.heap.size,w.heap.size+1,.slice I 0 0,rfl,h6.drew,x3.drew⟩
 ·have h1:=h.new (bo n (tc (Z n))) 4
  have h2:=h1.new (bo (n*8) (wc (Z n))) 164;have h3:=h2.new #[.slice (F ⟨w.heap.size+1,0,I⟩) n n,.slice (F (W w.heap.size 0 I)) n n,.slice I 0 0,G J 0] 141;have x3:=(((V w).alloc (.cells (bo n (tc (Z n))) 4)).alloc (.cells (bo (n*8) (wc (Z n))) 164)).alloc (.cells #[.slice (F ⟨w.heap.size+1,0,I⟩) n n,.slice (F (W w.heap.size 0 I)) n n,.slice I 0 0,G J 0] 141);simp only[ag] at h2 h3;have h4:=bL (e:=3) (size:=1) h3;have h5:=h4.p2.in2.in3;go_wp2;go_ret;exact⟨_,w.heap.size+1,w.heap.size,.slice I 0 0,rfl,h5.drew,x3.drew⟩
theorem df(s:Int)(w:N):T prog 173 #[.int .i64 s] w (bz (G J (bn s)) w):=by
 unfold bn;by_cases h0:s=0
 ·subst h0
  go_enter func173,ntmps173;go_wp2;go_ret;exact⟨rfl,rfl⟩
 by_cases h1:s=1
 ·subst h1
  go_enter func173,ntmps173;go_wp2;go_ret;exact⟨rfl,rfl⟩
 by_cases h2:s=2
 ·subst h2
  go_enter func173,ntmps173;go_wp2;go_ret;exact⟨rfl,rfl⟩
 rw[if_neg h0,if_neg h1,if_neg h2];go_enter func173,ntmps173;go_wp2;go_ret;exact⟨rfl,rfl⟩
theorem dt(p:Int)(w:N):T prog 158 #[.int .i64 p] w (bz (vB (cY p)) w):=by
 unfold cY;by_cases h0:0≤p
 ·go_enter func158,ntmps158
  go_wp2;go_ret;exact⟨by simp[h0],rfl⟩
 ·have hd:decide (0≤p)=M:=by simpa using h0
  go_enter func158,ntmps158;go_wp2;go_ret;exact⟨rfl,rfl⟩
theorem vv{m:Mp}{p:Int}(hm:cW m.page)(hp:cW p)(h:m.page≤p):
  decide (IntKind.u64.wrap (IntKind.u64.wrap p - IntKind.u64.wrap m.page)<IntKind.u64.wrap (bn m.size))=ax m p:=by
 obtain⟨hm1,hm2⟩:=hm;obtain⟨hp1,hp2⟩:=hp;have hs:0≤bn m.size∧bn m.size≤64:=by unfold bn;split<;>(try split)<;>(try split)<;>omega
 have e:∀x:Int,IntKind.u64.wrap x=x % 18446744073709551616:=fun x=>by simp[IntKind.wrap,IntKind.signed,IntKind.bits]
 rw[e,e,e,e];unfold ax;have e1:(p % 18446744073709551616 - m.page % 18446744073709551616) % 18446744073709551616=p - m.page:=by omega
 have e2:bn m.size % 18446744073709551616=bn m.size:=by omega
 rw[e1,e2];simp[h]
theorem j0(m:Mp)(p:Int)(w:N)(hm:cW m.page)(hp:cW p):
  T prog 161 #[.agg #[G J m.page,G J m.size,G J m.frame,G J m.rights],.int .i64 p] w (bs (vB (ax m p)) w):=by
 have hb:=af (aT w) #[G J m.page,G J m.size,G J m.frame,G J m.rights] 39;obtain⟨c0,c1,c2,c3⟩:=hb.cells4;have v0:=ae c0;have v1:=ae c1;have bl:=(Below.refl w.heap.size w).alloc (Nat.le_refl _) (.cells #[G J m.page,G J m.size,G J m.frame,G J m.rights] 39);by_cases h0:m.page≤p
 ·have hy:=B (vv hm hp h0)
  go_enter func161,ntmps161;go_wp2;refine au (by kernel_rfl) (by kernel_rfl) ?_;repeat(first|go_big_quiet_step ((go_at_call 173;exact Same.via (df _ _)))|quiet_step ((go_at_call 173;exact Same.via (df _ _))))
  refine wpQuiet_nil ?_;intro _ hw';obtain⟨uq,hw''⟩:=hw';subst hw'';go_wp2;go_ret;exact⟨by rw[←hy.out];rfl,bl.trans ((aE _ _).mono (by simp))⟩
 ·have hd:decide (m.page≤p)=M:=by simpa using h0
  have hy:=B (show ax m p=M by unfold ax;rw[hd];rfl);go_enter func161,ntmps161;go_wp2;refine au (by kernel_rfl) (by kernel_rfl) ?_;repeat(first|go_big_quiet_step (fail)|quiet_step (fail))
  refine wpQuiet_nil ?_;intro _ hw';obtain⟨uq,hw''⟩:=hw';subst hw'';go_wp2;go_ret;exact⟨by rw[hy.out];rfl,bl.trans ((aE _ _).mono (by simp))⟩
theorem qn(a b:Mp)(w:N)(ha:cW a.page)(hb:cW b.page):
  T prog 176 #[.agg #[G J a.page,G J a.size,G J a.frame,G J a.rights],.agg #[G J b.page,G J b.size,G J b.frame,G J b.rights]] w (bs (vB (dV a b)) w):=by
 have h1:=af (aT w) #[G J a.page,G J a.size,G J a.frame,G J a.rights] 39;have h2:=h1.new #[G J b.page,G J b.size,G J b.frame,G J b.rights] 39;have x2:=((V w).alloc (.cells #[G J a.page,G J a.size,G J a.frame,G J a.rights] 39)).alloc (.cells #[G J b.page,G J b.size,G J b.frame,G J b.rights] 39);simp only[ag] at h2;go_enter func176,ntmps176;go_wp2_with fail
 refine(j0 a b.page _ ha hb).mono ?_;rintro e w2 ⟨rfl,b2⟩;have h3:=h2.below b2;obtain⟨c0,c1,c2,c3⟩:=h3.cells4;obtain⟨d0,d1,d2,d3⟩:=h3.right.cells4;cases ho:ax a b.page with
 |true=>
  have hy:=B (show dV a b=O by unfold dV;rw[ho];rfl);go_wp2_with fail
  go_ret;exact⟨by rw[hy.out];rfl,ar h3.right.right (x2.below b2)⟩
 |false=>
  go_wp2_with fail
  refine(j0 b a.page _ hb ha).mono ?_;rintro e w3 ⟨rfl,b3⟩;have h4:=h3.below b3;have hy:=B (show dV a b=ax b a.page by unfold dV;rw[ho];rfl);go_wp2_with fail
  go_ret;exact⟨by rw[hy.out];rfl,ar h4.right.right ((x2.below b2).below b3)⟩
set_option maxHeartbeats 1000000 in
theorem j3(m:Mp)(w:N):T prog 148 #[.agg #[G J m.page,G J m.size,G J m.frame,G J m.rights]] w (bs (G J (bc m)) w):=by
 have h1:=af (aT w) #[G J m.page,G J m.size,G J m.frame,G J m.rights] 39;have x1:=(V w).alloc (.cells #[G J m.page,G J m.size,G J m.frame,G J m.rights] 39);have bl:=ar h1.right x1;by_cases s0:bn m.size=0
 ·skip
  have hy:=B (show bc m=2 by unfold bc;rw[if_pos s0]);go_enter func148,ntmps148;go_wp2_with(first|(go_at_call 173;refine(df _ _).mono ?_;rintro e w' ⟨rfl,rfl⟩)|(go_at_call 158;refine(dt _ _).mono ?_;rintro e w' ⟨rfl,rfl⟩))
  go_ret;exact⟨by rw[hy.out];rfl,bl⟩
 have s1:1≤bn m.size:=by unfold bn at*;split<;>(try split)<;>(try split)<;>simp_all
 have s0':(bn m.size==0)=M:=by simpa using s0
 by_cases hp:cY m.page=O
 ·have hp':0≤m.page∧m.page<4096:=by simpa [cY] using hp
  obtain⟨p0,p1⟩:=hp';by_cases f0:m.frame<0
  ·skip
   have hy:=B (show bc m=1 by unfold bc;rw[if_neg s0,if_pos (by omega)]);go_enter func148,ntmps148;go_wp2_with(first|(go_at_call 173;refine(df _ _).mono ?_;rintro e w' ⟨rfl,rfl⟩)|(go_at_call 158;refine(dt _ _).mono ?_;rintro e w' ⟨rfl,rfl⟩))
   go_ret;exact⟨by rw[hy.out];rfl,bl⟩
  by_cases f1:1048576≤m.frame
  ·skip
   have hy:=B (show bc m=1 by unfold bc;rw[if_neg s0,if_pos (by omega)]);go_enter func148,ntmps148;go_wp2_with(first|(go_at_call 173;refine(df _ _).mono ?_;rintro e w' ⟨rfl,rfl⟩)|(go_at_call 158;refine(dt _ _).mono ?_;rintro e w' ⟨rfl,rfl⟩))
   go_ret;exact⟨by rw[hy.out];rfl,bl⟩
  by_cases r0:m.rights<0
  ·skip
   have hy:=B (show bc m=1 by unfold bc;rw[if_neg s0,if_pos (by omega)]);go_enter func148,ntmps148;go_wp2_with(first|(go_at_call 173;refine(df _ _).mono ?_;rintro e w' ⟨rfl,rfl⟩)|(go_at_call 158;refine(dt _ _).mono ?_;rintro e w' ⟨rfl,rfl⟩))
   go_ret;exact⟨by rw[hy.out];rfl,bl⟩
  by_cases r1:7<m.rights
  ·skip
   have hy:=B (show bc m=1 by unfold bc;rw[if_neg s0,if_pos (by omega)]);go_enter func148,ntmps148;go_wp2_with(first|(go_at_call 173;refine(df _ _).mono ?_;rintro e w' ⟨rfl,rfl⟩)|(go_at_call 158;refine(dt _ _).mono ?_;rintro e w' ⟨rfl,rfl⟩))
   go_ret;exact⟨by rw[hy.out];rfl,bl⟩
  have hno:¬(m.page<0∨4096≤m.page∨m.frame<0∨1048576≤m.frame∨m.rights<0∨7<m.rights):=by omega
  have hn:=B hno;clear hno;cases q0:(m.page % bn m.size !=0) with
  |true=>
   have g:=B q0;have hy:=B (show bc m=3 by unfold bc;rw[if_neg s0,if_neg hn.out,if_pos (.inl (by simpa using g.out))]);go_enter func148,ntmps148;go_wp2_with(first|(go_at_call 173;refine(df _ _).mono ?_;rintro e w' ⟨rfl,rfl⟩)|(go_at_call 158;refine(dt _ _).mono ?_;rintro e w' ⟨rfl,rfl⟩))
   go_ret;exact⟨by rw[hy.out];rfl,bl⟩
  |false=>
   cases q1:(m.frame % bn m.size !=0) with
   |true=>
    have g:=B q1;have hy:=B (show bc m=3 by unfold bc;rw[if_neg s0,if_neg hn.out,if_pos (.inr (by simpa using g.out))]);go_enter func148,ntmps148;go_wp2_with(first|(go_at_call 173;refine(df _ _).mono ?_;rintro e w' ⟨rfl,rfl⟩)|(go_at_call 158;refine(dt _ _).mono ?_;rintro e w' ⟨rfl,rfl⟩))
    go_ret;exact⟨by rw[hy.out];rfl,bl⟩
   |false=>
    have g:=B q0;have g':=B q1;have hy:=B (show bc m=0 by unfold bc;rw[if_neg s0,if_neg hn.out,if_neg (by have a:=g.out;have b:=g'.out;simp at a b;omega)]);go_enter func148,ntmps148;go_wp2_with(first|(go_at_call 173;refine(df _ _).mono ?_;rintro e w' ⟨rfl,rfl⟩)|(go_at_call 158;refine(dt _ _).mono ?_;rintro e w' ⟨rfl,rfl⟩))
    go_ret;exact⟨by rw[hy.out];rfl,bl⟩
 ·have hp0:cY m.page=M:=by simpa using hp
  have hp':=B (show m.page<0∨4096≤m.page by unfold cY at hp0;simp at hp0;omega);clear hp;have hy:=B (show bc m=1 by unfold bc;rw[if_neg s0,if_pos (by have:=hp'.out;omega)]);go_enter func148,ntmps148;go_wp2_with(first|(go_at_call 173;refine(df _ _).mono ?_;rintro e w' ⟨rfl,rfl⟩)|(go_at_call 158;refine(dt _ _).mono ?_;rintro e w' ⟨rfl,rfl⟩))
  go_ret;exact⟨by rw[hy.out];rfl,bl⟩
theorem lF:∀n,0<aw n
 |0=>by simp[aw]
 |n+1=>by have:=lF n;unfold aw;omega
theorem vw(p:Int)(n:Nat):p / aw n / 8=p / aw (n+1):=by
 have h:=lF n;rw[Int.ediv_ediv_of_nonneg (by omega),show aw (n+1)=8*aw n from rfl,Int.mul_comm]
theorem qo{p:Int}(h0:0≤p)(h1:p<4096)(n:Nat):0≤p / aw n∧p / aw n<4096:=by
 have h:=lF n;refine⟨Int.ediv_nonneg h0 (by omega),?_⟩;exact Int.lt_of_le_of_lt (Int.ediv_le_self _ h0) h1
theorem j4(p l:Int)(w:N):T prog 152 #[.int .i64 p,.int .i64 l] w (bz (G J (ap p l)) w):=by
 by_cases hp:cY p=O
 ·have hp':0≤p∧p<4096:=by simpa [cY] using hp
  obtain⟨p0,p1⟩:=hp';by_cases l0:0≤l
  ·by_cases l1:l<4
   ·obtain⟨l,rfl⟩:=U l0
    have hy:=B (show ap p l=p / aw l % 8 by unfold ap;rw[if_pos ⟨p0,p1,l0,l1⟩];simp);go_enter func152,ntmps152;go_wp2_with(first|(go_at_call 158;refine(dt _ _).mono ?_;rintro e w' ⟨rfl,rfl⟩))
    go_loop [0,17] (fun x t=>∃j:Nat,j≤l∧t=G J j∧x=G J (p / aw j)) (fun _ t=>l - (intOf t).toNat)
    case atStart=>exact⟨0,by omega,rfl,by simp[aw]⟩
    case round=>
     obtain⟨j,hj,rfl,rfl⟩:=hrel;obtain⟨b0,b1⟩:=qo p0 p1 j;have hd:=B (vw p j);by_cases hjl:j<l
     ·go_wp2
      go_round
      case rel=>exact⟨j+1,by omega,by go_num,by rw[←hd.out]⟩
      case measure=>simp[intOf];omega
     ·obtain rfl:j=l:=by omega
      go_wp2;go_ret;exact⟨by rw[hy.out];rfl,rfl⟩
   ·have hy:=B (show ap p l= -1 by unfold ap;rw[if_neg (by omega)])
    go_enter func152,ntmps152;go_wp2_with(first|(go_at_call 158;refine(dt _ _).mono ?_;rintro e w' ⟨rfl,rfl⟩))
    go_ret;exact⟨by rw[hy.out];rfl,rfl⟩
  ·have hy:=B (show ap p l= -1 by unfold ap;rw[if_neg (by omega)])
   go_enter func152,ntmps152;go_wp2_with(first|(go_at_call 158;refine(dt _ _).mono ?_;rintro e w' ⟨rfl,rfl⟩))
   go_ret;exact⟨by rw[hy.out];rfl,rfl⟩
 ·have hp0:cY p=M:=by simpa using hp
  have hy:=B (show ap p l= -1 by unfold ap;rw[if_neg (by unfold cY at hp0;simp at hp0;omega)]);go_enter func152,ntmps152;go_wp2_with(first|(go_at_call 158;refine(dt _ _).mono ?_;rintro e w' ⟨rfl,rfl⟩))
  go_ret;exact⟨by rw[hy.out];rfl,rfl⟩
theorem fU(r:Int)(k:Nat)(hk:k<8):bits .and .i64 r (k:Int)=(((r % 8).toNat &&& k:Nat):Int):=by
 have h1:(BitVec.ofInt 64 r).toNat =(r % 18446744073709551616).toNat :=by simp[BitVec.toNat_ofInt]
 have h2:(BitVec.ofInt 64 (k:Int)).toNat =k:=by rw[BitVec.ofInt_natCast,BitVec.toNat_ofNat];omega
 have h3:((r % 18446744073709551616).toNat &&& k)=((r % 8).toNat &&& k):=by
  have hle:((r % 18446744073709551616).toNat &&& k)≤k:=Nat.and_le_right;have hle2:((r % 8).toNat &&& k)≤k:=Nat.and_le_right;have e1:((r % 18446744073709551616).toNat &&& k) % 2 ^ 3=((r % 18446744073709551616).toNat % 2 ^ 3)&&& (k % 2 ^ 3):=Nat.and_mod_two_pow;have e2:(r % 18446744073709551616).toNat % 2 ^ 3=(r % 8).toNat :=by omega
  rw[e2,Nat.mod_eq_of_lt (show k<2 ^ 3 by omega),Nat.mod_eq_of_lt (by omega)] at e1;exact e1
 show IntKind.i64.wrap ((BitVec.ofInt 64 r&&& BitVec.ofInt 64 (k:Int)).toNat :Int)=_;rw[BitVec.toNat_and,h1,h2,h3,IntKind.wrap_i64];have hle2:((r % 8).toNat &&& k)≤k:=Nat.and_le_right;omega
theorem qp(r:Int):r % 8=0∨r % 8=1∨r % 8=2∨r % 8=3∨r % 8=4∨r % 8=5∨r % 8=6∨r % 8=7:=by omega
theorem n9(r:Int):(bits .and .i64 r 1==1)=aK r 1:=by
 have h':bits .and .i64 r 1=(((r % 8).toNat &&& 1:Nat):Int):=fU r 1 (by omega);rw[h'];unfold aK;have e1:r / 1 % 2=r % 8 % 2:=by omega
 have e2:r / 2 % 2=r % 8 / 2 % 2:=by omega
 have e4:r / 4 % 2=r % 8 / 4 % 2:=by omega
 first|rw[e1,e2]|rw[e4,e2]|rw[e1]|rw[e2]|rw[e4]
 rcases qp r with h|h|h|h|h|h|h|h<;>rw[h]<;>rfl
theorem oc(r:Int):(bits .and .i64 r 2==2)=aK r 2:=by
 have h':bits .and .i64 r 2=(((r % 8).toNat &&& 2:Nat):Int):=fU r 2 (by omega);rw[h'];unfold aK;have e1:r / 1 % 2=r % 8 % 2:=by omega
 have e2:r / 2 % 2=r % 8 / 2 % 2:=by omega
 have e4:r / 4 % 2=r % 8 / 4 % 2:=by omega
 first|rw[e1,e2]|rw[e4,e2]|rw[e1]|rw[e2]|rw[e4]
 rcases qp r with h|h|h|h|h|h|h|h<;>rw[h]<;>rfl
theorem od(r:Int):(bits .and .i64 r 3==3)=(aK r 1&&aK r 2):=by
 have h':bits .and .i64 r 3=(((r % 8).toNat &&& 3:Nat):Int):=fU r 3 (by omega);rw[h'];unfold aK;have e1:r / 1 % 2=r % 8 % 2:=by omega
 have e2:r / 2 % 2=r % 8 / 2 % 2:=by omega
 have e4:r / 4 % 2=r % 8 / 4 % 2:=by omega
 first|rw[e1,e2]|rw[e4,e2]|rw[e1]|rw[e2]|rw[e4]
 rcases qp r with h|h|h|h|h|h|h|h<;>rw[h]<;>rfl
theorem oe(r:Int):(bits .and .i64 r 4==4)=aK r 4:=by
 have h':bits .and .i64 r 4=(((r % 8).toNat &&& 4:Nat):Int):=fU r 4 (by omega);rw[h'];unfold aK;have e1:r / 1 % 2=r % 8 % 2:=by omega
 have e2:r / 2 % 2=r % 8 / 2 % 2:=by omega
 have e4:r / 4 % 2=r % 8 / 4 % 2:=by omega
 first|rw[e1,e2]|rw[e4,e2]|rw[e1]|rw[e2]|rw[e4]
 rcases qp r with h|h|h|h|h|h|h|h<;>rw[h]<;>rfl
theorem og(r:Int):(bits .and .i64 r 6==6)=(aK r 4&&aK r 2):=by
 have h':bits .and .i64 r 6=(((r % 8).toNat &&& 6:Nat):Int):=fU r 6 (by omega);rw[h'];unfold aK;have e1:r / 1 % 2=r % 8 % 2:=by omega
 have e2:r / 2 % 2=r % 8 / 2 % 2:=by omega
 have e4:r / 4 % 2=r % 8 / 4 % 2:=by omega
 first|rw[e1,e2]|rw[e4,e2]|rw[e1]|rw[e2]|rw[e4]
 rcases qp r with h|h|h|h|h|h|h|h<;>rw[h]<;>rfl
theorem oh(r:Int):(bits .and .i64 r 0==0)=O:=by
 have h':bits .and .i64 r 0=(((r % 8).toNat &&& 0:Nat):Int):=fU r 0 (by omega);rw[h',Nat.and_zero];rfl
theorem lZ(r p k:Int)(u:Bool)(w:N):T prog 103 #[.int .i64 r,.agg #[G J p,G J k,vB u]] w (bs (vB (bb r ⟨p,k,u⟩)) w):=by
 have h1:=af (aT w) #[G J p,G J k,vB u] 41;have bl:=ar h1.right ((V w).alloc (.cells #[G J p,G J k,vB u] 41));clear h1;by_cases k1:k=1
 ·subst k1
  cases u with
  |true=>
   have hy:=B (show bb r ⟨p,1,O⟩=(aK r 1&&aK r 2) by unfold bb;simp);go_enter func103,ntmps103;go_wp2;go_ret;refine⟨?_,bl⟩;rw[hy.out];first|rfl|exact congrArg (fun b=>C (vB b)) (n9 r)|exact congrArg (fun b=>C (vB b)) (oc r)|exact congrArg (fun b=>C (vB b)) (od r)|exact congrArg (fun b=>C (vB b)) (oe r)|exact congrArg (fun b=>C (vB b)) (og r)|exact congrArg (fun b=>C (vB b)) (oh r)
  |false=>
   have hy:=B (show bb r ⟨p,1,M⟩=(aK r 1) by unfold bb;simp);go_enter func103,ntmps103;go_wp2;go_ret;refine⟨?_,bl⟩;rw[hy.out];first|rfl|exact congrArg (fun b=>C (vB b)) (n9 r)|exact congrArg (fun b=>C (vB b)) (oc r)|exact congrArg (fun b=>C (vB b)) (od r)|exact congrArg (fun b=>C (vB b)) (oe r)|exact congrArg (fun b=>C (vB b)) (og r)|exact congrArg (fun b=>C (vB b)) (oh r)
 by_cases k2:k=2
 ·subst k2
  cases u with
  |true=>
   have hy:=B (show bb r ⟨p,2,O⟩=(aK r 4&&aK r 2) by unfold bb;simp);go_enter func103,ntmps103;go_wp2;go_ret;refine⟨?_,bl⟩;rw[hy.out];first|rfl|exact congrArg (fun b=>C (vB b)) (n9 r)|exact congrArg (fun b=>C (vB b)) (oc r)|exact congrArg (fun b=>C (vB b)) (od r)|exact congrArg (fun b=>C (vB b)) (oe r)|exact congrArg (fun b=>C (vB b)) (og r)|exact congrArg (fun b=>C (vB b)) (oh r)
  |false=>
   have hy:=B (show bb r ⟨p,2,M⟩=(aK r 4) by unfold bb;simp);go_enter func103,ntmps103;go_wp2;go_ret;refine⟨?_,bl⟩;rw[hy.out];first|rfl|exact congrArg (fun b=>C (vB b)) (n9 r)|exact congrArg (fun b=>C (vB b)) (oc r)|exact congrArg (fun b=>C (vB b)) (od r)|exact congrArg (fun b=>C (vB b)) (oe r)|exact congrArg (fun b=>C (vB b)) (og r)|exact congrArg (fun b=>C (vB b)) (oh r)
 have g1:(k==1)=M:=by simpa using k1
 have g2:(k==2)=M:=by simpa using k2
 cases u with
 |true=>
  have hy:=B (show bb r ⟨p,k,O⟩=(aK r 2) by unfold bb;simp[k1,k2]);go_enter func103,ntmps103;go_wp2;go_ret;refine⟨?_,bl⟩;rw[hy.out];first|rfl|exact congrArg (fun b=>C (vB b)) (n9 r)|exact congrArg (fun b=>C (vB b)) (oc r)|exact congrArg (fun b=>C (vB b)) (od r)|exact congrArg (fun b=>C (vB b)) (oe r)|exact congrArg (fun b=>C (vB b)) (og r)|exact congrArg (fun b=>C (vB b)) (oh r)
 |false=>
  have hy:=B (show bb r ⟨p,k,M⟩=(O) by unfold bb;simp[k1,k2]);go_enter func103,ntmps103;go_wp2;go_ret;refine⟨?_,bl⟩;rw[hy.out];first|rfl|exact congrArg (fun b=>C (vB b)) (n9 r)|exact congrArg (fun b=>C (vB b)) (oc r)|exact congrArg (fun b=>C (vB b)) (od r)|exact congrArg (fun b=>C (vB b)) (oe r)|exact congrArg (fun b=>C (vB b)) (og r)|exact congrArg (fun b=>C (vB b)) (oh r)
theorem fq(p k:Int)(u:Bool)(w:N):T prog 101 #[.agg #[G J p,G J k,vB u]] w (bs (G J (aq ⟨p,k,u⟩)) w):=by
 have h1:=af (aT w) #[G J p,G J k,vB u] 41;have bl:=ar h1.right ((V w).alloc (.cells #[G J p,G J k,vB u] 41));clear h1;by_cases k0:k<0
 ·have hy:=B (show aq ⟨p,k,u⟩=2 by unfold aq;rw[if_pos (by simp;omega)])
  go_enter func101,ntmps101;go_wp2;go_ret;exact⟨by rw[hy.out];rfl,bl⟩
 by_cases k2:2<k
 ·have hy:=B (show aq ⟨p,k,u⟩=2 by unfold aq;rw[if_pos (by simp;omega)])
  go_enter func101,ntmps101;go_wp2;go_ret;exact⟨by rw[hy.out];rfl,bl⟩
 cases hp:cY p with
 |true=>
  have hy:=B (show aq ⟨p,k,u⟩=0 by
   unfold aq;unfold cY at hp;simp at hp;rw[if_neg (by simp;omega),if_neg (by simp;omega)])
  go_enter func101,ntmps101;go_wp2_with(first|(go_at_call 158;refine(dt _ _).mono ?_;rintro e w' ⟨rfl,rfl⟩))
  go_ret;exact⟨by rw[hy.out];rfl,bl⟩
 |false=>
  have hy:=B (show aq ⟨p,k,u⟩=1 by
   unfold aq;unfold cY at hp;simp at hp;rw[if_neg (by simp;omega),if_pos (by simp;omega)])
  go_enter func101,ntmps101;go_wp2_with(first|(go_at_call 158;refine(dt _ _).mono ?_;rintro e w' ⟨rfl,rfl⟩))
  go_ret;exact⟨by rw[hy.out];rfl,bl⟩
theorem kG(m:Mp)(p k:Int)(u:Bool)(w:N):
  T prog 104 #[.agg #[G J m.page,G J m.size,G J m.frame,G J m.rights],.agg #[G J p,G J k,vB u]] w (bs (bF m ⟨p,k,u⟩).val w):=by
 have h1:=af (aT w) #[G J m.page,G J m.size,G J m.frame,G J m.rights] 39;have h2:=h1.new #[G J p,G J k,vB u] 41;have h3:=h2.new #[G J 0,G J 0,G J 0] 34;have x3:=(((V w).alloc (.cells #[G J m.page,G J m.size,G J m.frame,G J m.rights] 39)).alloc (.cells #[G J p,G J k,vB u] 41)).alloc (.cells #[G J 0,G J 0,G J 0] 34);simp only[ag] at h3;cases hm:bb m.rights ⟨p,k,u⟩ with
 |true=>
  have hy:=B (show bF m ⟨p,k,u⟩=⟨0,wrap64 (wrap64 (m.frame+p) - m.page),m.rights⟩ by unfold bF;rw[hm];rfl);go_enter func104,ntmps104;go_wp2_with fail
  refine(lZ _ _ _ _ _).mono ?_;rintro e w1 ⟨rfl,b1⟩;have h4:=h3.below b1;have e1:=h4.lt;obtain⟨c0,c1,c2⟩:=h4.cells3;obtain⟨d0,d1,d2⟩:=h4.right.cells3;obtain⟨m0,m1,m2,m3⟩:=h4.right.right.cells4;obtain⟨f0,f1,f2⟩:=h4.frees3;have h5:=((h4.set 0 (G J 0)).set 1 (G J (wrap64 (wrap64 (m.frame+p) - m.page)))).set 2 (G J m.rights);go_wp2_with fail
  exact al (v:= .agg #[G J 0,G J (wrap64 (wrap64 (m.frame+p) - m.page)),G J m.rights]) (by simp[results,results104,go_sem,c0,c1,c2]) rfl
   ⟨by rw[hy.out];rfl,ar h5.r3 (ah)⟩
 |false=>
  have hy:=B (show bF m ⟨p,k,u⟩=⟨2,0,0⟩ by unfold bF;rw[hm];rfl);go_enter func104,ntmps104;go_wp2_with fail
  refine(lZ _ _ _ _ _).mono ?_;rintro e w1 ⟨rfl,b1⟩;have h4:=h3.below b1;have e1:=h4.lt;obtain⟨c0,c1,c2⟩:=h4.cells3;obtain⟨f0,f1,f2⟩:=h4.frees3;have h5:=((h4.set 0 (G J 2)).set 1 (G J 0)).set 2 (G J 0);go_wp2_with fail
  exact al (v:= .agg #[G J 2,G J 0,G J 0]) (by simp[results,results104,go_sem,c0,c1,c2]) rfl
   ⟨by rw[hy.out];rfl,ar h5.r3 (ah)⟩
instance:Std.Associative (α:=ab) (fun a b=>a*b):=⟨aX⟩
instance:Std.Commutative (α:=ab) (fun a b=>a*b):=⟨cF⟩
namespace Ms
def topV(s:Ms):Int:=match s.top with|some k=>(k:Int)|none=> -1
def takeS(s:Ms):Ms:=match s.top with|some k=>s.take k|none=>s
def giveS(s:Ms)(k:Int):Ms:=if s.has k then s.give k.toNat else s
structure Ok (s:Ms):Prop where
 inv:s.Inv
 small:s.n≤128
theorem takeS_n(s:Ms):s.takeS.n=s.n:=by unfold takeS;split<;>rfl
theorem giveS_n(s:Ms)(k:Int):(s.giveS k).n =s.n:=by unfold giveS;split<;>rfl
theorem Ok.new{n:Nat}(h:n≤128):(Z n).Ok :=⟨Inv.new n,h⟩
theorem Ok.takeS{s:Ms}(h:s.Ok):s.takeS.Ok:=by
 refine⟨?_,by rw[takeS_n];exact h.small⟩;unfold Ms.takeS;split
 ·rename_i k hk
  exact h.inv.take hk
 ·exact h.inv
theorem Ok.giveS{s:Ms}(h:s.Ok)(k:Int):(s.giveS k).Ok :=by
 refine⟨?_,by rw[giveS_n];exact h.small⟩;unfold Ms.giveS;split
 ·rename_i hk
  exact h.inv.give (has_iff.1 hk).2.2
 ·exact h.inv
end Ms
def az(q:Nat)(s:Ms):ab:=ex fun gw=>ex fun gi=>ex fun vk=>dj q gw gi vk s (eY True)
section
variable {p q g gw gi:Nat} {vf vk:S} {s:Ms} {R:ab} {w:N}
theorem cv(h:Y w (az q s*R)):∃gw gi vk,Y w (dj q gw gi vk s R):=by
 unfold az at h;obtain⟨gw,h⟩:=aF.1 h;obtain⟨gi,h⟩:=aF.1 h;obtain⟨vk,h⟩:=aF.1 h;refine⟨gw,gi,vk,?_⟩;unfold dj at h⊢;simpa only[aX,gp] using h
theorem cV(h:Y w (dj q gw gi vk s R)):Y w (az q s*R):=by
 unfold az;refine aF.2 ⟨gw,aF.2 ⟨gi,aF.2 ⟨vk,?_⟩⟩⟩;unfold dj at h⊢;simpa only[aX,gp] using h
end
section
variable (p q:Nat) (s:Ms) (k i v o:Int) (R:ab) (w:N)
theorem vx(h:Y w (ai p s*R)):T prog 165 #[.pointer (F (W p 0 I)),.int .i64 k] w (bz (vB (s.has k)) w):=by
 obtain⟨g,vf,h⟩:=dM h;exact gq p g vf s k R w h
theorem rZ(h:Y w (ai p s*R)):T prog 170 #[.pointer (F (W p 0 I)),.int .i64 k,.int .i64 i] w (bz (.tuple #[G vU (eh s k i),vB (s.hasW k i)]) w):=by
 obtain⟨g,vf,h⟩:=dM h;exact vo p g vf s k i R w h
theorem zQ(h:Y w (ai p s*R)):T prog 75 #[.pointer (F (W p 0 I))] w (bz (G J (s.frees.length:Nat)) w):=by
 obtain⟨g,vf,h⟩:=dM h;exact vq p g vf s R w h
theorem ry(h:Y w (ai p s*R)):
  T prog 154 #[.pointer (F (W p 0 I)),.int .i64 k,.int .i64 i,.int .u64 v] w (cR (vB (s.hasW k i)) (ai p (fA s k i v)*R) w):=by
 obtain⟨g,vf,h⟩:=dM h;exact(tC p g vf s k i v R w h).mono fun _ _ ⟨a,b,c⟩=>⟨a,dN b,c⟩
theorem vy(h:Y w (ai p s*R)):
  T prog 164 #[.pointer (F (W p 0 I)),.int .i64 k,.int .i64 i,.int .u64 o,.int .u64 v] w (cR (vB (jc s k i o)) (ai p (iG s k i o v)*R) w):=by
 obtain⟨g,vf,h⟩:=dM h;exact(vp p g vf s k i o v R w h).mono fun _ _ ⟨a,b,c⟩=>⟨a,dN b,c⟩
theorem xI(h:Y w (ai p s*R))(hs:s.Ok):T prog 52 #[.pointer (F (W p 0 I))] w (cR (G J s.topV) (ai p s.takeS*R) w):=by
 obtain⟨g,vf,h⟩:=dM h;unfold Ms.topV Ms.takeS;cases ht:s.top with
 |some k=>exact(vr p g vf s k R w h ht (cd hs.inv ht).1).mono fun _ _ ⟨_,a,b,c⟩=>⟨a,dN b,c⟩
 |none=>exact(tD p g vf s R w h ht).mono fun _ _ ⟨a,b⟩=>⟨a,b▸dN h,b▸V _⟩
theorem xJ(h:Y w (ai p s*R))(hs:s.Ok):T prog 111 #[.pointer (F (W p 0 I)),.int .i64 k] w (cR (vB (s.has k)) (ai p (s.giveS k)*R) w):=by
 obtain⟨g,vf,h⟩:=dM h;unfold Ms.giveS;cases ht:s.has k with
 |true=>
  obtain⟨k0,k1,_⟩:=bi.1 ht;obtain⟨k,rfl⟩:=U k0;have:=bD hs.inv;have:=hs.small;exact(vt p g vf s k R w h ht (by omega)).mono fun _ _ ⟨_,a,b,c⟩=>⟨a,dN (by simpa using b),c⟩
 |false=>exact(wX p g vf s k R w h ht).mono fun _ _ ⟨a,b⟩=>⟨a,b▸dN h,b▸V _⟩
theorem oY(h:Y w (az q s*R)):T prog 119 #[.pointer (F (W q 0 I)),.int .i64 k] w (bz (vB (s.has k)) w):=by
 obtain⟨gw,gi,vk,h⟩:=cv h;exact jr q gw gi vk s k R w h
theorem zR(h:Y w (az q s*R))(hs:s.Ok):T prog 26 #[.pointer (F (W q 0 I))] w (bs (G J (s.frees.length:Nat)) w):=by
 obtain⟨gw,gi,vk,h⟩:=cv h;have:=hs.small;have:=bD hs.inv;have:=bB s;exact qj q gw gi vk s R w h hs.inv.le (by omega) (by omega)
theorem xK(h:Y w (az q s*R))(hs:s.Ok):T prog 57 #[.pointer (F (W q 0 I))] w (cR (G J s.topV) (az q s.takeS*R) w):=by
 obtain⟨gw,gi,vk,h⟩:=cv h;have:=hs.small;unfold Ms.topV Ms.takeS;cases ht:s.top with
 |some k=>exact(qk q gw gi vk s k R w h hs.inv (by omega) ht).mono fun _ _ ⟨_,a,b,c⟩=>⟨a,cV b,c⟩
 |none=>exact(oV q gw gi vk s R w h ht).mono fun _ _ ⟨a,b⟩=>⟨a,(cV h).below b,(V w).below b⟩
theorem zS(h:Y w (az q s*R))(hs:s.Ok):T prog 127 #[.pointer (F (W q 0 I)),.int .i64 k] w (cR (vB (s.has k)) (az q (s.giveS k)*R) w):=by
 obtain⟨gw,gi,vk,h⟩:=cv h;unfold Ms.giveS;cases ht:s.has k with
 |true=>
  obtain⟨k0,k1,_⟩:=bi.1 ht;obtain⟨k,rfl⟩:=U k0;have:=bD hs.inv;have:=hs.small;have:=bB s;exact(qm q gw gi vk s k R w h ht (by omega)).mono fun _ _ ⟨_,a,b,c⟩=>⟨a,cV (by simpa using b),c⟩
 |false=>exact(ru q gw gi vk s k R w h ht).mono fun _ _ ⟨a,b⟩=>⟨a,b▸cV h,b▸V _⟩
theorem AM(n:Int)(h:Y w R)(h0:0≤n)(h1:n≤128):
  T prog 51 #[.int .i64 n] w fun e w'=>∃p,cR (.tuple #[.pointer (F (W p 0 I)),.agg #[G J 0,G J 0]]) (ai p (Z n.toNat)*R) w e w':=by
 obtain⟨n,rfl⟩:=U h0;exact(rt n (by omega) R w h).mono fun _ _ ⟨p,_,_,a,b,c⟩=>⟨p,a,dN b,c⟩
theorem AN(n:Int)(h:Y w R)(h0:0≤n)(h1:n≤128):
  T prog 56 #[.int .i64 n] w fun e w'=>∃q,cR (.pointer (F (W q 0 I))) (az q (Z n.toNat)*R) w e w':=by
 obtain⟨n,rfl⟩:=U h0;exact(rx n (by omega) R w h).mono fun _ _ ⟨p,_,_,_,a,b,c⟩=>⟨p,a,cV b,c⟩
end
theorem ch{q gw gi:Nat}{vk:S}{s:Ms}{R:ab}{w:N}(h:Y w (dj q gw gi vk s R)){k i:Nat}(hk:k<s.n)(hi:i<8):
  w.cell? ⟨gw,k*8+i,I⟩=F (G vU (s.wd k i)):=by
 rw[h.right.tabGet (by omega)];unfold wc;rw[show(k*8+i) / 8=k by omega,show(k*8+i) % 8=i by omega]
theorem wZ(s:Ms)(k i:Nat)(v:Int)(hi:i<8)(j:Nat):bT (wc s) (k*8+i) (G vU v) j=wc (s.setW k i v) j:=by
 unfold bT wc cf;dsimp only;by_cases h:j=k*8+i
 ·subst h
  rw[if_pos rfl,show(k*8+i) / 8=k by omega,show(k*8+i) % 8=i by omega,if_pos ⟨rfl,rfl⟩]
 ·rw[if_neg h,if_neg (by omega)]
theorem dr{q gw gi:Nat}{vk:S}{s:Ms}{R:ab}{w:N}(h:Y w (dj q gw gi vk s R)){k i:Nat}(hi:i<8)(v:Int):
  Y (w.setCell ⟨gw,k*8+i,I⟩ (G vU v)) (dj q gw gi vk (s.setW k i v) R):=
 ((h.p2.tabSet _ _).tabExt fun j _=>wZ s k i v hi j).p2
section
variable {w:N} {R:ab} {e size:Nat} {A:Option bG} {n c:Nat} {xs:List S}
theorem Has.rowAt(h:Y w (ct e size (.slice A n c) n xs*R))(hn:0<n):
  ∃g cur,A=F (W g 0 I)∧n≤c∧c≤maxLen∧cur.size=c*size∧cur.toList.take (n*size)=xs∧Y w (aa g cur e*R):=by
 rcases h.rowCases with ⟨hv,rfl,_,_⟩|⟨g,cap,cur,hv,h1,h2,h3,h4,hb⟩
 ·omega
 ·injection hv with e1 e2 e3
  subst e1;subst e3;exact⟨g,cur,rfl,h1,h2,h3,h4,hb⟩
theorem Has.rowLens(h:Y w (ct e size (.slice A n c) n xs*R)):xs.length=n*size∧n≤9223372036854775807:=by
 have:=h.ownsRow.1;refine⟨this,?_⟩;rcases h.rowCases with ⟨hv,rfl,_,_⟩|⟨g,cap,cur,hv,h1,h2,h3,h4,hb⟩
 ·omega
 ·unfold maxLen at h2;omega
theorem Has.rowGet(h:Y w (ct e size (.slice A n c) n xs*R)){i:Nat}{u:S}(hu:xs[i]? =F u):
  ∃g,A=F (W g 0 I)∧g<w.heap.size∧w.cell? (W g i I)=F u∧w.frozen? (W g i I)=M:=by
 have hl:=h.rowLens.1;have hi:i<xs.length:=(bd.1 hu).1;have hn:0<n:=by
  rcases Nat.eq_zero_or_pos n with h0|h0
  ·subst h0;omega
  ·exact h0
 obtain⟨g,cur,rfl,h1,h2,h3,h4,hb⟩:=h.rowAt hn;refine⟨g,rfl,hb.lt,?_,hb.free i⟩;rw[hb.cell,←hu,←h4,List.getElem?_take,if_pos (by omega)];simp
theorem Has.rowSet{g:Nat}(h:Y w (ct e size (.slice (F (W g 0 I)) n c) n xs*R)){i:Nat}(hi:i<n*size)(u:S):
  Y (w.setCell (W g i I) u) (ct e size (.slice (F (W g 0 I)) n c) n (xs.set i u)*R):=by
 have hl:=h.rowLens.1;have hn:0<n:=by
  rcases Nat.eq_zero_or_pos n with h0|h0
  ·subst h0;omega
  ·exact h0
 obtain⟨g',cur,hg,h1,h2,h3,h4,hb⟩:=h.rowAt hn;injection hg with hg
 injection hg with hg
 subst hg;refine(hb.set i u).rowOf ?_ h1 h2 (by simp[h3]) ?_
 ·simp[hl]
 ·rw[←h4]
  simp[List.take_set]
theorem Has.rowCut{g k:Nat}(h:Y w (ct e size (.slice (F (W g 0 I)) n c) n xs*R))(hk:k≤n):
  Y w (ct e size (.slice (F (W g 0 I)) k c) k (xs.take (k*size))*R):=by
 have hl:=h.rowLens.1;rcases h.rowCases with ⟨hv,_,_,_⟩|⟨g',cap,cur,hv,h1,h2,h3,h4,hb⟩
 ·injection hv with a;cases a
 ·injection hv with e1 e2 e3
  injection e1 with e1
  injection e1 with e1
  subst e1;subst e3;have hks:k*size≤n*size:=Nat.mul_le_mul_right _ hk;refine hb.rowOf ?_ (by omega) h2 h3 ?_
  ·rw[List.length_take,hl];omega
  ·rw[←h4,List.take_take,Nat.min_eq_left hks]
theorem Has.rowSpare{g:Nat}(h:Y w (ct e size (.slice (F (W g 0 I)) n c) n xs*R)){i:Nat}(hi:n*size≤i)(u:S):
  Y (w.setCell (W g i I) u) (ct e size (.slice (F (W g 0 I)) n c) n xs*R):=by
 have hl:=h.rowLens.1;rcases h.rowCases with ⟨hv,_,_,_⟩|⟨g',cap,cur,hv,h1,h2,h3,h4,hb⟩
 ·injection hv with a;cases a
 ·injection hv with e1 e2 e3
  injection e1 with e1
  injection e1 with e1
  subst e1;subst e3;refine(hb.set i u).rowOf hl h1 h2 (by simp[h3]) ?_;rw[←h4,Array.toList_setIfInBounds,List.take_set_of_le hi]
theorem Has.rowSetCells{g:Nat}:∀(vs:List S) {w:N} {xs:List S} (i:Nat),Y w (ct e size (.slice (F (W g 0 I)) n c) n xs*R)→i+vs.length≤n*size→
  Y (w.setCells g i vs) (ct e size (.slice (F (W g 0 I)) n c) n (xs.take i++(vs++xs.drop (i+vs.length)))*R)
 | [],w,xs,i,h,_=>by
  have e1:xs.take i++([]++xs.drop (i+([]:List S).length))=xs:=by simp
  rw[e1];exact h
 |v::r,w,xs,i,h,hi=>by
  simp only[List.length_cons] at hi;have h1:=h.rowSet (i:=i) (by omega) v;have h2:=Has.rowSetCells r (i+1) h1 (by omega);have hl:=h.rowLens.1;have e1:(xs.set i v).take (i+1)++(r++(xs.set i v).drop (i+1+r.length))=xs.take i++(v::r++xs.drop (i+(v::r).length)):=by
   rw[List.drop_set_of_lt (by omega),List.take_succ_eq_append_getElem (by simp;omega)];rw[List.getElem_set_self,List.take_set_of_le (Nat.le_refl i),List.append_assoc];simp only[List.length_cons,List.cons_append,List.nil_append];rw[show i+1+r.length=i+(r.length+1) by omega]
  rw[e1] at h2;exact h2
theorem Has.rowSpareCells{g:Nat}:∀(vs:List S) {w:N} (i:Nat),Y w (ct e size (.slice (F (W g 0 I)) n c) n xs*R)→n*size≤i→
  Y (w.setCells g i vs) (ct e size (.slice (F (W g 0 I)) n c) n xs*R)
 | [],_,_,h,_=>h
 |v::r,_,i,h,hi=>Has.rowSpareCells r (i+1) (h.rowSpare hi v) (by omega)
end
section
variable {α:Type} (cells:α→List S) (sz:Nat)
def fW(l:List α):List S:=l.flatMap cells
variable {cells} {sz}
theorem qq(hs:∀x,(cells x).length =sz):∀(l:List α),(fW cells l).length =l.length*sz
 | []=>by simp[fW]
 |x::l=>by
  show(cells x++fW cells l).length =_;rw[b8,qq hs l,hs,List.length_cons,Nat.succ_mul,Nat.add_comm]
theorem iH(a b:List α):fW cells (a++b)=fW cells a++fW cells b:=by simp[fW]
theorem gr(hs:∀x,(cells x).length =sz):∀(l:List α) (k:Nat),(fW cells l).drop (k*sz)=fW cells (l.drop k)
 | [],k=>by simp[fW]
 |x::l,0=>by simp
 |x::l,k+1=>by
  show(cells x++fW cells l).drop ((k+1)*sz)=_;rw[Nat.succ_mul,Nat.add_comm,List.drop_append,hs,List.drop_eq_nil_of_le (by rw[hs];omega),Nat.add_sub_cancel_left,gr hs l k];rfl
theorem gu(hs:∀x,(cells x).length =sz):∀(l:List α) (k:Nat),(fW cells l).take (k*sz)=fW cells (l.take k)
 | [],k=>by simp[fW]
 |x::l,0=>by simp[fW]
 |x::l,k+1=>by
  show(cells x++fW cells l).take ((k+1)*sz)=_;rw[Nat.succ_mul,Nat.add_comm,List.take_append,hs,List.take_of_length_le (by rw[hs];omega),Nat.add_sub_cancel_left,gu hs l k];rfl
theorem lc(hs:∀x,(cells x).length =sz){l:List α}{k t:Nat}(hk:k<l.length)(ht:t<sz):(fW cells l)[k*sz+t]? =(cells l[k])[t]? :=by
 have h1:(fW cells l)[k*sz+t]? =((fW cells l).drop (k*sz))[t]? :=by rw[List.getElem?_drop]
 rw[h1,gr hs,List.drop_eq_getElem_cons hk];show(cells l[k]++fW cells (l.drop (k+1)))[t]? =_;rw[List.getElem?_append_left (by rw[hs];omega)]
theorem vz(hs:∀x,(cells x).length =sz){l:List α}{k:Nat}(hk:k<l.length)(x:α):
  (fW cells l).take (k*sz)++(cells x++(fW cells l).drop (k*sz+sz))=fW cells (l.set k x):=by
 rw[gu hs,show k*sz+sz=(k+1)*sz by rw[Nat.succ_mul],gr hs,List.set_eq_take_append_cons_drop,if_pos hk,iH];rfl
end
theorem gP{P:Program}(w:N)(t e ty:TypeId)(z:S)(size:Nat)(ht:P.underlying t=F (.slice e))(hv:∀w,(zeroValue e).run P w= .ok z w)(hz:z.cells.size=size)(h1:∀v∈z.cells.toList,v.oneCell'=O)(b o n c:Nat)(hn:0<n)(hs:0<size)
  (hc:∀j,j<n*size→(w.cell? ⟨b,o+j,I⟩).isSome =O) (hf:∀j,j<n*size→w.frozen? ⟨b,o+j,I⟩=M):
  (Builtin.clear_ #[t] ty #[.slice (F (W b o I)) n c]).run P w= .ok (.tuple #[]) (w.setCells b o (Builtin.zeroCells z.cells n).toList):=by
 have hl:(Builtin.zeroCells z.cells n).toList.length =n*size:=by rw[Array.length_toList,size_zeroCells,hz]
 have hst:=run_storeCells_cells (P:=P) b o (Builtin.zeroCells z.cells n).toList 0 w (by rw[hl];simpa using hc) (by rw[hl];simpa using hf) (by
  intro v hv';obtain⟨i,hi,rfl⟩:=List.getElem_of_mem hv';have hi':i<n*z.cells.size:=by simpa [hz] using (hl▸hi:i<n*size)
  have hm:i % z.cells.size<z.cells.size:=Nat.mod_lt _ (by rw[hz];exact hs);refine h1 _ ?_;simp only[Builtin.zeroCells,Array.toList_map,Array.toList_range,List.getElem_map,List.getElem_range];rw[getElem!_pos z.cells (i % z.cells.size) hm];exact Array.getElem_mem_toList hm)
 simp only[Nat.add_zero] at hst;obtain⟨m,rfl⟩:∃m,n=m+1:=⟨n - 1,by omega⟩;simp[Builtin.clear_,run_underlying ht,hv,hst]
section
variable {w w':N} {R:ab} {e size:Nat} {A:Option bG} {n c:Nat} {xs:List S}
theorem Has.rowDelete{g i j:Nat}(h:Y w (ct e size (.slice (F (W g 0 I)) n c) n xs*R))(hij:i≤j)(hj:j≤n)(zs:List S):
  Y ((w.setCells g (i*size) (xs.drop (j*size))).setCells g ((i+(n - j))*size) zs)
   (ct e size (.slice (F (W g 0 I)) (i+(n - j)) c) (i+(n - j)) (xs.take (i*size)++xs.drop (j*size))*R):=by
 have hl:=h.rowLens.1;have e1:j*size≤n*size:=Nat.mul_le_mul_right _ hj;have e2:i*size≤j*size:=Nat.mul_le_mul_right _ hij;have e3:(i+(n - j))*size=i*size+(n*size - j*size):=by rw[Nat.add_mul,Nat.sub_mul]
 have h1:=Has.rowSetCells (xs.drop (j*size)) (i*size) h (by rw[List.length_drop,hl];omega);have h2:=h1.rowCut (k:=i+(n - j)) (by omega);have h3:=Has.rowSpareCells zs ((i+(n - j))*size) h2 (Nat.le_refl _);have e4:(xs.take (i*size)++(xs.drop (j*size)++xs.drop (i*size+(xs.drop (j*size)).length))).take ((i+(n - j))*size)=xs.take (i*size)++xs.drop (j*size):=by
  have e5:(xs.take (i*size)++xs.drop (j*size)).length =(i+(n - j))*size:=by rw[b8,List.length_take,List.length_drop,hl];omega
  rw[←List.append_assoc,List.take_append_of_le_length (by omega),List.take_of_length_le (by omega)]
 rw[e4] at h3;exact h3
end
theorem co{P:Program}{ops:Array Oper}{o:Oper}{a:Act}{w:N}{R:ab}{K:Act→N→Prop}{Q:Exit→Act→N→Prop}{E:Prop}
  (hg:o.guard=I) (s x:Operand) (t:TypeId) (hop:o.op=Op.call {callee:=Callee.builtin Builtin.append,args:= #[s,x],argTypes:= #[t,t]})
  {e:TypeId} {z:S} {size bytes:Nat} (hT:P.underlying t=F (.slice e)) (hE:jD P e z size bytes)
  (v:S) (n:Nat) (xs:List S) (hs:a.eval s=v) (h:Y w (ct e size v n xs*R))
  (ad:bG) (m c:Nat) (news:List S) (hx:a.eval x= .slice (F ad) m c) (hl:news.length=m*size) (hnews:∀j u,news[j]? =F u→w.cell? (ad.add j)=F u) (h1:∀u∈news,u.oneCell'=O)
  (h63:n+m≤maxLen) (hbytes:(n+m)*bytes≤140737488355328)
  (hK:∀A c w',Y w' (ct e size (.slice A (n+m) c) (n+m) (xs++news)*R)→Ext w w'→K (a.put o.dst (.slice A (n+m) c)) w'):
  if Region.wanted o (yielded ops a.tmps)=O then Oper.wp P o a w K Q else E:=by
 have hw:Region.wanted o (yielded ops a.tmps)=O:=by simp[Region.wanted,hg]
 rw[if_pos hw];obtain⟨v',w',hrun,h2,h3⟩:=io (ty:=o.type) hT hE v n xs h ad m c news hl hnews h1 h63 hbytes;unfold Oper.wp;simp[execOp,hop,resolve,invoke,builtin,hs,hx,hrun,Result.andThen];have hf:∃A c,v'= .slice A (n+m) c:=by
  rcases h2.rowCases with ⟨hv,hn,_,_⟩|⟨g,cap,cur,hv,_⟩
  ·exact⟨I,0,by rw[hv,hn]⟩
  ·exact⟨_,_,hv⟩
 obtain⟨A,c',rfl⟩:=hf;exact hK A c' w' h2 h3
structure Stp where
 kind:Int
 core:Int
 m:Mp
 a:Ac
def Stp.cells(x:Stp):List S:=[G J x.kind,G J x.core,G J x.m.page,G J x.m.size,G J x.m.frame,G J x.m.rights,G J x.a.page,G J x.a.kind,vB x.a.user]
def Stp.ok(x:Stp):Prop:=cW x.kind∧cW x.core∧x.m.ok∧x.a.ok
theorem tG{cs:List S}(h:CellsOk [F .i64,F .i64,F .i64,F .i64,F .i64,F .i64,F .i64,F .i64,I] cs):∃x:Stp,cs=x.cells∧x.ok:=by
 obtain⟨a,c1,rfl,wa,g1⟩:=h.int;obtain⟨b,c2,rfl,wb,g2⟩:=g1.int;obtain⟨c,c3,rfl,wc,g3⟩:=g2.int;obtain⟨d,c4,rfl,wd,g4⟩:=g3.int;obtain⟨e,c5,rfl,we,g5⟩:=g4.int;obtain⟨f,c6,rfl,wf,g6⟩:=g5.int;obtain⟨p,c7,rfl,wp,g7⟩:=g6.int;obtain⟨k,c8,rfl,wk,g8⟩:=g7.int;obtain⟨u,c9,rfl,g9⟩:=g8.bool;obtain rfl:=g9.nil;exact⟨⟨a,b,⟨c,d,e,f⟩,⟨p,k,u⟩⟩,rfl,fT wa,fT wb,⟨fT wc,fT wd,fT we,fT wf⟩,fT wp,fT wk⟩
def a8(s:Ms):Nat→Ms|0=>s|k+1=>(a8 s k).takeS
theorem gG{s:Ms}(h:s.Ok):∀k,(a8 s k).Ok |0=>h|k+1=>(gG h k).takeS
theorem Has.onto'{w w':N}{P Q:ab}(h:Y w P)(h':Y w' (Q*bE w w.heap.size)):Y w' (Q*P):=by
 obtain⟨x,s,px⟩:=h;obtain⟨_,s',h1,h2,d,rfl,q,rfl⟩:=h';have sub:∀b o,x b=F o→(fun b=>if b<w.heap.size then w.heap[b]? else I) b=F o:=fun b o e=>by
  have h0:w.heap[b]? =F o:=s b o e;have hlt:b<w.heap.size:=(Array.getElem?_eq_some_iff.1 h0).1;show(if b<w.heap.size then w.heap[b]? else I)=F o;rw[if_pos hlt];exact h0
 refine⟨Hpm.union h1 x,?_,h1,x,?_,rfl,q,px⟩
 ·refine Hpm.sub_union (Hpm.sub_union_left s') fun b o e=> ?_
  exact Hpm.sub_union_right d s' b o (sub b o e)
 ·intro b
  rcases d b with e|e
  ·exact .inl e
  ·right
   cases hx:x b with
   |none=>rfl
   |some o=>rw[sub b o hx] at e;cases e
def eZ(s:Ms):Nat→List Int|0=>[]|k+1=>eZ s k++[(a8 s k).topV]
def bv(s:Ms)(l:List Int):Ms:=l.foldl Ms.giveS s
theorem jQ(s:Ms):∀k,(eZ s k).length =k|0=>rfl|k+1=>by simp[eZ,jQ s k]
theorem nb{s:Ms}(h:s.Ok):∀l,(bv s l).Ok
 | []=>h
 |k::l=>nb (h.giveS k) l
theorem kH(s:Ms)(l:List Int)(k:Int):bv s (l++[k])=(bv s l).giveS k:=by simp[bv]
theorem gH{s:Ms}{k:Nat}(h:s.top=F k):s.takeS.frees++[k]=s.frees:=by
 unfold Ms.takeS;rw[h];exact ca s k h
theorem fL(s:Ms):∀k,k≤s.frees.length→(a8 s k).frees =s.frees.take (s.frees.length - k)
 |0,_=>by simp[a8]
 |k+1,h=>by
  have ih:=fL s k (by omega);obtain⟨t,ht⟩:=jm (s:=a8 s k) (by rw[ih];simp;omega);have h1:=gH ht;show(a8 s k).takeS.frees =_;have h2:(a8 s k).takeS.frees =(a8 s k).frees.dropLast :=by rw[←h1];simp
  rw[h2,ih,List.dropLast_eq_take,List.take_take,List.length_take];congr 1
  omega
theorem Agree.giveS{s s':Ms}(h:Agree s s')(k:Int):Agree (s.giveS k) (s'.giveS k):=by
 unfold Ms.giveS;rw[←h.has k];split
 ·refine⟨h.n,fun j=> ?_,?_,fun j i hj=> ?_⟩
  ·show bT s.tk k.toNat M j=bT s'.tk k.toNat M j
   unfold bT;rw[h.tk]
  ·rw[bk,bk,h.fr]
  ·have hj:bT s.tk k.toNat M j=O:=hj
   unfold bT at hj;split at hj
   ·cases hj
   ·exact h.wd j i hj
 ·exact h
theorem Agree.giveL{s s':Ms}:∀(l:List Int),Agree s s'→Agree (bv s l) (bv s' l)
 | [],h=>h
 |k::l,h=>Agree.giveL l (h.giveS k)
theorem tH{s:Ms}(hs:s.Ok){k:Nat}(h:s.top=F k):Agree (s.takeS.giveS (k:Int)) s:=by
 have hl:=cd hs.inv h;have h1:=gH h;have hts:s.takeS=s.take k:=by unfold Ms.takeS;rw[h]
 have hh:s.takeS.has (k:Int)=O:=by rw[hts];exact dK hl.1
 have hg:s.takeS.giveS (k:Int)=s.takeS.give k:=by unfold Ms.giveS;rw[if_pos hh];rfl
 rw[hg];refine⟨?_,fun j=> ?_,?_,fun j i hj=> ?_⟩
 ·show s.takeS.n=s.n
  exact Ms.takeS_n s
 ·show bT s.takeS.tk k M j=s.tk j
  rw[hts];show bT (bT s.tk k O) k M j=s.tk j;unfold bT;by_cases e:j=k
  ·rw[if_pos e,e,hl.2]
  ·rw[if_neg e,if_neg e]
 ·rw[bk,h1]
 ·have hj:bT s.takeS.tk k M j=O:=hj
  unfold bT at hj;split at hj
  ·cases hj
  ·rename_i e
   show s.takeS.wd j i=s.wd j i;rw[hts];show(if j=k then(0:Int) else s.wd j i)=s.wd j i;rw[if_neg e]
theorem nc{s:Ms}(hs:s.Ok):∀k,k≤s.frees.length→Agree (bv (a8 s k) (eZ s k).reverse) s
 |0,_=>Agree.refl s
 |k+1,h=>by
  have hlen:0< (a8 s k).frees.length :=by rw[fL s k (by omega)];simp;omega
  obtain⟨t,ht⟩:=jm hlen;have e1:(a8 s k).topV =(t:Int):=by unfold Ms.topV;rw[ht]
  show Agree (bv (a8 s k).takeS (eZ s k++[(a8 s k).topV]).reverse) s;rw[List.reverse_append,e1];show Agree (bv ((a8 s k).takeS.giveS (t:Int)) (eZ s k).reverse) s;exact(Agree.giveL _ (tH (gG hs k) ht)).trans (nc hs k (by omega))
theorem tI{s:Ms}{k:Nat}(hk:k≤s.frees.length):((a8 s k).topV <0)↔k=s.frees.length:=by
 have hf:=fL s k hk;constructor
 ·intro h
  apply Classical.byContradiction;intro hn;obtain⟨t,ht⟩:=jm (s:=a8 s k) (by rw[hf];simp;omega);unfold Ms.topV at h;rw[ht] at h;have:(0:Int)≤t:=by omega
  dsimp only at h;omega
 ·intro h
  have he:(a8 s k).frees =[]:=by rw[hf,h];simp
  have ht:(a8 s k).top =I:=by rw[←b9,he];rfl
  unfold Ms.topV;rw[ht];decide
theorem bN(s:Int)(w:N):T prog 137 #[.int .i64 s] w (bz (G J (bn s)) w):=by
 by_cases h0:s<0
 ·have hy:=B (show bn s=0 by unfold bn;rw[if_neg (by omega),if_neg (by omega),if_neg (by omega)])
  go_enter func137,ntmps137;go_wp2;go_ret;exact⟨by rw[hy.out];rfl,rfl⟩
 by_cases h2:2<s
 ·have hy:=B (show bn s=0 by unfold bn;rw[if_neg (by omega),if_neg (by omega),if_neg (by omega)])
  go_enter func137,ntmps137;go_wp2;go_ret;exact⟨by rw[hy.out];rfl,rfl⟩
 obtain⟨k,rfl⟩:=U (show 0≤s by omega);have hk:k≤2:=by omega
 have hy:=B (show bn (k:Int)=aw k by
  have:k=0∨k=1∨k=2:=by omega
  rcases this with rfl|rfl|rfl<;>rfl)
 go_enter func137,ntmps137;go_wp2;go_loop [3,4] (fun x t=>∃j:Nat,j≤k∧t=G J j∧x=G J (aw j)) (fun _ t=>k - (intOf t).toNat)
 case atStart=>exact⟨0,by omega,rfl,rfl⟩
 case round=>
  obtain⟨j,hj,rfl,rfl⟩:=hrel;have hb:0≤aw j∧aw j≤64:=by
   have:j=0∨j=1∨j=2:=by omega
   rcases this with rfl|rfl|rfl<;>decide
  obtain⟨hb0,hb1⟩:=hb;by_cases hjk:j<k
  ·go_wp2
   go_round
   case rel=>exact⟨j+1,by omega,by go_num,by rw[show aw (j+1)=aw j*8 from Int.mul_comm _ _]⟩
   case measure=>simp[intOf];omega
  ·obtain rfl:j=k:=by omega
   go_wp2;go_ret;exact⟨by rw[hy.out];rfl,rfl⟩
theorem rz(p:Int)(h0:0≤p)(h1:p<4096):ap p 0=p % 8∧ap p 1=p / 8 % 8∧ap p 2=p / 64 % 8∧ap p 3=p / 512:=by
 unfold ap;rw[if_pos ⟨h0,h1,by decide,by decide⟩,if_pos ⟨h0,h1,by decide,by decide⟩,if_pos ⟨h0,h1,by decide,by decide⟩,if_pos ⟨h0,h1,by decide,by decide⟩];show p / 1 % 8=_∧p / 8 % 8=_∧p / 64 % 8=_∧p / 512 % 8=_;refine⟨by omega,rfl,rfl,by omega⟩
theorem ei(p l:Int)(w:N):T prog 120 #[.int .i64 p,.int .i64 l] w (bs (G J (ap p l)) w):=by
 by_cases hp:p<0
 ·have hy:=B (show ap p l= -1 by unfold ap;rw[if_neg (by omega)])
  go_enter func120,ntmps120;go_wp2;go_ret;exact⟨by rw[hy.out];rfl,Below.refl _ _⟩
 by_cases hp2:4096≤p
 ·have hy:=B (show ap p l= -1 by unfold ap;rw[if_neg (by omega)])
  go_enter func120,ntmps120;go_wp2;go_ret;exact⟨by rw[hy.out];rfl,Below.refl _ _⟩
 by_cases hl:l<0
 ·have hy:=B (show ap p l= -1 by unfold ap;rw[if_neg (by omega)])
  go_enter func120,ntmps120;go_wp2;go_ret;exact⟨by rw[hy.out];rfl,Below.refl _ _⟩
 by_cases hl2:4≤l
 ·have hy:=B (show ap p l= -1 by unfold ap;rw[if_neg (by omega)])
  go_enter func120,ntmps120;go_wp2;go_ret;exact⟨by rw[hy.out];rfl,Below.refl _ _⟩
 obtain⟨i0,i1,i2,i3⟩:=rz p (by omega) (by omega);have hl':l=0∨l=1∨l=2∨l=3:=by omega
 clear hl hl2;rcases hl' with rfl|rfl|rfl|rfl
 ·skip
  have hy:=i0;have h1:=af (aT w) #[G J (p % 8),G J (p / 8 % 8),G J (p / 64 % 8),G J (p / 512)] 3;obtain⟨c0,c1,c2,c3⟩:=h1.cells4;have e1:=h1.lt;go_enter func120,ntmps120;go_wp2;go_ret;exact⟨rfl,ar h1.right (ah)⟩
 ·skip
  have hy:=i1;have h1:=af (aT w) #[G J (p % 8),G J (p / 8 % 8),G J (p / 64 % 8),G J (p / 512)] 3;obtain⟨c0,c1,c2,c3⟩:=h1.cells4;have e1:=h1.lt;go_enter func120,ntmps120;go_wp2;go_ret;exact⟨rfl,ar h1.right (ah)⟩
 ·skip
  have hy:=i2;have h1:=af (aT w) #[G J (p % 8),G J (p / 8 % 8),G J (p / 64 % 8),G J (p / 512)] 3;obtain⟨c0,c1,c2,c3⟩:=h1.cells4;have e1:=h1.lt;go_enter func120,ntmps120;go_wp2;go_ret;exact⟨rfl,ar h1.right (ah)⟩
 ·skip
  have hy:=i3;have h1:=af (aT w) #[G J (p % 8),G J (p / 8 % 8),G J (p / 64 % 8),G J (p / 512)] 3;obtain⟨c0,c1,c2,c3⟩:=h1.cells4;have e1:=h1.lt;go_enter func120,ntmps120;go_wp2;go_ret;exact⟨rfl,ar h1.right (ah)⟩
theorem rA(mp mf mr:Int)(w:N)(h:0≤mp∧mp<4096∧0≤mf∧mf<1048576∧0≤mr∧mr≤7):
  T prog 125 #[.agg #[G J mp,G J 0,G J mf,G J mr]] w (bs (G J (if mp % 1≠0∨mf % 1≠0 then 3 else 0)) w):=by
 obtain⟨p0,p1,f0,f1,r0,r1⟩:=h;have h1:=af (aT w) #[G J mp,G J 0,G J mf,G J mr] 39;have x1:=(V w).alloc (.cells #[G J mp,G J 0,G J mf,G J mr] 39);have bl:=ar h1.right x1;obtain⟨c0,c1,c2,c3⟩:=h1.cells4;have v0:=ae c0;have v2:=ae c2;clear c0 c1 c2 c3 h1 x1;have hs:bn 0=1:=rfl;rw[if_neg (by omega)];go_enter func125,ntmps125;go_wp2_with(first|(go_at_call 137;refine(bN _ _).mono ?_;rintro e w' ⟨rfl,rfl⟩))
 refine au (by kernel_rfl) (by kernel_rfl) ?_;repeat(first|go_big_quiet_step (fail)|quiet_step (fail))
 refine wpQuiet_nil ?_;intro _ hw';obtain⟨uq,hw''⟩:=hw';subst hw'';go_wp2;go_ret;exact⟨rfl,bl.trans ((aE _ _).mono (by simp))⟩
theorem rB(mp mf mr:Int)(w:N)(h:0≤mp∧mp<4096∧0≤mf∧mf<1048576∧0≤mr∧mr≤7):
  T prog 125 #[.agg #[G J mp,G J 1,G J mf,G J mr]] w (bs (G J (if mp % 8≠0∨mf % 8≠0 then 3 else 0)) w):=by
 obtain⟨p0,p1,f0,f1,r0,r1⟩:=h;have h1:=af (aT w) #[G J mp,G J 1,G J mf,G J mr] 39;have x1:=(V w).alloc (.cells #[G J mp,G J 1,G J mf,G J mr] 39);have bl:=ar h1.right x1;obtain⟨c0,c1,c2,c3⟩:=h1.cells4;have v0:=ae c0;have v2:=ae c2;clear c0 c1 c2 c3 h1 x1;have hs:bn 1=8:=rfl;cases g0:(mp / 8*8 !=mp) with
 |false=>
  cases g1:(mf / 8*8 !=mf) with
  |false=>
   rw[show(if mp % 8≠0∨mf % 8≠0 then 3 else 0)=(0:Int) by simp only[bne_eq_false_iff_eq] at g0 g1;rw[if_neg (by omega)]];go_enter func125,ntmps125;go_wp2_with(first|(go_at_call 137;refine(bN _ _).mono ?_;rintro e w' ⟨rfl,rfl⟩))
   refine au (by kernel_rfl) (by kernel_rfl) ?_;repeat(first|go_big_quiet_step (fail)|quiet_step (fail))
   refine wpQuiet_nil ?_;intro _ hw';obtain⟨uq,hw''⟩:=hw';subst hw'';go_wp2;go_ret;exact⟨rfl,bl.trans ((aE _ _).mono (by simp))⟩
  |true=>
   rw[show(if mp % 8≠0∨mf % 8≠0 then 3 else 0)=(3:Int) by simp only[bne_iff_ne] at g1;rw[if_pos (by omega)]];go_enter func125,ntmps125;go_wp2_with(first|(go_at_call 137;refine(bN _ _).mono ?_;rintro e w' ⟨rfl,rfl⟩))
   refine au (by kernel_rfl) (by kernel_rfl) ?_;repeat(first|go_big_quiet_step (fail)|quiet_step (fail))
   refine wpQuiet_nil ?_;intro _ hw';obtain⟨uq,hw''⟩:=hw';subst hw'';go_wp2;go_ret;exact⟨rfl,bl.trans ((aE _ _).mono (by simp))⟩
 |true=>
  rw[show(if mp % 8≠0∨mf % 8≠0 then 3 else 0)=(3:Int) by simp only[bne_iff_ne] at g0;rw[if_pos (by omega)]];go_enter func125,ntmps125;go_wp2_with(first|(go_at_call 137;refine(bN _ _).mono ?_;rintro e w' ⟨rfl,rfl⟩))
  refine au (by kernel_rfl) (by kernel_rfl) ?_;repeat(first|go_big_quiet_step (fail)|quiet_step (fail))
  refine wpQuiet_nil ?_;intro _ hw';obtain⟨uq,hw''⟩:=hw';subst hw'';go_wp2;go_ret;exact⟨rfl,bl.trans ((aE _ _).mono (by simp))⟩
theorem rC(mp mf mr:Int)(w:N)(h:0≤mp∧mp<4096∧0≤mf∧mf<1048576∧0≤mr∧mr≤7):
  T prog 125 #[.agg #[G J mp,G J 2,G J mf,G J mr]] w (bs (G J (if mp % 64≠0∨mf % 64≠0 then 3 else 0)) w):=by
 obtain⟨p0,p1,f0,f1,r0,r1⟩:=h;have h1:=af (aT w) #[G J mp,G J 2,G J mf,G J mr] 39;have x1:=(V w).alloc (.cells #[G J mp,G J 2,G J mf,G J mr] 39);have bl:=ar h1.right x1;obtain⟨c0,c1,c2,c3⟩:=h1.cells4;have v0:=ae c0;have v2:=ae c2;clear c0 c1 c2 c3 h1 x1;have hs:bn 2=64:=rfl;cases g0:(mp / 64*64 !=mp) with
 |false=>
  cases g1:(mf / 64*64 !=mf) with
  |false=>
   rw[show(if mp % 64≠0∨mf % 64≠0 then 3 else 0)=(0:Int) by simp only[bne_eq_false_iff_eq] at g0 g1;rw[if_neg (by omega)]];go_enter func125,ntmps125;go_wp2_with(first|(go_at_call 137;refine(bN _ _).mono ?_;rintro e w' ⟨rfl,rfl⟩))
   refine au (by kernel_rfl) (by kernel_rfl) ?_;repeat(first|go_big_quiet_step (fail)|quiet_step (fail))
   refine wpQuiet_nil ?_;intro _ hw';obtain⟨uq,hw''⟩:=hw';subst hw'';go_wp2;go_ret;exact⟨rfl,bl.trans ((aE _ _).mono (by simp))⟩
  |true=>
   rw[show(if mp % 64≠0∨mf % 64≠0 then 3 else 0)=(3:Int) by simp only[bne_iff_ne] at g1;rw[if_pos (by omega)]];go_enter func125,ntmps125;go_wp2_with(first|(go_at_call 137;refine(bN _ _).mono ?_;rintro e w' ⟨rfl,rfl⟩))
   refine au (by kernel_rfl) (by kernel_rfl) ?_;repeat(first|go_big_quiet_step (fail)|quiet_step (fail))
   refine wpQuiet_nil ?_;intro _ hw';obtain⟨uq,hw''⟩:=hw';subst hw'';go_wp2;go_ret;exact⟨rfl,bl.trans ((aE _ _).mono (by simp))⟩
 |true=>
  rw[show(if mp % 64≠0∨mf % 64≠0 then 3 else 0)=(3:Int) by simp only[bne_iff_ne] at g0;rw[if_pos (by omega)]];go_enter func125,ntmps125;go_wp2_with(first|(go_at_call 137;refine(bN _ _).mono ?_;rintro e w' ⟨rfl,rfl⟩))
  refine au (by kernel_rfl) (by kernel_rfl) ?_;repeat(first|go_big_quiet_step (fail)|quiet_step (fail))
  refine wpQuiet_nil ?_;intro _ hw';obtain⟨uq,hw''⟩:=hw';subst hw'';go_wp2;go_ret;exact⟨rfl,bl.trans ((aE _ _).mono (by simp))⟩
theorem js(m:Mp)(w:N):T prog 125 #[.agg #[G J m.page,G J m.size,G J m.frame,G J m.rights]] w (bs (G J (bc m)) w):=by
 have bl:=ar (af (aT w) #[G J m.page,G J m.size,G J m.frame,G J m.rights] 39).right ((V w).alloc (.cells #[G J m.page,G J m.size,G J m.frame,G J m.rights] 39));by_cases s0:bn m.size=0
 ·skip
  have hy:=B (show bc m=2 by unfold bc;rw[if_pos s0]);go_enter func125,ntmps125;go_wp2_with(first|(go_at_call 137;refine(bN _ _).mono ?_;rintro e w' ⟨rfl,rfl⟩))
  go_ret;exact⟨by rw[hy.out];rfl,bl⟩
 have s1:m.size=0∨m.size=1∨m.size=2:=by unfold bn at s0;split at s0<;>(try split at s0)<;>(try split at s0)<;>simp_all
 have s0':(bn m.size==0)=M:=by simpa using s0
 by_cases p0:m.page<0
 ·skip
  have hy:=B (show bc m=1 by unfold bc;rw[if_neg s0,if_pos (by omega)]);go_enter func125,ntmps125;go_wp2_with(first|(go_at_call 137;refine(bN _ _).mono ?_;rintro e w' ⟨rfl,rfl⟩))
  go_ret;exact⟨by rw[hy.out];rfl,bl⟩
 by_cases p1:4096≤m.page
 ·skip
  have hy:=B (show bc m=1 by unfold bc;rw[if_neg s0,if_pos (by omega)]);go_enter func125,ntmps125;go_wp2_with(first|(go_at_call 137;refine(bN _ _).mono ?_;rintro e w' ⟨rfl,rfl⟩))
  go_ret;exact⟨by rw[hy.out];rfl,bl⟩
 by_cases f0:m.frame<0
 ·skip
  have hy:=B (show bc m=1 by unfold bc;rw[if_neg s0,if_pos (by omega)]);go_enter func125,ntmps125;go_wp2_with(first|(go_at_call 137;refine(bN _ _).mono ?_;rintro e w' ⟨rfl,rfl⟩))
  go_ret;exact⟨by rw[hy.out];rfl,bl⟩
 by_cases f1:1048576≤m.frame
 ·skip
  have hy:=B (show bc m=1 by unfold bc;rw[if_neg s0,if_pos (by omega)]);go_enter func125,ntmps125;go_wp2_with(first|(go_at_call 137;refine(bN _ _).mono ?_;rintro e w' ⟨rfl,rfl⟩))
  go_ret;exact⟨by rw[hy.out];rfl,bl⟩
 by_cases r0:m.rights<0
 ·skip
  have hy:=B (show bc m=1 by unfold bc;rw[if_neg s0,if_pos (by omega)]);go_enter func125,ntmps125;go_wp2_with(first|(go_at_call 137;refine(bN _ _).mono ?_;rintro e w' ⟨rfl,rfl⟩))
  go_ret;exact⟨by rw[hy.out];rfl,bl⟩
 by_cases r1:7<m.rights
 ·skip
  have hy:=B (show bc m=1 by unfold bc;rw[if_neg s0,if_pos (by omega)]);go_enter func125,ntmps125;go_wp2_with(first|(go_at_call 137;refine(bN _ _).mono ?_;rintro e w' ⟨rfl,rfl⟩))
  go_ret;exact⟨by rw[hy.out];rfl,bl⟩
 have e:bc m=if m.page % bn m.size≠0∨m.frame % bn m.size≠0 then 3 else 0:=by unfold bc;rw[if_neg s0,if_neg (by omega)]
 rw[e];obtain⟨mp,ms,mf,mr⟩:=m;dsimp only at*
 rcases s1 with rfl|rfl|rfl
 ·exact rA _ _ _ _ ⟨by omega,by omega,by omega,by omega,by omega,by omega⟩
 ·exact rB _ _ _ _ ⟨by omega,by omega,by omega,by omega,by omega,by omega⟩
 ·exact rC _ _ _ _ ⟨by omega,by omega,by omega,by omega,by omega,by omega⟩
theorem xa(s:Int):0≤bn s∧bn s≤64:=by unfold bn;split<;>(try split)<;>(try split)<;>omega
theorem jt(m:Mp)(p:Int)(w:N)(hm:cW m.page)(hp:cW p):
  T prog 147 #[.agg #[G J m.page,G J m.size,G J m.frame,G J m.rights],.int .i64 p] w (bs (vB (ax m p)) w):=by
 have h1:=af (aT w) #[G J m.page,G J m.size,G J m.frame,G J m.rights] 39;have x1:=(V w).alloc (.cells #[G J m.page,G J m.size,G J m.frame,G J m.rights] 39);have bl:=ar h1.right x1;obtain⟨c0,c1,c2,c3⟩:=h1.cells4;obtain⟨hm0,hm1⟩:=hm;obtain⟨hp0,hp1⟩:=hp;clear h1 x1;by_cases h0:p<m.page
 ·have hy:=B (show ax m p=M by unfold ax;simp;omega)
  go_enter func147,ntmps147;go_wp2_with fail
  go_ret;exact⟨by rw[hy.out];rfl,bl⟩
 ·obtain⟨s0,s1⟩:=xa m.size
  go_enter func147,ntmps147;go_wp2_with fail
  refine(bN _ _).mono ?_;rintro e w' ⟨rfl,rfl⟩;generalize hs:bn m.size=n at*
  have hS:=B hs;clear hs;go_wp2_with fail
  go_loop [1,6] (fun x t=>∃j:Nat,(j:Int)≤n∧(j:Int)≤p - m.page∧t=G J j∧x=G J (p - j)) (fun _ t=>n.toNat - (intOf t).toNat)
  case atStart=>exact⟨0,by omega,by omega,rfl,by simp⟩
  case round=>
   obtain⟨j,hj,hjp,rfl,rfl⟩:=hrel;by_cases hjn:(j:Int)<n
   ·by_cases he:p - j=m.page
    ·have hy:=B (show ax m p=O by unfold ax;rw[hS.out];simp;omega)
     have he':(p - (j:Int)==m.page)=O:=by simpa using he
     go_wp2_with fail
     go_ret;exact⟨by rw[hy.out];rfl,bl⟩
    ·have he':(p - (j:Int)==m.page)=M:=by simpa using he
     have he2:(p - (j:Int)== -9223372036854775808)=M:=by simp;omega
     go_wp2_with fail
     go_round
     case rel=>exact⟨j+1,by omega,by omega,by go_num,by go_num⟩
     case measure=>simp[intOf];omega
   ·have hy:=B (show ax m p=M by unfold ax;rw[hS.out];simp;omega)
    go_wp2_with fail
    go_ret;exact⟨by rw[hy.out];rfl,bl⟩
theorem vC(a b:Mp)(w:N)(ha:cW a.page)(hb:cW b.page):
  T prog 146 #[.agg #[G J a.page,G J a.size,G J a.frame,G J a.rights],.agg #[G J b.page,G J b.size,G J b.frame,G J b.rights]] w (bs (vB (dV a b)) w):=by
 have h1:=af (aT w) #[G J a.page,G J a.size,G J a.frame,G J a.rights] 39;have h2:=h1.new #[G J b.page,G J b.size,G J b.frame,G J b.rights] 39;have x2:=((V w).alloc (.cells #[G J a.page,G J a.size,G J a.frame,G J a.rights] 39)).alloc (.cells #[G J b.page,G J b.size,G J b.frame,G J b.rights] 39);simp only[ag] at h2;go_enter func146,ntmps146;go_wp2_with fail
 refine(jt a b.page _ ha hb).mono ?_;rintro e w2 ⟨rfl,b2⟩;have h3:=h2.below b2;obtain⟨c0,c1,c2,c3⟩:=h3.cells4;obtain⟨d0,d1,d2,d3⟩:=h3.right.cells4;cases ho:ax a b.page with
 |true=>
  have hy:=B (show dV a b=O by unfold dV;rw[ho];rfl);go_wp2_with fail
  go_ret;exact⟨by rw[hy.out];rfl,ar h3.right.right (x2.below b2)⟩
 |false=>
  go_wp2_with fail
  refine(jt b a.page _ hb ha).mono ?_;rintro e w3 ⟨rfl,b3⟩;have h4:=h3.below b3;have hy:=B (show dV a b=ax b a.page by unfold dV;rw[ho];rfl);go_wp2_with fail
  go_ret;exact⟨by rw[hy.out];rfl,ar h4.right.right ((x2.below b2).below b3)⟩
theorem yQ(r:Int):(bits .and .i64 r 1==0)= !aK r 1:=by
 have h':bits .and .i64 r 1=(((r % 8).toNat &&& 1:Nat):Int):=fU r 1 (by omega);rw[h'];unfold aK;have e1:r / 1 % 2=r % 8 % 2:=by omega
 have e2:r / 2 % 2=r % 8 / 2 % 2:=by omega
 have e4:r / 4 % 2=r % 8 / 4 % 2:=by omega
 first|rw[e4]|rw[e1]|rw[e2]
 rcases qp r with h|h|h|h|h|h|h|h<;>rw[h]<;>rfl
theorem yR(r:Int):(bits .and .i64 r 2==0)= !aK r 2:=by
 have h':bits .and .i64 r 2=(((r % 8).toNat &&& 2:Nat):Int):=fU r 2 (by omega);rw[h'];unfold aK;have e1:r / 1 % 2=r % 8 % 2:=by omega
 have e2:r / 2 % 2=r % 8 / 2 % 2:=by omega
 have e4:r / 4 % 2=r % 8 / 4 % 2:=by omega
 first|rw[e4]|rw[e1]|rw[e2]
 rcases qp r with h|h|h|h|h|h|h|h<;>rw[h]<;>rfl
theorem yS(r:Int):(bits .and .i64 r 4==0)= !aK r 4:=by
 have h':bits .and .i64 r 4=(((r % 8).toNat &&& 4:Nat):Int):=fU r 4 (by omega);rw[h'];unfold aK;have e1:r / 1 % 2=r % 8 % 2:=by omega
 have e2:r / 2 % 2=r % 8 / 2 % 2:=by omega
 have e4:r / 4 % 2=r % 8 / 4 % 2:=by omega
 first|rw[e4]|rw[e1]|rw[e2]
 rcases qp r with h|h|h|h|h|h|h|h<;>rw[h]<;>rfl
theorem jR(r p k:Int)(u:Bool)(w:N):T prog 123 #[.int .i64 r,.agg #[G J p,G J k,vB u]] w (bs (vB (bb r ⟨p,k,u⟩)) w):=by
 have h1:=af (aT w) #[G J p,G J k,vB u] 41;have bl:=ar h1.right ((V w).alloc (.cells #[G J p,G J k,vB u] 41));clear h1;have z1:=yQ r;have z2:=yR r;have z4:=yS r;have z2':(bits .and .i64 r 2 !=0)=aK r 2:=by
  unfold bne;rw[z2];simp
 by_cases k1:k=1
 ·subst k1
  clear z4 z2;cases g1:aK r 1 with
  |true=>
   rw[g1] at z1;cases u with
   |true=>
    rw[show bb r ⟨p,1,O⟩=(aK r 2) by unfold bb;rw[g1];simp];go_enter func123,ntmps123;go_wp2;go_ret;exact⟨rfl,bl⟩
   |false=>
    rw[show bb r ⟨p,1,M⟩=(O) by unfold bb;rw[g1];simp];go_enter func123,ntmps123;go_wp2;go_ret;exact⟨rfl,bl⟩
  |false=>
   rw[g1] at z1;rw[show bb r ⟨p,1,u⟩=(M) by unfold bb;rw[g1];simp];go_enter func123,ntmps123;go_wp2;go_ret;exact⟨rfl,bl⟩
 by_cases k2:k=2
 ·subst k2
  clear z1 z2;cases g4:aK r 4 with
  |true=>
   rw[g4] at z4;cases u with
   |true=>
    rw[show bb r ⟨p,2,O⟩=(aK r 2) by unfold bb;rw[g4];simp];go_enter func123,ntmps123;go_wp2;go_ret;exact⟨rfl,bl⟩
   |false=>
    rw[show bb r ⟨p,2,M⟩=(O) by unfold bb;rw[g4];simp];go_enter func123,ntmps123;go_wp2;go_ret;exact⟨rfl,bl⟩
  |false=>
   rw[g4] at z4;rw[show bb r ⟨p,2,u⟩=(M) by unfold bb;rw[g4];simp];go_enter func123,ntmps123;go_wp2;go_ret;exact⟨rfl,bl⟩
 have g1:(k==1)=M:=by simpa using k1
 have g2:(k==2)=M:=by simpa using k2
 clear z1 z4 z2;cases u with
 |true=>
  rw[show bb r ⟨p,k,O⟩=(aK r 2) by unfold bb;simp[k1,k2]];go_enter func123,ntmps123;go_wp2;go_ret;exact⟨rfl,bl⟩
 |false=>
  rw[show bb r ⟨p,k,M⟩=(O) by unfold bb;simp[k1,k2]];go_enter func123,ntmps123;go_wp2;go_ret;exact⟨rfl,bl⟩
theorem ey(p k:Int)(u:Bool)(w:N):T prog 50 #[.agg #[G J p,G J k,vB u]] w (bs (G J (aq ⟨p,k,u⟩)) w):=by
 have h1:=af (aT w) #[G J p,G J k,vB u] 41;have bl:=ar h1.right ((V w).alloc (.cells #[G J p,G J k,vB u] 41));clear h1;by_cases k0:k=0
 ·subst k0
  by_cases p0:p<0
  ·skip
   have hy:=B (show aq ⟨p,0,u⟩=1 by unfold aq;rw[if_neg (by simp),if_pos (by simp;omega)]);go_enter func50,ntmps50;go_wp2;go_ret;exact⟨by rw[hy.out];rfl,bl⟩
  by_cases p1:4096≤p
  ·skip
   have hy:=B (show aq ⟨p,0,u⟩=1 by unfold aq;rw[if_neg (by simp),if_pos (by simp;omega)]);go_enter func50,ntmps50;go_wp2;go_ret;exact⟨by rw[hy.out];rfl,bl⟩
  have hy:=B (show aq ⟨p,0,u⟩=0 by unfold aq;rw[if_neg (by simp),if_neg (by simp;omega)]);go_enter func50,ntmps50;go_wp2;go_ret;exact⟨by rw[hy.out];rfl,bl⟩
 by_cases k1:k=1
 ·subst k1
  by_cases p0:p<0
  ·skip
   have hy:=B (show aq ⟨p,1,u⟩=1 by unfold aq;rw[if_neg (by simp),if_pos (by simp;omega)]);go_enter func50,ntmps50;go_wp2;go_ret;exact⟨by rw[hy.out];rfl,bl⟩
  by_cases p1:4096≤p
  ·skip
   have hy:=B (show aq ⟨p,1,u⟩=1 by unfold aq;rw[if_neg (by simp),if_pos (by simp;omega)]);go_enter func50,ntmps50;go_wp2;go_ret;exact⟨by rw[hy.out];rfl,bl⟩
  have hy:=B (show aq ⟨p,1,u⟩=0 by unfold aq;rw[if_neg (by simp),if_neg (by simp;omega)]);go_enter func50,ntmps50;go_wp2;go_ret;exact⟨by rw[hy.out];rfl,bl⟩
 by_cases k2:k=2
 ·subst k2
  by_cases p0:p<0
  ·skip
   have hy:=B (show aq ⟨p,2,u⟩=1 by unfold aq;rw[if_neg (by simp),if_pos (by simp;omega)]);go_enter func50,ntmps50;go_wp2;go_ret;exact⟨by rw[hy.out];rfl,bl⟩
  by_cases p1:4096≤p
  ·skip
   have hy:=B (show aq ⟨p,2,u⟩=1 by unfold aq;rw[if_neg (by simp),if_pos (by simp;omega)]);go_enter func50,ntmps50;go_wp2;go_ret;exact⟨by rw[hy.out];rfl,bl⟩
  have hy:=B (show aq ⟨p,2,u⟩=0 by unfold aq;rw[if_neg (by simp),if_neg (by simp;omega)]);go_enter func50,ntmps50;go_wp2;go_ret;exact⟨by rw[hy.out];rfl,bl⟩
 have g0:(k !=0)=O:=by simpa using k0
 have g1:(k !=1)=O:=by simpa using k1
 have g2:(k !=2)=O:=by simpa using k2
 have hk:=B (show k<0∨2<k by omega);clear k0 k1 k2;have hy:=B (show aq ⟨p,k,u⟩=2 by unfold aq;rw[if_pos (by simpa using hk.out)]);go_enter func50,ntmps50;go_wp2;go_ret;exact⟨by rw[hy.out];rfl,bl⟩
theorem oZ(f p q:Int):wrap64 (f+wrap64 (p - q))=wrap64 (wrap64 (f+p) - q):=by
 unfold wrap64;omega
theorem hO(m:Mp)(p k:Int)(u:Bool)(w:N):
  T prog 92 #[.agg #[G J m.page,G J m.size,G J m.frame,G J m.rights],.agg #[G J p,G J k,vB u]] w (bs (bF m ⟨p,k,u⟩).val w):=by
 have h1:=af (aT w) #[G J m.page,G J m.size,G J m.frame,G J m.rights] 39;have h2:=h1.new #[G J p,G J k,vB u] 41;have h3:=h2.new #[G J 0,G J 0,G J 0] 34;have x3:=(((V w).alloc (.cells #[G J m.page,G J m.size,G J m.frame,G J m.rights] 39)).alloc (.cells #[G J p,G J k,vB u] 41)).alloc (.cells #[G J 0,G J 0,G J 0] 34);simp only[ag] at h3;cases hm:bb m.rights ⟨p,k,u⟩ with
 |true=>
  have hy:=B (show bF m ⟨p,k,u⟩=⟨0,wrap64 (m.frame+wrap64 (p - m.page)),m.rights⟩ by unfold bF;rw[hm,oZ];rfl);go_enter func92,ntmps92;go_wp2_with fail
  refine(jR _ _ _ _ _).mono ?_;rintro e w1 ⟨rfl,b1⟩;have h4:=h3.below b1;have e1:=h4.lt;obtain⟨c0,c1,c2⟩:=h4.cells3;obtain⟨d0,d1,d2⟩:=h4.right.cells3;obtain⟨m0,m1,m2,m3⟩:=h4.right.right.cells4;obtain⟨f0,f1,f2⟩:=h4.frees3;have h5:=((h4.set 0 (G J 0)).set 1 (G J (wrap64 (m.frame+wrap64 (p - m.page))))).set 2 (G J m.rights);go_wp2_with fail
  exact al (v:= .agg #[G J 0,G J (wrap64 (m.frame+wrap64 (p - m.page))),G J m.rights]) (by simp[results,results92,go_sem,c0,c1,c2]) rfl
   ⟨by rw[hy.out];rfl,ar h5.r3 (ah)⟩
 |false=>
  have hy:=B (show bF m ⟨p,k,u⟩=⟨2,0,0⟩ by unfold bF;rw[hm];rfl);go_enter func92,ntmps92;go_wp2_with fail
  refine(jR _ _ _ _ _).mono ?_;rintro e w1 ⟨rfl,b1⟩;have h4:=h3.below b1;have e1:=h4.lt;obtain⟨c0,c1,c2⟩:=h4.cells3;obtain⟨f0,f1,f2⟩:=h4.frees3;have h5:=((h4.set 0 (G J 2)).set 1 (G J 0)).set 2 (G J 0);go_wp2_with fail
  exact al (v:= .agg #[G J 2,G J 0,G J 0]) (by simp[results,results92,go_sem,c0,c1,c2]) rfl
   ⟨by rw[hy.out];rfl,ar h5.r3 (ah)⟩
theorem cB(c:Int)(w:N):T prog 196 #[.bool M,.int .i64 c] w (bz (.tuple #[]) w):=by
 go_enter func196,ntmps196;go_wp2;go_end0
 exact⟨rfl,rfl⟩
def AO(c:Int)(w:N)(e:Ending)(w':N):Prop:=e= .panicked [{v:= .iface 254 (G J c),recovered:=M}]∧w=w'
theorem bQ(c:Int)(w:N):T prog 196 #[.bool O,.int .i64 c] w (AO c w):=by
 go_enter func196,ntmps196;go_wp2;exact⟨rfl,rfl,rfl⟩
theorem eM(l:Int)(w:N):T prog 174 #[.int .i64 l] w (bz (G J l) w):=by
 go_enter func174,ntmps174;go_wp2;go_ret;exact⟨rfl,rfl⟩
theorem j5(b:Bool)(n:Int)(w:N):T prog 183 #[.bool b,.int .u64 n] w (bz (G vU (iS b n)) w):=by
 cases b with
 |true=>
  go_enter func183,ntmps183;go_wp2;go_ret;exact⟨rfl,rfl⟩
 |false=>
  go_enter func183,ntmps183;go_wp2;go_ret;exact⟨rfl,rfl⟩
theorem qs(c:Int)(w:N):(Instr.typeAssert (.iface 254 (G J c)) 20 254 O).run prog w= .ok (.tuple #[G J c,vB O]) w:=by kernel_rfl
theorem nG(p:bG)(x c:Int)(older:List PanicEntry)(w:N)(hc:w.cell? p=F (G J x))(hz:w.frozen? p=M):
  CallsD prog 195 #[.pointer (F p)] (.panicking ({v:= .iface 254 (G J c),recovered:=M}::older)) w fun e u' w'=>
   e= .returned (.tuple #[])∧u'= .panicking ({v:= .iface 254 (G J c),recovered:=O}::older)∧w'=w.setCell p (G J c):=by
 have hta:=qs c;refine callsD_of_wpS func195 rfl fun c₀ cs hu=> ?_;apply wpS_seq;apply wpS_region;simp[wpOpsS,go_sem,recoverD,hu,ntmps195,Exit.thenS];apply wpS_seq;apply wpS_region;simp[wpOpsS,go_sem,Exit.thenS];refine wpS_cond (t:=O) (by simp[Act.eval,Array.replicate]) ?_;simp only[if_true];apply wpS_seq;apply wpS_region;simp[wpOpsS,go_sem,Exit.thenS,hta];apply wpS_seq;apply wpS_seq;apply wpS_region;simp[wpOpsS,go_sem,Exit.thenS];refine wpS_cond (t:=M) (by simp[Act.eval,Array.replicate]) ?_;simp only[Bool.false_eq_true,if_false];refine wpS_of_wp (wp_skip ?_);simp only[Exit.thenS];apply wpS_region;simp[wpOpsS,go_sem,hc,hz,bodyPostS,results,results195]
theorem o8(p:bG)(w:N):
  CallsD prog 195 #[.pointer (F p)] .returning w fun e u' w'=>e= .returned (.tuple #[])∧u'= .returning ∧w'=w:=by
 refine callsD_of_wpS func195 rfl fun c₀ cs hu=> ?_;apply wpS_seq;apply wpS_region;simp[wpOpsS,go_sem,recoverD,hu,ntmps195,Exit.thenS];apply wpS_seq;apply wpS_region;simp[wpOpsS,go_sem,Exit.thenS];refine wpS_cond (t:=M) (by simp[Act.eval,Array.replicate]) ?_;simp only[Bool.false_eq_true,if_false];refine wpS_of_wp (wp_skip ?_);cases c₀;simp_all [bodyPostS,results,results195]
end Go.Proofs.YtmfheghbgihdmaaGreat
