/- Bits of a word of a table, as arithmetic. Plain lemmas. -/
import Derived.Test.YtmfheghbgihdmaaGreatDoorSep
import Derived.Lib.VarintBits
import Derived.Test.YtmfheghbgihdmaaGreatDoorTblM3
import Derived.Laws.Rows
import Derived.Test.YtmfheghbgihdmaaGreatDoorPage
import Derived.Deep.RegionHeld3
import Derived.Test.YtmfheghbgihdmaaGreatDoorWalkM2
namespace Go.Proofs.YtmfheghbgihdmaaGreatDoor
open Bool renaming false→g,true→D
open Option renaming none→q,some→an
open Go renaming World→G,bodyPost_ret→N,Value→ad,Addr→ax,Calls→a0
open Go.Lib renaming hid→I
open Go.Value renaming bool→J,int→Y
open Go.Ending renaming returned→M
open Go.Addr renaming mk→U
open Go.IntKind renaming i64→Z
open Go.Proofs.YtmfheghbgihdmaaGreatDoor renaming Has→af,Ext→au
open Go.World renaming size_alloc→ag
open List renaming length_append→ak,getElem?_eq_some_iff→ap
open Int renaming eq_ofNat_of_zero_le→al
open Tryz
open Go.RowKit
theorem jz(W m k:Nat):W&&& (m*2 ^ k)=((W / 2 ^ k)&&& m)*2 ^ k:=by
 apply Nat.eq_of_testBit_eq;intro i;rw[Nat.testBit_and,Nat.testBit_mul_two_pow,Nat.testBit_mul_two_pow,Nat.testBit_and,Nat.testBit_div_two_pow];by_cases h:k≤i
 ·rw[show i - k+k=i by omega]
  simp[h]
 ·simp[h]
theorem sO(W:Nat):(W&&& 18446744069414588176=0)↔(W / 16 % 2=0∧W / 256 % 16=0∧W / 4294967296 % 4294967296=0):=by
 have e:18446744069414588176=(1*2 ^ 4)|||((15*2 ^ 8)|||(4294967295*2 ^ 32)):=by decide
 have a1:∀x:Nat,x&&& 1=x % 2:=fun x=>Nat.and_two_pow_sub_one_eq_mod x 1;have a2:∀x:Nat,x&&& 15=x % 16:=fun x=>Nat.and_two_pow_sub_one_eq_mod x 4;have a3:∀x:Nat,x&&& 4294967295=x % 4294967296:=fun x=>Nat.and_two_pow_sub_one_eq_mod x 32;rw[e,Nat.and_or_distrib_left,Nat.and_or_distrib_left,jz,jz,jz,a1,a2,a3,Nat.or_eq_zero_iff,Nat.or_eq_zero_iff];omega
theorem lq(n:Nat)(h:n<18446744073709551616):(BitVec.ofInt 64 (n:Int)).toNat =n:=by
 rw[BitVec.ofInt_natCast,BitVec.toNat_ofNat];omega
theorem xZ(n:Nat)(h:n<18446744073709551616):IntKind.u64.wrap (n:Int)=n:=by rw[IntKind.wrap_u64];omega
def jk(w:Int):Bool:= !(decide (w / 16 % 2=0)&&(decide (w / 256 % 16=0)&&decide (w<4294967296)))
theorem oF(w:Int)(h0:0≤w)(h1:w<18446744073709551616):(bits .andNot .u64 w 4294963439 !=0)=jk w:=by
 obtain⟨n,rfl⟩:=al h0;have hv:bits .andNot .u64 (n:Int) 4294963439=((n&&& 18446744069414588176:Nat):Int):=by
  show IntKind.u64.wrap ((BitVec.ofInt 64 (n:Int)&&& ~~~BitVec.ofInt 64 ((4294963439:Nat):Int)).toNat :Int)=_;rw[BitVec.toNat_and,BitVec.toNat_not,lq n (by omega),lq 4294963439 (by decide)];rw[show 2 ^ 64 - 1 - 4294963439=18446744069414588176 by decide];exact xZ _ (Nat.lt_of_le_of_lt Nat.and_le_left (by omega))
 rw[hv];have hk:=sO n;unfold jk;by_cases h:n&&& 18446744069414588176=0
 ·rw[h]
  obtain⟨a,b,c⟩:=hk.1 h;have a':(n:Int) / 16 % 2=0:=by omega
  have b':(n:Int) / 256 % 16=0:=by omega
  have c':(n:Int)<4294967296:=by omega
  simp[a',b',c']
 ·have:(((n&&& 18446744069414588176:Nat):Int) !=0)=D:=by
   rw[bne_iff_ne];omega
  rw[this];symm;rw[Bool.not_eq_true',Bool.eq_false_iff];intro hh;simp only[Bool.and_eq_true,decide_eq_true_eq] at hh;obtain⟨a,b,c⟩:=hh;exact h (hk.2 ⟨by omega,by omega,by omega⟩)
theorem oG(w:Int)(k:Nat)(hk:k<64)(h0:0≤w)(h1:w<18446744073709551616):(bits .and .u64 w ((2 ^ k:Nat):Int) !=0)=bg w ((2 ^ k:Nat):Int):=by
 obtain⟨n,rfl⟩:=al h0;have hp:2 ^ k<18446744073709551616:=by
  have:2 ^ k<2 ^ 64:=Nat.pow_lt_pow_right (by omega) hk;simpa using this
 have hv:bits .and .u64 (n:Int) ((2 ^ k:Nat):Int)=((n / 2 ^ k % 2*2 ^ k:Nat):Int):=by
  show IntKind.u64.wrap ((BitVec.ofInt 64 (n:Int)&&& BitVec.ofInt 64 ((2 ^ k:Nat):Int)).toNat :Int)=_;rw[BitVec.toNat_and,lq n (by omega),lq _ hp];have a1:∀x:Nat,x&&& 1=x % 2:=fun x=>Nat.and_two_pow_sub_one_eq_mod x 1;have:=jz n 1 k;rw[Nat.one_mul,a1] at this;rw[this];exact xZ _ (by rw[←this];exact Nat.lt_of_le_of_lt Nat.and_le_left (by omega))
 rw[hv];unfold bg;rw[←Int.natCast_ediv];have hpos:0<2 ^ k:=Nat.two_pow_pos k;have:n / 2 ^ k % 2=0∨n / 2 ^ k % 2=1:=by omega
 generalize n / 2 ^ k=m at*
 rcases this with h|h
 ·have e:(m:Int) % 2=0:=by omega
  rw[h,e,Nat.zero_mul];rfl
 ·have e:(m:Int) % 2=1:=by omega
  rw[h,e];rw[bne_iff_ne.2 (by omega)];rfl
theorem zV(w:Int)(h0:0≤w)(h1:w<18446744073709551616):(bits .and .u64 w 32 !=0)=bg w 32:=oG w 5 (by decide) h0 h1
theorem zW(w:Int)(h0:0≤w)(h1:w<18446744073709551616):(bits .and .u64 w 64 !=0)=bg w 64:=oG w 6 (by decide) h0 h1
theorem yQ(w:Int)(h0:0≤w)(h1:w<18446744073709551616):(bits .and .u64 w 128 !=0)=bg w 128:=oG w 7 (by decide) h0 h1
theorem AO(w:Int)(h0:0≤w)(h1:w<18446744073709551616):bits .and .u64 w 1=w % 2:=by
 have h:=bits_mask .u64 64 (by decide) wraps_u64 1 (by decide) w h0 (by omega);simpa using h
theorem AP(w:Int)(h0:0≤w)(h1:w<18446744073709551616):bits .and .u64 (w / 2) 7=w / 2 % 8:=by
 have h:=bits_mask .u64 64 (by decide) wraps_u64 3 (by decide) (w / 2) (by omega) (by omega);simpa using h
def ic(w l:Int):ad:= .tuple #[.agg #[J (aC w l).there,J (aC w l).leaf,Y Z (aC w l).rights,J (aC w l).used,J (aC w l).dirty,Y Z (aC w l).frame],Y Z (bv w l)]
theorem fd{w l c:Int}(h:bv w l=c)(hc:c≠0∨w=0):ic w l= .tuple #[.agg #[J g,J g,Y Z 0,J g,J g,Y Z 0],Y Z c]:=by
 unfold ic;have:aC w l=En.zero:=by
  unfold aC;rw[if_neg];rintro⟨a,b⟩;rcases hc with hc|hc
  ·exact hc (h▸a)
  ·exact b hc
 rw[this,h];rfl
theorem jY{w l:Int}(hl:0≤l∧l<4)(h:jk w=D∨(w % 2=0∧w≠0)∨(l=0∧bg w 128=D)):bv w l=7:=by
 unfold bv;rw[if_neg (by omega),if_pos];rintro⟨a,b,c,d,e⟩;rcases h with h|h|⟨h1,h2⟩
 ·unfold jk at h
  simp[a,b,c] at h
 ·omega
 ·have:=e h1
  unfold bg at h2;simp at h2;omega
theorem rJ{w l:Int}(hl:0≤l∧l<4)(h1:jk w=g)(h2:w=0∨w % 2=1)(h3:l=0→bg w 128=g):bv w l=if w=0 then 0 else ao (eK w l) l:=by
 unfold bv;rw[if_neg (by omega),if_neg];rw[Decidable.not_not];unfold jk at h1;simp at h1;obtain⟨a,b,c⟩:=h1;refine⟨a,b,c,h2,fun e=> ?_⟩;have:=h3 e;unfold bg at this;simp at this;omega
theorem jZ{e:En}{l a:Int}(h:ao e l≠0∨e.leaf=g∨cN a=g):aK e l a=Mp.zero:=by
 unfold aK;rw[if_neg];rintro⟨h1,h2,h3,h4⟩;rcases h with h|h|h
 ·exact h h1
 ·rw[h] at h2;cases h2
 ·unfold cN at h
  simp at h;omega
theorem Has.set6{w:G}{R:ab}{b:Nat}{v0 v1 v2 v3 v4 v5:ad}{t:TypeId}(h:af w (aa b #[v0,v1,v2,v3,v4,v5] t*R))(u0 u1 u2 u3 u4 u5:ad):
  af ((((((w.setCell (U b 0 q) u0).setCell (U b 1 q) u1).setCell (U b 2 q) u2).setCell (U b 3 q) u3).setCell (U b 4 q) u4).setCell (U b 5 q) u5) (aa b #[u0,u1,u2,u3,u4,u5] t*R):=
 (((((h.set 0 u0).set 1 u1).set 2 u2).set 3 u3).set 4 u4).set 5 u5
theorem Has.frees6{w:G}{R:ab}{b:Nat}{v0 v1 v2 v3 v4 v5:ad}{t:TypeId}(h:af w (aa b #[v0,v1,v2,v3,v4,v5] t*R)):
  w.frozen? (U b 0 q)=g∧w.frozen? (U b 1 q)=g∧w.frozen? (U b 2 q)=g∧w.frozen? (U b 3 q)=g∧w.frozen? (U b 4 q)=g∧w.frozen? (U b 5 q)=g:=
 ⟨h.free 0,h.free 1,h.free 2,h.free 3,h.free 4,h.free 5⟩
theorem ay{P:Program}{fn:Func}{R:Ending→G→Prop}{a:Act}{w:G}(F:G→Prop)(hF:F w)(h:∀wz,F wz→bodyPost P fn R .ret a wz):bodyPost P fn R .ret a w:=h w hF
section
variable {P:Program} {fn:Func} {tmps:Array ad} {w:G}
theorem aR{a:Nat}{t:TypeId}{p:ax}{v:ad}(hr:fn.results= #[.cell a t])(ha:tmps.getD a undef= .pointer (an p))(hl:(loadVar t p).run P w= .ok v w):(results fn tmps).run P w= .ok v w:=by
 unfold results;rw[hr];simp only[Array.getD_eq_getD_getElem?] at ha;simp[asAddr,ha,hl]
theorem aF{a b:Nat}{t:TypeId}{p:ax}{v u:ad}(hr:fn.results= #[.cell a t,.tmp b])(ha:tmps.getD a undef= .pointer (an p))(hb:tmps.getD b undef=u)(hl:(loadVar t p).run P w= .ok v w):
  (results fn tmps).run P w= .ok (.tuple #[v,u]) w:=by
 unfold results;rw[hr];simp only[Array.getD_eq_getD_getElem?] at ha hb;simp[asAddr,ha,hb,hl]
theorem cP{a b c:Nat}{t:TypeId}{p:ax}{v u x:ad}(hr:fn.results= #[.cell a t,.tmp b,.tmp c])(ha:tmps.getD a undef= .pointer (an p))(hb:tmps.getD b undef=u)(hc:tmps.getD c undef=x)(hl:(loadVar t p).run P w= .ok v w):
  (results fn tmps).run P w= .ok (.tuple #[v,u,x]) w:=by
 unfold results;rw[hr];simp only[Array.getD_eq_getD_getElem?] at ha hb hc;simp[asAddr,ha,hb,hc,hl]
end
theorem co{w:G}{R:ab}{b:Nat}{v0 v1 v2 v3 v4 v5:ad}(h:af w (aa b #[v0,v1,v2,v3,v4,v5] 81*R)):(loadVar 81 (U b 0 q)).run prog w= .ok (.agg #[v0,v1,v2,v3,v4,v5]) w:=
 run_loadVar_row w b 81 81 _ _ _ h.heap underlying81 rfl (by kernel_rfl)
theorem br{w:G}{R:ab}{b:Nat}{v0 v1 v2 v3:ad}(h:af w (aa b #[v0,v1,v2,v3] 75*R)):(loadVar 75 (U b 0 q)).run prog w= .ok (.agg #[v0,v1,v2,v3]) w:=
 run_loadVar_row w b 75 75 _ _ _ h.heap underlying75 rfl (by kernel_rfl)
theorem cZ{w:G}{R:ab}{b:Nat}{v0 v1 v2:ad}(h:af w (aa b #[v0,v1,v2] 70*R)):(loadVar 70 (U b 0 q)).run prog w= .ok (.agg #[v0,v1,v2]) w:=
 run_loadVar_row w b 70 70 _ _ _ h.heap underlying70 rfl (by kernel_rfl)
theorem cI{w:G}{R:ab}{b:Nat}{v0 v1:ad}(h:af w (aa b #[v0,v1] 33*R)):(loadVar 33 (U b 0 q)).run prog w= .ok (.agg #[v0,v1]) w:=
 run_loadVar_row w b 33 33 _ _ _ h.heap underlying33 rfl (by kernel_rfl)
set_option maxRecDepth 100000
set_option maxHeartbeats 4000000 in
theorem j0(w l:Int)(W:G)(h0:0≤w)(h1:w<18446744073709551616):a0 prog 201 #[.int .u64 w,.int .i64 l] W (Pure (ic w l) W):=by
 have hw:=Has.new (bc W) #[J g,J g,Y Z 0,J g,J g,Y Z 0] 81;have xw:=(Ext.refl W).alloc (.cells #[J g,J g,Y Z 0,J g,J g,Y Z 0] 81);by_cases l0:l<0
 ·have hy:=I (fd (w:=w) (l:=l) (c:=1) (by unfold bv;rw[if_pos (.inl l0)]) (.inl (by decide)))
  generalize ic _ l=V at hy⊢;go_enter func201,ntmps201;go_wp2
  all_goals exact N (aF results201 rfl rfl (co hw)) rfl ⟨congrArg M hy.out.symm,aA hw.right xw⟩
 by_cases l4:4≤l
 ·have hy:=I (fd (w:=w) (l:=l) (c:=1) (by unfold bv;rw[if_pos (.inr l4)]) (.inl (by decide)))
  generalize ic _ l=V at hy⊢;go_enter func201,ntmps201;go_wp2
  all_goals exact N (aF results201 rfl rfl (co hw)) rfl ⟨congrArg M hy.out.symm,aA hw.right xw⟩
 have e1:=AO w h0 h1;have e7:=AP w h0 h1;have e32:=zV w h0 h1;have e64:=zW w h0 h1;have e128:=yQ w h0 h1;have eA:=oF w h0 h1;have hl:0≤l∧l<4:=by omega
 cases hs:jk w with
 |true=>
  have hy:=I (fd (jY hl (.inl hs)) (.inl (by decide)));rw[hs] at eA;clear hs hl;generalize ic _ l=V at hy⊢;go_enter func201,ntmps201;go_wp2
  all_goals exact N (aF results201 rfl rfl (co hw)) rfl ⟨congrArg M hy.out.symm,aA hw.right xw⟩
 |false=>
  rw[hs] at eA;by_cases wz:w=0
  ·subst wz
   have hy:=I (fd (w:=0) (l:=l) (c:=0) (by rw[rJ hl hs (.inl rfl) (fun _=>rfl)];rfl) (.inr rfl));have z:(bits .and .u64 0 128 !=0)=g:=rfl;clear hs hl e1 e7 e32 e64 e128;have e1:bits .and .u64 0 1=0:=rfl;generalize ic _ l=V at hy⊢;go_enter func201,ntmps201;go_wp2
   all_goals exact N (aF results201 rfl rfl (co hw)) rfl ⟨congrArg M hy.out.symm,aA hw.right xw⟩
  have wz':(w !=0)=D:=by simpa using wz
  have wz'':(w==0)=g:=by simpa using wz
  by_cases w1:w % 2=0
  ·have hy:=I (fd (jY hl (.inr (.inl ⟨w1,wz⟩))) (.inl (by decide)))
   have w1':(w % 2==0)=D:=by simpa using w1
   clear hs hl w1 wz;generalize ic _ l=V at hy⊢;go_enter func201,ntmps201;go_wp2
   all_goals exact N (aF results201 rfl rfl (co hw)) rfl ⟨congrArg M hy.out.symm,aA hw.right xw⟩
  have w1':(w % 2==0)=g:=by simpa using w1
  have w2:w % 2=1:=by omega
  by_cases lz:l=0∧bg w 128=D
  ·obtain⟨rfl,lb⟩:=lz
   have hy:=I (fd (jY hl (.inr (.inr ⟨rfl,lb⟩))) (.inl (by decide)));rw[lb] at e128;clear hs hl w1 wz w2 lb;generalize ic _ 0=V at hy⊢;go_enter func201,ntmps201;go_wp2
   all_goals exact N (aF results201 rfl rfl (co hw)) rfl ⟨congrArg M hy.out.symm,aA hw.right xw⟩
  have hd:bv w l=ao (eK w l) l:=by
   rw[rJ hl hs (.inr w2) (fun e=> ?_),if_neg wz];cases hb:bg w 128 with
   |false=>rfl
   |true=>exact absurd ⟨e,hb⟩ lz
  have b32:w<4294967296:=by
   unfold jk at hs;simp at hs;exact hs.2.2
  have hv0:bv w l=0→ic w l= .tuple #[.agg #[J D,J (eK w l).leaf,Y Z (w / 2 % 8),J (bg w 32),J (bg w 64),Y Z (w / 4096)],Y Z 0]:=fun hc=>by
   unfold ic aC;rw[if_pos ⟨hc,wz⟩,hc];rfl
  have hv0:=I hv0;by_cases l00:l=0
  ·subst l00
   have he:eK w 0=⟨D,D,w / 2 % 8,bg w 32,bg w 64,w / 4096⟩:=rfl;have e128':bg w 128=g:=by
    cases hb:bg w 128 with
    |false=>rfl
    |true=>exact absurd ⟨rfl,hb⟩ lz
   rw[e128'] at e128;clear e128';have HC:∀X,a0 prog 202 #[.agg #[J D,J (D),Y Z (w / 2 % 8),J (bg w 32),J (bg w 64),Y Z (w / 4096)],.int .i64 0] X (Pure (Y Z (bv w 0)) X):=fun X=>by
    have:=gg (eK w 0) 0 X;rw[←hd,he] at this;exact this
   have HC:=I HC;rw[he] at hv0;have hx:=hw.new #[J D,J (D),Y Z (w / 2 % 8),J (bg w 32),J (bg w 64),Y Z (w / 4096)] 81;have xx:=xw.alloc (.cells #[J D,J (D),Y Z (w / 2 % 8),J (bg w 32),J (bg w 64),Y Z (w / 4096)] 81);simp only[ag] at hx;have hno:=I (fun hc=>fd (w:=w) (l:=0) (c:=bv w 0) rfl (.inl hc));clear hs hl w1 wz w2 lz hd he;by_cases hc:bv w 0=0
   ·have hy:=I (hv0.out hc)
    rw[hc] at HC;clear hc hv0 hno;generalize ic w 0=V at hy⊢;go_enter func201,ntmps201;go_wp2_with fail
    refine(HC.out _).mono ?_;rintro e w2 ⟨rfl,bl⟩;have h2:=hx.below bl;have x2:=xx.below bl;obtain⟨c0,c1,c2,c3,c4,c5⟩:=h2.cells6;obtain⟨d0,d1,d2,d3,d4,d5⟩:=h2.right.cells6;obtain⟨f0,f1,f2,f3,f4,f5⟩:=h2.right.frees6;have l2:=h2.right.lt;clear HC bl hx xx hw xw;go_wp2;refine ay (fun wz=>af wz (aa W.heap.size #[J D,J (D),Y Z (w / 2 % 8),J (bg w 32),J (bg w 64),Y Z (w / 4096)] 81*cr W W.heap.size)∧au W wz) ⟨h2.right.set6 _ _ _ _ _ _,aj⟩ ?_;rintro wz ⟨hz,xz⟩;exact N (aF results201 rfl rfl (co hz)) rfl ⟨congrArg M hy.out.symm,aA hz.right xz⟩
   ·have hy:=I (hno.out hc)
    have hn:(bv w 0 !=0)=D:=by simpa using hc
    clear hc hv0 hno;generalize ic w 0=V at hy⊢;generalize bv w 0=c at*
    go_enter func201,ntmps201;go_wp2_with fail
    refine(HC.out _).mono ?_;rintro e w2 ⟨rfl,bl⟩;have h2:=hx.below bl;have x2:=xx.below bl;obtain⟨c0,c1,c2,c3,c4,c5⟩:=h2.cells6;obtain⟨d0,d1,d2,d3,d4,d5⟩:=h2.right.cells6;obtain⟨f0,f1,f2,f3,f4,f5⟩:=h2.right.frees6;have l2:=h2.right.lt;clear HC bl hx xx hw xw;go_wp2;refine ay (fun wz=>af wz (aa W.heap.size #[J g,J g,Y Z 0,J g,J g,Y Z 0] 81*cr W W.heap.size)∧au W wz) ⟨h2.right.set6 _ _ _ _ _ _,aj⟩ ?_;rintro wz ⟨hz,xz⟩;exact N (aF results201 rfl rfl (co hz)) rfl ⟨congrArg M hy.out.symm,aA hz.right xz⟩
  ·have l00':(l==0)=g:=by simpa using l00
   have he:eK w l=⟨D,bg w 128,w / 2 % 8,bg w 32,bg w 64,w / 4096⟩:=by unfold eK;rw[l00'];rfl
   clear l00;have HC:∀X,a0 prog 202 #[.agg #[J D,J (bg w 128),Y Z (w / 2 % 8),J (bg w 32),J (bg w 64),Y Z (w / 4096)],.int .i64 l] X (Pure (Y Z (bv w l)) X):=fun X=>by
    have:=gg (eK w l) l X;rw[←hd,he] at this;exact this
   have HC:=I HC;rw[he] at hv0;have hx:=hw.new #[J D,J (bg w 128),Y Z (w / 2 % 8),J (bg w 32),J (bg w 64),Y Z (w / 4096)] 81;have xx:=xw.alloc (.cells #[J D,J (bg w 128),Y Z (w / 2 % 8),J (bg w 32),J (bg w 64),Y Z (w / 4096)] 81);simp only[ag] at hx;have hno:=I (fun hc=>fd (w:=w) (l:=l) (c:=bv w l) rfl (.inl hc));clear hs hl w1 wz w2 lz hd he;by_cases hc:bv w l=0
   ·have hy:=I (hv0.out hc)
    rw[hc] at HC;clear hc hv0 hno;generalize ic w l=V at hy⊢;go_enter func201,ntmps201;go_wp2_with fail
    refine(HC.out _).mono ?_;rintro e w2 ⟨rfl,bl⟩;have h2:=hx.below bl;have x2:=xx.below bl;obtain⟨c0,c1,c2,c3,c4,c5⟩:=h2.cells6;obtain⟨d0,d1,d2,d3,d4,d5⟩:=h2.right.cells6;obtain⟨f0,f1,f2,f3,f4,f5⟩:=h2.right.frees6;have l2:=h2.right.lt;clear HC bl hx xx hw xw;go_wp2;refine ay (fun wz=>af wz (aa W.heap.size #[J D,J (bg w 128),Y Z (w / 2 % 8),J (bg w 32),J (bg w 64),Y Z (w / 4096)] 81*cr W W.heap.size)∧au W wz) ⟨h2.right.set6 _ _ _ _ _ _,aj⟩ ?_;rintro wz ⟨hz,xz⟩;exact N (aF results201 rfl rfl (co hz)) rfl ⟨congrArg M hy.out.symm,aA hz.right xz⟩
   ·have hy:=I (hno.out hc)
    have hn:(bv w l !=0)=D:=by simpa using hc
    clear hc hv0 hno;generalize ic w l=V at hy⊢;generalize bv w l=c at*
    go_enter func201,ntmps201;go_wp2_with fail
    refine(HC.out _).mono ?_;rintro e w2 ⟨rfl,bl⟩;have h2:=hx.below bl;have x2:=xx.below bl;obtain⟨c0,c1,c2,c3,c4,c5⟩:=h2.cells6;obtain⟨d0,d1,d2,d3,d4,d5⟩:=h2.right.cells6;obtain⟨f0,f1,f2,f3,f4,f5⟩:=h2.right.frees6;have l2:=h2.right.lt;clear HC bl hx xx hw xw;go_wp2;refine ay (fun wz=>af wz (aa W.heap.size #[J g,J g,Y Z 0,J g,J g,Y Z 0] 81*cr W W.heap.size)∧au W wz) ⟨h2.right.set6 _ _ _ _ _ _,aj⟩ ?_;rintro wz ⟨hz,xz⟩;exact N (aF results201 rfl rfl (co hz)) rfl ⟨congrArg M hy.out.symm,aA hz.right xz⟩
section
variable {P:Program} {md:Region.Mode} {ops:Array Oper} {Q:Exit→Act→G→Prop} (S:Array Bool→G→Prop)
def mg(P:Program)(md:Region.Mode)(ops:Array Oper)(Q:Exit→Act→G→Prop):Nat→Array Bool→Act→G→Prop
 |0,L,a,w=>Region.ready md ops L=[]∧Q .normal a w
 |n+1,L,a,w=>(Region.ready md ops L=[]→Q .normal a w)∧
   ∀k,k∈Region.ready md ops L→wpOp P ops Q k (fun b u=>S (L.setIfInBounds k D) u∧mg P md ops Q n (L.setIfInBounds k D) b u) a w
variable {S}
theorem pG:∀{n:Nat} {L:Array Bool} {a:Act} {w:G},mg S P md ops Q n L a w→wpAny P md ops Q n L a w
 |0,_,_,_,h=>h
 |_+1,_,_,_,⟨h1,h2⟩=>⟨h1,fun k hk=>wpOp_mono (fun _ _ h=>pG h.2) (h2 k hk)⟩
def yb(S:Array Bool→G→Prop)(i:Nat)(w:G):Prop:=∃L,L.getD i g=g∧S L w
structure Good (md:Region.Mode) (ops:Array Oper) (i:Nat) (S:Array Bool→G→Prop):Prop where
 up:∀L w,S L w→S (L.setIfInBounds i D) w
 back:∀(L:Array Bool) (j:Nat) (oj:Oper) (w w':G),S L w→L.getD i g=g→ops[j]? =an oj→j≠i→(∀e∈oj.after,Region.binds md e=D→e.on≠i)→
  S ((L.setIfInBounds j D).setIfInBounds i D) w'→S (L.setIfInBounds j D) w'
theorem Good.and{i:Nat}{S T:Array Bool→G→Prop}(h1:Good md ops i S)(h2:Good md ops i T):Good md ops i fun L w=>S L w∧T L w:=
 ⟨fun L w h=>⟨h1.up L w h.1,h2.up L w h.2⟩,fun L j oj w w' h hi ho hj hn h'=>⟨h1.back L j oj w w' h.1 hi ho hj hn h'.1,h2.back L j oj w w' h.2 hi ho hj hn h'.2⟩⟩
def Till(k d:Nat)(p:G→Prop)(L:Array Bool)(w:G):Prop:=(L.getD k g=D→L.getD d g=D)∧(L.getD k g=g→p w)
theorem pH{L:Array Bool}{j k:Nat}(h:(L.setIfInBounds j D).getD k g=D):k=j∨L.getD k g=D:=by
 by_cases e:j=k
 ·exact .inl e.symm
 ·rw[getD_set_ne g e] at h
  exact .inr h
theorem Good.till{i k d:Nat}{p:G→Prop}(hk:i≠k)(hd:∃o e,ops[k]? =an o∧e∈o.after∧Region.binds md e=D∧e.on=d):Good md ops i (Till k d p):=by
 constructor
 ·rintro L w ⟨h1,h2⟩
  constructor
  ·intro h
   rw[getD_set_ne g hk] at h;exact getD_set_true (h1 h)
  ·intro h
   rw[getD_set_ne g hk] at h;exact h2 h
 ·rintro L j oj w w' ⟨h1,_⟩ hi hoj hj hn ⟨g1,g2⟩
  constructor
  ·intro h
   have hd':=g1 (getD_set_true h);by_cases e:i=d
   ·exfalso
    rcases pH h with hkj|hkj
    ·obtain⟨o,x,ho,hx,hb,hxd⟩:=hd
     rw[hkj,hoj] at ho;injection ho with ho
     subst ho;exact hn x hx hb (hxd.trans e.symm)
    ·have:=h1 hkj
     rw[←e,hi] at this;cases this
   ·rwa [getD_set_ne g e] at hd'
  ·intro h
   refine g2 ?_;rw[getD_set_ne g hk];exact h
theorem Till.still{k d:Nat}{p:G→Prop}{w:G}{L:Array Bool}(h:Till k d p L w)(hd:L.getD d g=g):p w:=by
 refine h.2 ?_;cases hk:L.getD k g with
 |false=>rfl
 |true=>rw[h.1 hk] at hd;cases hd
theorem aU{b:Bool}{p:Prop}(h:b=D)(h':b=g):p:=by rw[h] at h';cases h'
theorem Till.start{k d n:Nat}{p:G→Prop}{w:G}(h:p w):Till k d p (Array.replicate n g) w:=by
 have e:(Array.replicate n g).getD k g=g:=by
  rcases Nat.lt_or_ge k n with h|h
  ·simp[h]
  ·simp[h]
 exact⟨fun h=>(by rw[e] at h;cases h),fun _=>h⟩
theorem qU{i:Nat}{o:Oper}{v:ad}(hi:ops[i]? =an o)(hsel:∀(j:Nat) (o:Oper) cs b,ops[j]? =an o→o.op≠ .select cs b)
  (hQ:∀c a w,Q (.panic c) (a.put o.dst v) w→Q (.panic c) a w) (hG:Good md ops i S):
  ∀(n:Nat) (L:Array Bool) (a:Act) (w:G),
   (∀j oj,ops[j]? =an oj→j≠i→L.getD j D=g→(∀e∈oj.after,Region.binds md e=D→e.on≠i)→o.apart ops oj=D)→
   i∈Region.ready md ops L→YieldsIf P ops (yb S i) o v a→S L w→
   mg S P md ops Q n (L.setIfInBounds i D) (a.put o.dst v) w→mg S P md ops Q (n+1) L a w:=by
 intro n;induction n with
 |zero=>
  intro L a w _ hr hy h0 H;have hun:L.getD i g=g:=by
   have:=(mem_ready.1 hr).1;rcases Nat.lt_or_ge i L.size with h|h
   ·simpa [h] using this
   ·simp[Array.getElem?_eq_none h]
  constructor
  ·intro h
   rw[h] at hr;cases hr
  ·intro j hj
   by_cases e:j=i
   ·subst e
    exact hy.wpOp hi ⟨L,hun,h0⟩ ⟨hG.up _ _ h0,H⟩
   ·have hm:=ready_mono hj e
    rw[H.1] at hm;cases hm
 |succ n ih=>
  intro L a w hfree hr hy h0 H;have hun:L.getD i g=g:=by
   have:=(mem_ready.1 hr).1;rcases Nat.lt_or_ge i L.size with h|h
   ·simpa [h] using this
   ·simp[Array.getElem?_eq_none h]
  constructor
  ·intro h
   rw[h] at hr;cases hr
  ·intro j hj
   by_cases e:j=i
   ·subst e
    exact hy.wpOp hi ⟨L,hun,h0⟩ ⟨hG.up _ _ h0,H⟩
   ·obtain⟨hjun,oj,hoj,hall⟩:=mem_ready.1 hj
    have hno:∀x∈oj.after,Region.binds md x=D→x.on≠i:=by
     intro x hx hb he;have hl:=hall x hx hb;rw[he,hun] at hl;cases hl
    have step:=wpOp_putIf hoj (hfree j oj hoj e hjun hno) (fun cs b=>hsel i o cs b hi) (fun cs b=>hsel j oj cs b hoj) hQ hy (H.2 j (ready_mono hj e));refine wpOp_mono ?_ step;rintro a' w' ⟨y',s',H'⟩;rw[Array.setIfInBounds_comm _ _ (Ne.symm e)] at s' H';refine⟨hG.back L j oj w w' h0 hun hoj e hno s',ih _ a' w' ?_ (ready_mono hr (Ne.symm e)) y' (hG.back L j oj w w' h0 hun hoj e hno s') H'⟩;intro k ok hk hki hku hkn;refine hfree k ok hk hki ?_ hkn;by_cases hjk:j=k
    ·subst hjk
     exact hjun
    ·rwa [getD_set_ne D hjk] at hku
theorem aZ{i:Nat}{o:Oper}{v:ad}{n:Nat}{L:Array Bool}{a:Act}{w:G}(hi:ops[i]? =an o)
  (hs:Region.noSelect ops=D) (hf:Region.free md ops L i=D) (hr:(Region.ready md ops L).contains i=D)
  (hQ:∀c a w,Q (.panic c) (a.put o.dst v) w→Q (.panic c) a w) (hG:Good md ops i S) (hy:YieldsIf P ops (yb S i) o v a) (h0:S L w)
  (h:S (L.setIfInBounds i D) w→mg S P md ops Q n (L.setIfInBounds i D) (a.put o.dst v) w):mg S P md ops Q (n+1) L a w:=
 qU hi (Region.noSelect_spec hs) hQ hG n L a w (Region.free_spec hi hf) (by simpa using hr) hy h0 (h (hG.up _ _ h0))
theorem gp{n:Nat}{L:Array Bool}{a:Act}{w:G}(hr:Region.ready md ops L=[])(h:Q .normal a w):mg S P md ops Q n L a w:=by
 cases n with
 |zero=>exact⟨hr,h⟩
 |succ n=>exact⟨fun _=>h,fun k hk=>by rw[hr] at hk;cases hk⟩
def OneOf(S:Array Bool→G→Prop)(P:Program)(md:Region.Mode)(ops:Array Oper)(Q:Exit→Act→G→Prop)(n:Nat)(L:Array Bool)(a:Act)(w:G)(rs:List Nat):Prop:=
 ∀k∈rs,wpOp P ops Q k (fun b u=>S (L.setIfInBounds k D) u∧mg S P md ops Q n (L.setIfInBounds k D) b u) a w
theorem OneOf.nil{n:Nat}{L:Array Bool}{a:Act}{w:G}:OneOf S P md ops Q n L a w []:=fun _ h=>by cases h
theorem OneOf.cons{n:Nat}{L:Array Bool}{a:Act}{w:G}{i:Nat}{o:Oper}{rs:List Nat}(ho:ops[i]? =an o)
  (h:∀K:Act→G→Prop,Shut (∀b u,S (L.setIfInBounds i D) u→(S (L.setIfInBounds i D) u→mg S P md ops Q n (L.setIfInBounds i D) b u)→K b u)→
   if Region.wanted o (yielded ops a.tmps)=D then Oper.wp P o a w K Q else K (a.put o.dst undef) w)
  (hs:OneOf S P md ops Q n L a w rs):OneOf S P md ops Q n L a w (i::rs):=by
 intro k hk;rcases List.mem_cons.1 hk with e|hk
 ·subst e
  exact wpOp_step ho fun K hK=>h K fun b u h1 h2=>hK b u ⟨h1,h2 h1⟩
 ·exact hs k hk
theorem aY{rs:List Nat}{n:Nat}{L:Array Bool}{a:Act}{w:G}(hr:Region.ready md ops L=rs)(hne:rs≠[])
  (h:OneOf S P md ops Q n L a w rs):mg S P md ops Q (n+1) L a w:=by
 constructor
 ·intro e
  exact absurd (hr.symm.trans e) hne
 ·intro k hk
  exact h k (hr▸hk)
theorem kr{id:Nat}{a:Act}{w:G}(hm:P.follows .mixedOrders =D)(h0:S (Array.replicate ops.size g) w.drew)
  (h:S (Array.replicate ops.size g) w.drew→mg S P .any ops Q ops.size (Array.replicate ops.size g) a w.drew):(Code.region id ops D).wp P Q a w:=
 wp_region_any hm (pG (h h0))
end
def aq(v:ad)(l:List Int):ab:=bt 3 1 v l.length (l.map (Y Z))
theorem uC{p L:Int}(hp:cN p=D)(h0:0≤L)(h3:L≤3):0≤ai p L∧ai p L<8:=by
 have hp':0≤p∧p<4096:=by unfold cN at hp;simpa using hp
 obtain⟨L,rfl⟩:=al h0;rw[qs hp'.1 hp'.2 (by omega)];omega
theorem dJ{s:Ms}{t p L:Int}(hp:cN p=D)(h0:0≤L)(h3:L≤3):s.hasW t (ai p L)=s.has t:=by
 obtain⟨i0,i8⟩:=uC hp h0 h3;unfold Ms.hasW;simp[i0,i8]
def aB(p:Int)(n:Nat):List Int:=(List.range n).map fun(i:Nat)=>ai p (3 - (i:Int))
theorem jM(p:Int)(n:Nat):aB p (n+1)=aB p n++[ai p (3 - (n:Int))]:=by simp[aB,List.range_succ]
theorem ge(p:Int)(n:Nat):(aB p n).length =n:=by simp[aB]
theorem Has.set9{w:G}{R:ab}{b:Nat}{v0 v1 v2 v3 v4 v5 v6 v7 v8:ad}{t:TypeId}(h:af w (aa b #[v0,v1,v2,v3,v4,v5,v6,v7,v8] t*R))(u0 u1 u2 u3 u4 u5 u6 u7 u8:ad):
  af ((((((((((w.setCell (U b 0 q) u0).setCell (U b 1 q) u1).setCell (U b 2 q) u2).setCell (U b 3 q) u3).setCell (U b 4 q) u4).setCell (U b 5 q) u5).setCell (U b 6 q) u6).setCell (U b 7 q) u7).setCell (U b 8 q) u8)) (aa b #[u0,u1,u2,u3,u4,u5,u6,u7,u8] t*R):=by
 have h0:af _ (aa b #[u0,v1,v2,v3,v4,v5,v6,v7,v8] t*R):=h.set 0 u0;have h1:af _ (aa b #[u0,u1,v2,v3,v4,v5,v6,v7,v8] t*R):=h0.set 1 u1;have h2:af _ (aa b #[u0,u1,u2,v3,v4,v5,v6,v7,v8] t*R):=h1.set 2 u2;have h3:af _ (aa b #[u0,u1,u2,u3,v4,v5,v6,v7,v8] t*R):=h2.set 3 u3;have h4:af _ (aa b #[u0,u1,u2,u3,u4,v5,v6,v7,v8] t*R):=h3.set 4 u4;have h5:af _ (aa b #[u0,u1,u2,u3,u4,u5,v6,v7,v8] t*R):=h4.set 5 u5;have h6:af _ (aa b #[u0,u1,u2,u3,u4,u5,u6,v7,v8] t*R):=h5.set 6 u6;have h7:af _ (aa b #[u0,u1,u2,u3,u4,u5,u6,u7,v8] t*R):=h6.set 7 u7;have h8:af _ (aa b #[u0,u1,u2,u3,u4,u5,u6,u7,u8] t*R):=h7.set 8 u8;exact h8
theorem Has.frees9{w:G}{R:ab}{b:Nat}{v0 v1 v2 v3 v4 v5 v6 v7 v8:ad}{t:TypeId}(h:af w (aa b #[v0,v1,v2,v3,v4,v5,v6,v7,v8] t*R)):
  w.frozen? (U b 0 q)=g∧w.frozen? (U b 1 q)=g∧w.frozen? (U b 2 q)=g∧w.frozen? (U b 3 q)=g∧w.frozen? (U b 4 q)=g∧w.frozen? (U b 5 q)=g∧w.frozen? (U b 6 q)=g∧w.frozen? (U b 7 q)=g∧w.frozen? (U b 8 q)=g:=
 ⟨h.free 0,h.free 1,h.free 2,h.free 3,h.free 4,h.free 5,h.free 6,h.free 7,h.free 8⟩
theorem Ext.set9{w0 w:G}(h:au w0 w)(b:Nat)(u0 u1 u2 u3 u4 u5 u6 u7 u8:ad):au w0 ((((((((((w.setCell (U b 0 q) u0).setCell (U b 1 q) u1).setCell (U b 2 q) u2).setCell (U b 3 q) u3).setCell (U b 4 q) u4).setCell (U b 5 q) u5).setCell (U b 6 q) u6).setCell (U b 7 q) u7).setCell (U b 8 q) u8)):=
 (((((((((h.set _ _).set _ _).set _ _).set _ _).set _ _).set _ _).set _ _).set _ _).set _ _)
theorem eP{w:G}{R:ab}{b:Nat}{v0 v1 v2 v3 v4 v5 v6 v7 v8:ad}(h:af w (aa b #[v0,v1,v2,v3,v4,v5,v6,v7,v8] 248*R)):(loadVar 248 (U b 0 q)).run prog w= .ok (.agg #[v0,v1,v2,v3,v4,v5,v6,v7,v8]) w:=
 run_loadVar_row w b 248 248 _ _ _ h.heap underlying248 rfl (by kernel_rfl)
def uD(y:Wy)(A B:Option ax)(n c d:Nat):ad:= .tuple #[.agg #[Y Z y.lev,J y.e.there,J y.e.leaf,Y Z y.e.rights,J y.e.used,J y.e.dirty,Y Z y.e.frame,.slice A n c,.slice B n d],Y Z y.code]
def uE(y:Wy)(p:Int)(w:G)(e:Ending)(w':G):Prop:=
 ∃A B c d,e= .returned (uD y A B y.tabs.length c d)∧af w' (aq (.slice A y.tabs.length c) y.tabs*(aq (.slice B y.tabs.length d) (aB p y.tabs.length)*cr w w.heap.size))∧au w w'
def lev(w:G)(b:Nat):Nat:=match w.cell? (U b 0 q) with|some (.int _ n)=>n.toNat|_=>0
theorem Has.build{w:G}{A B C:ab}(h:af w (A*(B*C)))(cs:Array ad)(t:TypeId):af (w.alloc (.cells cs t)) (A*(B*(aa w.heap.size cs t*C))):=by
 have h1:=h.new cs t;rw[av,av (aa w.heap.size cs t) B C] at h1;exact h1
theorem eR{w:G}{b:Nat}{v:ad}(h:w.cell? (U b 0 q)=an v):∀j u,([v]:List ad)[j]? =an u→w.cell? (((U b 0 q):ax).add j)=an u:=by
 intro j u hj;match j,hj with
 |0,hj=>simp at hj;subst hj;exact h
theorem mh{w:G}{A:Option ax}{c:Nat}{l:List Int}{P:ab}(h:af w (aq (.slice A l.length c) l*P)):af w (bt 3 1 (.slice A l.length c) l.length (l.map (Y Z))*P):=h
theorem mi{w:G}{v:ad}{p:Int}{n:Nat}{P:ab}(h:af w (aq v (aB p n)*P)):af w (bt 3 1 v n ((aB p n).map (Y Z))*P):=by
 unfold aq at h;rw[ge] at h;exact h
theorem mj{w:G}{A B J1 J2 C:ab}(h:af w (A*(B*(J1*(J2*C))))):af w (A*(B*C)):=h.drop3.drop3
theorem mn{w:G}{A B C:ab}{b:Nat}{v0 v1 v2 v3 v4 v5 v6 v7 v8:ad}{t:TypeId}(h:af w (A*(B*(aa b #[v0,v1,v2,v3,v4,v5,v6,v7,v8] t*C))))(u7 u8:ad):
  af ((w.setCell (U b 7 q) u7).setCell (U b 8 q) u8) (A*(B*(aa b #[v0,v1,v2,v3,v4,v5,v6,u7,u8] t*C))):=by
 rw[av B,av A] at h;have h1:af _ (aa b #[v0,v1,v2,v3,v4,v5,v6,u7,v8] t*_):=h.set 7 u7;have h2:af _ (aa b #[v0,v1,v2,v3,v4,v5,v6,u7,u8] t*_):=h1.set 8 u8;rw[av B,av A];exact h2
theorem sP{w:G}{A B C:ab}{b:Nat}{v0 v1 v2 v3 v4 v5 v6 v7 v8:ad}{t:TypeId}(h:af w (A*(B*(aa b #[v0,v1,v2,v3,v4,v5,v6,v7,v8] t*C))))(u0:ad):
  af (w.setCell (U b 0 q) u0) (A*(B*(aa b #[u0,v1,v2,v3,v4,v5,v6,v7,v8] t*C))):=by
 rw[av B,av A] at h;have h1:af _ (aa b #[u0,v1,v2,v3,v4,v5,v6,v7,v8] t*_):=h.set 0 u0;rw[av B,av A];exact h1
theorem nC{w:G}{A B X O:ab}{b r:Nat}{v0 v1 v2 v3 v4 v5 v6 v7 v8 z0 z1 z2 z3 z4 z5 z6 z7 z8:ad}{t:TypeId}(h:af w (A*(B*(aa b #[v0,v1,v2,v3,v4,v5,v6,v7,v8] t*(X*(aa r #[z0,z1,z2,z3,z4,z5,z6,z7,z8] t*O))))))(u1 u2 u3 u4 u5 u6:ad):
  af (((((((((((((((w.setCell (U b 1 q) u1).setCell (U b 2 q) u2).setCell (U b 3 q) u3).setCell (U b 4 q) u4).setCell (U b 5 q) u5).setCell (U b 6 q) u6).setCell (U r 0 q) v0).setCell (U r 1 q) u1).setCell (U r 2 q) u2).setCell (U r 3 q) u3).setCell (U r 4 q) u4).setCell (U r 5 q) u5).setCell (U r 6 q) u6).setCell (U r 7 q) v7).setCell (U r 8 q) v8) (aa r #[v0,u1,u2,u3,u4,u5,u6,v7,v8] t*(A*(B*O))):=by
 have h1:=h.drop4;rw[av B,av A] at h1;have s1:af _ (aa b #[v0,u1,v2,v3,v4,v5,v6,v7,v8] t*_):=h1.set 1 u1;have s2:af _ (aa b #[v0,u1,u2,v3,v4,v5,v6,v7,v8] t*_):=s1.set 2 u2;have s3:af _ (aa b #[v0,u1,u2,u3,v4,v5,v6,v7,v8] t*_):=s2.set 3 u3;have s4:af _ (aa b #[v0,u1,u2,u3,u4,v5,v6,v7,v8] t*_):=s3.set 4 u4;have s5:af _ (aa b #[v0,u1,u2,u3,u4,u5,v6,v7,v8] t*_):=s4.set 5 u5;have s6:af _ (aa b #[v0,u1,u2,u3,u4,u5,u6,v7,v8] t*_):=s5.set 6 u6;have h2:=s6.right;rw[av B,av A] at h2;exact h2.set9 _ _ _ _ _ _ _ _ _
theorem mo{w:G}{u v:ad}{l:List Int}{x ix p:Int}{C:ab}(hp:aB p (l.length+1)=aB p l.length++[ix])
  (h:af w (bt 3 1 u (l.length+1) (l.map (Y Z)++[Y Z x])*(bt 3 1 v (l.length+1) ((aB p l.length).map (Y Z)++[Y Z ix])*C))):af w (aq u (l++[x])*(aq v (aB p (l.length+1))*C)):=by
 unfold aq;rw[hp,ak,ak,List.length_singleton,List.length_singleton,ge,List.map_append,List.map_append];exact h
theorem gY(n:Int):∀u∈([Y Z n]:List ad),u.oneCell'=D:=by
 intro u hu;simp at hu;subst hu;rfl
set_option maxHeartbeats 4000000 in
theorem pI(f:Nat)(s:Ms)(root p:Int)(R:ab)(w:G)(hs:s.Ok)(h:af w (ae f s*R)):
  a0 prog 199 #[.pointer (an (U f 0 q)),.int .i64 root,.int .i64 p] w (uE (bo s root p) p w):=by
 have h1:=(bc w).new #[Y Z 0,J g,J g,Y Z 0,J g,J g,Y Z 0,.slice q 0 0,.slice q 0 0] 248;have x1:=(Ext.refl w).alloc (.cells #[Y Z 0,J g,J g,Y Z 0,J g,J g,Y Z 0,.slice q 0 0,.slice q 0 0] 248);have HH:=I (cL p);cases hp:cN p with
 |false=>
  have hy:=I (show bo s root p= .err 1 by unfold bo;rw[hp];rfl);rw[hp] at HH;go_enter func199,ntmps199;go_wp2_with(refine(HH.out _).mono ?_;rintro e w2 ⟨rfl,rfl⟩)
  refine ay (fun wz=>af wz (aa w.heap.size #[Y Z 0,J g,J g,Y Z 0,J g,J g,Y Z 0,.slice q 0 0,.slice q 0 0] 248*cr w w.heap.size)∧au w wz) ⟨h1,aj⟩ ?_;rintro wz ⟨hz,xz⟩;exact N (aF results199 rfl rfl (eP hz)) rfl ⟨q,q,0,0,by rw[hy.out];rfl,by rw[hy.out];exact Has.rowNil (Has.rowNil hz.right),xz⟩
 |true=>
  have hwy:=I (show bo s root p=cQ s p 3 root [] by unfold bo;rw[if_pos hp]);rw[hp] at HH;have h2:=h1.new #[Y Z 3,J g,J g,Y Z 0,J g,J g,Y Z 0,.slice q 0 0,.slice q 0 0] 248;have x2:=x1.alloc (.cells #[Y Z 3,J g,J g,Y Z 0,J g,J g,Y Z 0,.slice q 0 0,.slice q 0 0] 248);simp only[ag] at h2;have h3:af ((w.alloc (.cells #[Y Z 0,J g,J g,Y Z 0,J g,J g,Y Z 0,.slice q 0 0,.slice q 0 0] 248)).alloc (.cells #[Y Z 3,J g,J g,Y Z 0,J g,J g,Y Z 0,.slice q 0 0,.slice q 0 0] 248))
    (aq (.slice q 0 0) []*(aq (.slice q 0 0) []*(aa (w.heap.size+1) #[Y Z 3,J g,J g,Y Z 0,J g,J g,Y Z 0,.slice q 0 0,.slice q 0 0] 248*(aa w.heap.size #[Y Z 0,J g,J g,Y Z 0,J g,J g,Y Z 0,.slice q 0 0,.slice q 0 0] 248*cr w w.heap.size)))):=Has.rowNil (Has.rowNil h2)
  clear h1 x1 h2;go_enter func199,ntmps199;go_wp2_with(refine(HH.out _).mono ?_;rintro e w2 ⟨rfl,rfl⟩)
  go_loopw [9] (fun s9 wr=>∃(L:Nat) (t:Int) (acc:List Int) (A B:Option ax) (c d:Nat),s9=Y Z t∧acc.length+L=3∧Hid (cQ s p 3 root []=cQ s p L t acc)∧
    af wr (aq (.slice A acc.length c) acc*(aq (.slice B acc.length d) (aB p acc.length)*(aa (w.heap.size+1) #[Y Z L,J g,J g,Y Z 0,J g,J g,Y Z 0,.slice A acc.length c,.slice B acc.length d] 248*(aa w.heap.size #[Y Z 0,J g,J g,Y Z 0,J g,J g,Y Z 0,.slice q 0 0,.slice q 0 0] 248*cr w w.heap.size))))∧au w wr)
   (fun _ wr=>lev wr (w.heap.size+1))
  case atStart=>exact⟨3,root,[],q,q,0,0,rfl,rfl,I rfl,h3,x2⟩
  case round=>
   clear h3 x2;obtain⟨L,t,acc,A,B,c,d,rfl,hL,HW,hr,hx⟩:=hrel;have hlev:=I (show lev wr (w.heap.size+1)=L by unfold lev;rw[hr.right.right.cell 0];rfl);have hL3:(L:Int)≤3:=by omega
   have hL0:(0:Int)≤L:=by omega
   obtain⟨c0,c1,c2,c3,c4,c5,c6,c7,c8⟩:=hr.right.right.cells9;have cl:=hr.right.right.lt;obtain⟨r0,r1,r2,r3,r4,r5,r6,r7,r8⟩:=hr.r3.cells9;obtain⟨g0,g1,g2,g3,g4,g5,g6,g7,g8⟩:=hr.r3.frees9;have rl:=hr.r3.lt;have hF:af wr (ae f s*R):=(h.onto' (hr.eq (show _=(aq (.slice A acc.length c) acc*(aq (.slice B acc.length d) (aB p acc.length)*(aa (w.heap.size+1) #[Y Z L,J g,J g,Y Z 0,J g,J g,Y Z 0,.slice A acc.length c,.slice B acc.length d] 248*aa w.heap.size #[Y Z 0,J g,J g,Y Z 0,J g,J g,Y Z 0,.slice q 0 0,.slice q 0 0] 248)))*cr w w.heap.size by simp only[aN]))).right;have hLD:=rM f s t (ai p L) R wr hF;rw[dJ hp hL0 hL3] at hLD;have hIX:=jE p L wr;have hwq:s.has t=D→dw s t (ai p L)=ar s t (ai p L):=fun e=>by
    unfold dw ar;rw[if_pos (by rw[dJ hp hL0 hL3];exact e)]
   cases ht:s.has t with
   |false=>
    rw[ht] at hLD;have hy:=I (show bo s root p= .err 12 by rw[hwy.out,HW.out];exact iw ht);clear hwq ht;generalize ai p L=ix at*
    generalize dw s t ix=v at*
    go_wp2_with fail
    refine hIX.mono ?_;rintro e w2 ⟨rfl,rfl⟩;go_wp2_with fail
    refine hLD.mono ?_;rintro e w2 ⟨rfl,rfl⟩;go_wp2_with fail
    refine ay (fun wz=>af wz (aa w.heap.size #[Y Z 0,J g,J g,Y Z 0,J g,J g,Y Z 0,.slice q 0 0,.slice q 0 0] 248*cr w w.heap.size)∧au w wz) ⟨hr.r3.set9 _ _ _ _ _ _ _ _ _,hx.set9 _ _ _ _ _ _ _ _ _ _⟩ ?_;rintro wz ⟨hz,xz⟩;exact N (aF results199 rfl rfl (eP hz)) rfl ⟨q,q,0,0,by rw[hy.out];rfl,by rw[hy.out];exact Has.rowNil (Has.rowNil hz.right),xz⟩
   |true=>
    rw[ht] at hLD;rw[hwq ht] at hLD;clear hwq;have hb:=hs.inv.wok t.toNat (ai p L).toNat;have HD:=I (fun W=>j0 (ar s t (ai p L)) L W hb.1 hb.2);clear hb;by_cases hc:bv (ar s t (ai p L)) L=0
    case neg=>
     have hy:=I (show bo s root p= .err (bv (ar s t (ai p L)) L) by rw[hwy.out,HW.out];exact js ht hc);have hv:=I (fd (w:=ar s t (ai p L)) (l:=L) rfl (.inl hc));rw[hv.out] at HD;clear hv;have hn:(bv (ar s t (ai p L)) L !=0)=D:=by simpa using hc
     clear hc;generalize bv (ar s t (ai p L)) L=code at*
     generalize ar s t (ai p L)=v at*
     generalize ai p L=ix at*
     go_wp2_with fail
     refine hIX.mono ?_;rintro e w2 ⟨rfl,rfl⟩;go_wp2_with fail
     refine hLD.mono ?_;rintro e w2 ⟨rfl,rfl⟩;go_wp2_with fail
     refine(HD.out _).mono ?_;rintro e w2 ⟨rfl,b2⟩;have h2:=(hr.r3.below b2);have x2:=hx.below b2;clear r0 r1 r2 r3 r4 r5 r6 r7 r8 g0 g1 g2 g3 g4 g5 g6 g7 g8 rl;obtain⟨r0,r1,r2,r3,r4,r5,r6,r7,r8⟩:=h2.cells9;obtain⟨g0,g1,g2,g3,g4,g5,g6,g7,g8⟩:=h2.frees9;have rl:=h2.lt;go_wp2_with fail
     refine ay (fun wz=>af wz (aa w.heap.size #[Y Z 0,J g,J g,Y Z 0,J g,J g,Y Z 0,.slice q 0 0,.slice q 0 0] 248*cr w w.heap.size)∧au w wz) ⟨(h2.set9 _ _ _ _ _ _ _ _ _).alloc _,(x2.set9 _ _ _ _ _ _ _ _ _ _).alloc _⟩ ?_;rintro wz ⟨hz,xz⟩;exact N (aF results199 rfl rfl (eP hz)) rfl ⟨q,q,0,0,by rw[hy.out];rfl,by rw[hy.out];exact Has.rowNil (Has.rowNil hz.right),xz⟩
    have hy:=I (show bo s root p=cQ s p L t acc by rw[hwy.out,HW.out]);have hend:=I (fun he=>fW (acc:=acc) ht hc he);have hon:=I (fun he=>kz (acc:=acc) ht hc he);have hv:=I (show ic (ar s t (ai p L)) L= .tuple #[.agg #[J (aC (ar s t (ai p L)) L).there,J (aC (ar s t (ai p L)) L).leaf,Y Z (aC (ar s t (ai p L)) L).rights,J (aC (ar s t (ai p L)) L).used,J (aC (ar s t (ai p L)) L).dirty,Y Z (aC (ar s t (ai p L)) L).frame],Y Z 0] by unfold ic;rw[hc]);rw[hv.out] at HD;clear hv hc HW;have hpl:=I (show aB p (acc.length+1)=aB p acc.length++[ai p L] by rw[jM,show(3:Int) - acc.length=L by omega]);generalize aC (ar s t (ai p L)) L=e at*
    generalize ar s t (ai p L)=v at*
    generalize ai p L=ix at*
    go_wp2_with fail
    refine hIX.mono ?_;rintro e2 w2 ⟨rfl,rfl⟩;go_wp2_with fail
    refine hLD.mono ?_;rintro e2 w2 ⟨rfl,rfl⟩;go_wp2_with fail
    refine(HD.out _).mono ?_;rintro e2 w2 ⟨rfl,b2⟩;have h2:=(hr.below b2).build #[J e.there,J e.leaf,Y Z e.rights,J e.used,J e.dirty,Y Z e.frame] 81;have x2:=(hx.below b2).alloc (.cells #[J e.there,J e.leaf,Y Z e.rights,J e.used,J e.dirty,Y Z e.frame] 81);clear r0 r1 r2 r3 r4 r5 r6 r7 r8 g0 g1 g2 g3 g4 g5 g6 g7 g8 rl c0 c1 c2 c3 c4 c5 c6 c7 c8 cl hF hLD hIX HD hr hx;go_upto_region 13 with fail;generalize w2.alloc _=w4 at*
    generalize w2.heap.size=E at*
    have h3:af w4 (aq (.slice A acc.length c) acc*(aq (.slice B acc.length d) (aB p acc.length)*(aa (w.heap.size+1) #[Y Z L,J g,J g,Y Z 0,J g,J g,Y Z 0,.slice A acc.length c,.slice B acc.length d] 248*
      (aa E #[J e.there,J e.leaf,Y Z e.rights,J e.used,J e.dirty,Y Z e.frame] 81*(aa w.heap.size #[Y Z 0,J g,J g,Y Z 0,J g,J g,Y Z 0,.slice q 0 0,.slice q 0 0] 248*cr w w.heap.size))))):=h2.eq (by congr 2;exact av _ _ _)
    clear h2 b2;go_cut [] (fun wx=>∃(A' B':Option ax) (c' d':Nat),af wx (aq (.slice A' (acc.length+1) c') (acc++[t])*(aq (.slice B' (acc.length+1) d') (aB p (acc.length+1))*(aa (w.heap.size+1) #[Y Z L,J g,J g,Y Z 0,J g,J g,Y Z 0,.slice A' (acc.length+1) c',.slice B' (acc.length+1) d'] 248*
      (aa E #[J e.there,J e.leaf,Y Z e.rights,J e.used,J e.dirty,Y Z e.frame] 81*(aa w.heap.size #[Y Z 0,J g,J g,Y Z 0,J g,J g,Y Z 0,.slice q 0 0,.slice q 0 0] 248*cr w w.heap.size)))))∧au w wx)
    case first=>
     have c7:w4.cell? ⟨w.heap.size+1,7,q⟩=an (.slice A acc.length c):=h3.right.right.cell 7;have c8:w4.cell? ⟨w.heap.size+1,8,q⟩=an (.slice B acc.length d):=h3.right.right.cell 8;refine kr (S:=fun L w'=>Till 4 1 (fun w'=>w'.cell? ⟨w.heap.size+1,7,q⟩=an (.slice A acc.length c)) L w'∧Till 9 6 (fun w'=>w'.cell? ⟨w.heap.size+1,8,q⟩=an (.slice B acc.length d)) L w') (by kernel_rfl) ⟨Till.start c7,Till.start c8⟩ (fun hHeld=> ?_);refine aZ (i:=0) (v:= ?_) rfl (by kernel_rfl) (by kernel_rfl) (by kernel_rfl) (fun _ _ _ h=>h) (Good.and (Good.till (by decide) ⟨_,⟨1,.data⟩,rfl,by simp,rfl,rfl⟩) (Good.till (by decide) ⟨_,⟨6,.data⟩,rfl,by simp,rfl,rfl⟩)) (Or.inl ⟨by kernel_rfl,?_⟩) hHeld (fun hHeld=> ?_);rotate_left;focus (intro wS hSw;obtain⟨Lx,hLx,hs1,hs2⟩:=hSw;skip;go_simp;first|done|with_reducible rfl)
     try go_simp
     refine aZ (i:=1) (v:= ?_) rfl (by kernel_rfl) (by kernel_rfl) (by kernel_rfl) (fun _ _ _ h=>h) (Good.and (Good.till (by decide) ⟨_,⟨1,.data⟩,rfl,by simp,rfl,rfl⟩) (Good.till (by decide) ⟨_,⟨6,.data⟩,rfl,by simp,rfl,rfl⟩)) (Or.inl ⟨by kernel_rfl,?_⟩) hHeld (fun hHeld=> ?_);rotate_left;focus (intro wS hSw;obtain⟨Lx,hLx,hs1,hs2⟩:=hSw;have cS:=hs1.still hLx;go_simp;first|done|with_reducible rfl)
     try go_simp
     refine aZ (i:=2) (v:= ?_) rfl (by kernel_rfl) (by kernel_rfl) (by kernel_rfl) (fun _ _ _ h=>h) (Good.and (Good.till (by decide) ⟨_,⟨1,.data⟩,rfl,by simp,rfl,rfl⟩) (Good.till (by decide) ⟨_,⟨6,.data⟩,rfl,by simp,rfl,rfl⟩)) (Or.inl ⟨by kernel_rfl,?_⟩) hHeld (fun hHeld=> ?_);rotate_left;focus (intro wS hSw;obtain⟨Lx,hLx,hs1,hs2⟩:=hSw;skip;go_simp;first|done|with_reducible rfl)
     try go_simp
     refine aZ (i:=5) (v:= ?_) rfl (by kernel_rfl) (by kernel_rfl) (by kernel_rfl) (fun _ _ _ h=>h) (Good.and (Good.till (by decide) ⟨_,⟨1,.data⟩,rfl,by simp,rfl,rfl⟩) (Good.till (by decide) ⟨_,⟨6,.data⟩,rfl,by simp,rfl,rfl⟩)) (Or.inl ⟨by kernel_rfl,?_⟩) hHeld (fun hHeld=> ?_);rotate_left;focus (intro wS hSw;obtain⟨Lx,hLx,hs1,hs2⟩:=hSw;skip;go_simp;first|done|with_reducible rfl)
     try go_simp
     refine aZ (i:=6) (v:= ?_) rfl (by kernel_rfl) (by kernel_rfl) (by kernel_rfl) (fun _ _ _ h=>h) (Good.and (Good.till (by decide) ⟨_,⟨1,.data⟩,rfl,by simp,rfl,rfl⟩) (Good.till (by decide) ⟨_,⟨6,.data⟩,rfl,by simp,rfl,rfl⟩)) (Or.inl ⟨by kernel_rfl,?_⟩) hHeld (fun hHeld=> ?_);rotate_left;focus (intro wS hSw;obtain⟨Lx,hLx,hs1,hs2⟩:=hSw;have cS:=hs2.still hLx;go_simp;first|done|with_reducible rfl)
     try go_simp
     refine aZ (i:=7) (v:= ?_) rfl (by kernel_rfl) (by kernel_rfl) (by kernel_rfl) (fun _ _ _ h=>h) (Good.and (Good.till (by decide) ⟨_,⟨1,.data⟩,rfl,by simp,rfl,rfl⟩) (Good.till (by decide) ⟨_,⟨6,.data⟩,rfl,by simp,rfl,rfl⟩)) (Or.inl ⟨by kernel_rfl,?_⟩) hHeld (fun hHeld=> ?_);rotate_left;focus (intro wS hSw;obtain⟨Lx,hLx,hs1,hs2⟩:=hSw;skip;go_simp;first|done|with_reducible rfl)
     try go_simp
     have h3d:=h3.drew;refine aY (rs:=[3,8]) (by kernel_rfl) (by simp) ?_;refine OneOf.cons rfl (fun K hK=> ?_) ?_;focus
      have k1:=h3d.build #[Y Z t] 3;try simp only[ag] at k1
      go_simp;refine hK.out _ _ ⟨⟨fun _=>by kernel_rfl,fun _=>k1.r3.cell 7⟩,⟨fun _=>by kernel_rfl,fun _=>k1.r3.cell 8⟩⟩ (fun hHeld=> ?_);clear hK K;refine aY (rs:=[4,8]) (by kernel_rfl) (by simp) ?_;refine OneOf.cons rfl (fun K hK=> ?_) ?_;focus
       refine bU rfl (.tmp 51) (.tmp 53) 55 rfl underlying55 gK (.slice A acc.length c) acc.length (acc.map (Y Z)) (by simp[Act.eval]) (mh k1) (U w4.drew.heap.size 0 q) 1 1 [Y Z t] (by simp[Act.eval]) rfl (eR (k1.right.right.cell 0)) (gY t) (by unfold maxLen;omega) (by omega) ?_;intro A2 a3 w22 k2 y2;try go_simp
       refine hK.out _ _ ⟨⟨fun _=>by kernel_rfl,fun h=>aU (by kernel_rfl) h⟩,⟨fun _=>by kernel_rfl,fun _=>k2.r3.cell 8⟩⟩ (fun hHeld=> ?_);clear hK K;refine aZ (i:=10) (v:= ?_) rfl (by kernel_rfl) (by kernel_rfl) (by kernel_rfl) (fun _ _ _ h=>h) (Good.and (Good.till (by decide) ⟨_,⟨1,.data⟩,rfl,by simp,rfl,rfl⟩) (Good.till (by decide) ⟨_,⟨6,.data⟩,rfl,by simp,rfl,rfl⟩)) (Or.inl ⟨by kernel_rfl,?_⟩) hHeld (fun hHeld=> ?_);rotate_left;focus (intro wS hSw;obtain⟨Lx,hLx,hs1,hs2⟩:=hSw;skip;go_simp;first|done|with_reducible rfl)
       try go_simp
       refine aY (rs:=[8]) (by kernel_rfl) (by simp) ?_;refine OneOf.cons rfl (fun K hK=> ?_) ?_;focus
        have k3:=k2.build #[Y Z ix] 3;try simp only[ag] at k3
        go_simp;refine hK.out _ _ ⟨⟨fun _=>by kernel_rfl,fun h=>aU (by kernel_rfl) h⟩,⟨fun _=>by kernel_rfl,fun _=>k3.right.r3.cell 8⟩⟩ (fun hHeld=> ?_);clear hK K;refine aY (rs:=[9]) (by kernel_rfl) (by simp) ?_;refine OneOf.cons rfl (fun K hK=> ?_) ?_;focus
         refine bU rfl (.tmp 56) (.tmp 58) 55 rfl underlying55 gK (.slice B acc.length d) acc.length ((aB p acc.length).map (Y Z)) (by simp[Act.eval]) (mi k3.p2) (U w22.heap.size 0 q) 1 1 [Y Z ix] (by simp[Act.eval]) rfl (eR (k3.right.right.cell 0)) (gY ix) (by unfold maxLen;omega) (by omega) ?_;intro B2 b3 w24 k4 y4;try go_simp
         refine hK.out _ _ ⟨⟨fun _=>by kernel_rfl,fun h=>aU (by kernel_rfl) h⟩,⟨fun _=>by kernel_rfl,fun h=>aU (by kernel_rfl) h⟩⟩ (fun hHeld=> ?_);clear hK K;have hz:=k4.p2;have xz:=(((((((x2.drew).alloc _)).trans y2).alloc _)).trans y4);have cl:=hz.right.r3.lt;have f7:=hz.right.r3.free 7;have f8:=hz.right.r3.free 8;have e7:=hz.right.r3.cell 7;have e8:=hz.right.r3.cell 8;have hfin:=mj hz;refine aY (rs:=[11]) (by kernel_rfl) (by simp) ?_;refine OneOf.cons rfl (fun K hK=> ?_) OneOf.nil;go_simp;refine hK.out _ _ ⟨⟨fun _=>by kernel_rfl,fun h=>aU (by kernel_rfl) h⟩,⟨fun _=>by kernel_rfl,fun h=>aU (by kernel_rfl) h⟩⟩ (fun hHeld=> ?_);clear hK K;refine aZ (i:=12) (v:= ?_) rfl (by kernel_rfl) (by kernel_rfl) (by kernel_rfl) (fun _ _ _ h=>h) (Good.and (Good.till (by decide) ⟨_,⟨1,.data⟩,rfl,by simp,rfl,rfl⟩) (Good.till (by decide) ⟨_,⟨6,.data⟩,rfl,by simp,rfl,rfl⟩)) (Or.inl ⟨by kernel_rfl,?_⟩) hHeld (fun hHeld=> ?_);rotate_left;focus (intro wS hSw;obtain⟨Lx,hLx,hs1,hs2⟩:=hSw;skip;go_simp;first|done|with_reducible rfl)
         try go_simp
         refine aY (rs:=[13]) (by kernel_rfl) (by simp) ?_;refine OneOf.cons rfl (fun K hK=> ?_) OneOf.nil;go_simp;refine hK.out _ _ ⟨⟨fun _=>by kernel_rfl,fun h=>aU (by kernel_rfl) h⟩,⟨fun _=>by kernel_rfl,fun h=>aU (by kernel_rfl) h⟩⟩ (fun hHeld=> ?_);clear hK K;refine gp (by kernel_rfl) ?_;go_wp2_with fail
         go_meet
         case rel=>exact⟨A2,B2,a3,b3,mo hpl.out (mn hfin _ _),(xz.set _ _).set _ _⟩
        exact OneOf.nil
       exact OneOf.nil
      refine OneOf.cons rfl (fun K hK=> ?_) ?_;focus
       have k5:=k1.build #[Y Z ix] 3;try simp only[ag] at k5
       go_simp;refine hK.out _ _ ⟨⟨fun _=>by kernel_rfl,fun _=>k5.right.r3.cell 7⟩,⟨fun _=>by kernel_rfl,fun _=>k5.right.r3.cell 8⟩⟩ (fun hHeld=> ?_);clear hK K;refine aY (rs:=[4]) (by kernel_rfl) (by simp) ?_;refine OneOf.cons rfl (fun K hK=> ?_) ?_;focus
        refine bU rfl (.tmp 51) (.tmp 53) 55 rfl underlying55 gK (.slice A acc.length c) acc.length (acc.map (Y Z)) (by simp[Act.eval]) (mh k5) (U w4.drew.heap.size 0 q) 1 1 [Y Z t] (by simp[Act.eval]) rfl (eR (k5.r3.cell 0)) (gY t) (by unfold maxLen;omega) (by omega) ?_;intro A2 a3 w26 k6 y6;try go_simp
        refine hK.out _ _ ⟨⟨fun _=>by kernel_rfl,fun h=>aU (by kernel_rfl) h⟩,⟨fun _=>by kernel_rfl,fun _=>k6.right.r3.cell 8⟩⟩ (fun hHeld=> ?_);clear hK K;refine aZ (i:=10) (v:= ?_) rfl (by kernel_rfl) (by kernel_rfl) (by kernel_rfl) (fun _ _ _ h=>h) (Good.and (Good.till (by decide) ⟨_,⟨1,.data⟩,rfl,by simp,rfl,rfl⟩) (Good.till (by decide) ⟨_,⟨6,.data⟩,rfl,by simp,rfl,rfl⟩)) (Or.inl ⟨by kernel_rfl,?_⟩) hHeld (fun hHeld=> ?_);rotate_left;focus (intro wS hSw;obtain⟨Lx,hLx,hs1,hs2⟩:=hSw;skip;go_simp;first|done|with_reducible rfl)
        try go_simp
        refine aY (rs:=[9]) (by kernel_rfl) (by simp) ?_;refine OneOf.cons rfl (fun K hK=> ?_) ?_;focus
         refine bU rfl (.tmp 56) (.tmp 58) 55 rfl underlying55 gK (.slice B acc.length d) acc.length ((aB p acc.length).map (Y Z)) (by simp[Act.eval]) (mi k6.p2) ⟨w4.drew.heap.size+1,0,q⟩ 1 1 [Y Z ix] (by simp[Act.eval]) rfl (eR (k6.right.right.cell 0)) (gY ix) (by unfold maxLen;omega) (by omega) ?_;intro B2 b3 w27 k7 y7;try go_simp
         refine hK.out _ _ ⟨⟨fun _=>by kernel_rfl,fun h=>aU (by kernel_rfl) h⟩,⟨fun _=>by kernel_rfl,fun h=>aU (by kernel_rfl) h⟩⟩ (fun hHeld=> ?_);clear hK K;have hz:=k7.p2;have xz:=(((((((x2.drew).alloc _).alloc _)).trans y6)).trans y7);have cl:=hz.right.r3.lt;have f7:=hz.right.r3.free 7;have f8:=hz.right.r3.free 8;have e7:=hz.right.r3.cell 7;have e8:=hz.right.r3.cell 8;have hfin:=mj hz;refine aY (rs:=[11]) (by kernel_rfl) (by simp) ?_;refine OneOf.cons rfl (fun K hK=> ?_) OneOf.nil;go_simp;refine hK.out _ _ ⟨⟨fun _=>by kernel_rfl,fun h=>aU (by kernel_rfl) h⟩,⟨fun _=>by kernel_rfl,fun h=>aU (by kernel_rfl) h⟩⟩ (fun hHeld=> ?_);clear hK K;refine aZ (i:=12) (v:= ?_) rfl (by kernel_rfl) (by kernel_rfl) (by kernel_rfl) (fun _ _ _ h=>h) (Good.and (Good.till (by decide) ⟨_,⟨1,.data⟩,rfl,by simp,rfl,rfl⟩) (Good.till (by decide) ⟨_,⟨6,.data⟩,rfl,by simp,rfl,rfl⟩)) (Or.inl ⟨by kernel_rfl,?_⟩) hHeld (fun hHeld=> ?_);rotate_left;focus (intro wS hSw;obtain⟨Lx,hLx,hs1,hs2⟩:=hSw;skip;go_simp;first|done|with_reducible rfl)
         try go_simp
         refine aY (rs:=[13]) (by kernel_rfl) (by simp) ?_;refine OneOf.cons rfl (fun K hK=> ?_) OneOf.nil;go_simp;refine hK.out _ _ ⟨⟨fun _=>by kernel_rfl,fun h=>aU (by kernel_rfl) h⟩,⟨fun _=>by kernel_rfl,fun h=>aU (by kernel_rfl) h⟩⟩ (fun hHeld=> ?_);clear hK K;refine gp (by kernel_rfl) ?_;go_wp2_with fail
         go_meet
         case rel=>exact⟨A2,B2,a3,b3,mo hpl.out (mn hfin _ _),(xz.set _ _).set _ _⟩
        exact OneOf.nil
       exact OneOf.nil
      exact OneOf.nil
     refine OneOf.cons rfl (fun K hK=> ?_) ?_;focus
      have k8:=h3d.build #[Y Z ix] 3;try simp only[ag] at k8
      go_simp;refine hK.out _ _ ⟨⟨fun _=>by kernel_rfl,fun _=>k8.r3.cell 7⟩,⟨fun _=>by kernel_rfl,fun _=>k8.r3.cell 8⟩⟩ (fun hHeld=> ?_);clear hK K;refine aY (rs:=[3]) (by kernel_rfl) (by simp) ?_;refine OneOf.cons rfl (fun K hK=> ?_) ?_;focus
       have k9:=k8.build #[Y Z t] 3;try simp only[ag] at k9
       go_simp;refine hK.out _ _ ⟨⟨fun _=>by kernel_rfl,fun _=>k9.right.r3.cell 7⟩,⟨fun _=>by kernel_rfl,fun _=>k9.right.r3.cell 8⟩⟩ (fun hHeld=> ?_);clear hK K;refine aY (rs:=[4]) (by kernel_rfl) (by simp) ?_;refine OneOf.cons rfl (fun K hK=> ?_) ?_;focus
        refine bU rfl (.tmp 51) (.tmp 53) 55 rfl underlying55 gK (.slice A acc.length c) acc.length (acc.map (Y Z)) (by simp[Act.eval]) (mh k9) ⟨w4.drew.heap.size+1,0,q⟩ 1 1 [Y Z t] (by simp[Act.eval]) rfl (eR (k9.right.right.cell 0)) (gY t) (by unfold maxLen;omega) (by omega) ?_;intro A2 a3 w30 k10 y10;try go_simp
        refine hK.out _ _ ⟨⟨fun _=>by kernel_rfl,fun h=>aU (by kernel_rfl) h⟩,⟨fun _=>by kernel_rfl,fun _=>k10.right.r3.cell 8⟩⟩ (fun hHeld=> ?_);clear hK K;refine aZ (i:=10) (v:= ?_) rfl (by kernel_rfl) (by kernel_rfl) (by kernel_rfl) (fun _ _ _ h=>h) (Good.and (Good.till (by decide) ⟨_,⟨1,.data⟩,rfl,by simp,rfl,rfl⟩) (Good.till (by decide) ⟨_,⟨6,.data⟩,rfl,by simp,rfl,rfl⟩)) (Or.inl ⟨by kernel_rfl,?_⟩) hHeld (fun hHeld=> ?_);rotate_left;focus (intro wS hSw;obtain⟨Lx,hLx,hs1,hs2⟩:=hSw;skip;go_simp;first|done|with_reducible rfl)
        try go_simp
        refine aY (rs:=[9]) (by kernel_rfl) (by simp) ?_;refine OneOf.cons rfl (fun K hK=> ?_) ?_;focus
         refine bU rfl (.tmp 56) (.tmp 58) 55 rfl underlying55 gK (.slice B acc.length d) acc.length ((aB p acc.length).map (Y Z)) (by simp[Act.eval]) (mi k10.p2) (U w4.drew.heap.size 0 q) 1 1 [Y Z ix] (by simp[Act.eval]) rfl (eR (k10.r3.cell 0)) (gY ix) (by unfold maxLen;omega) (by omega) ?_;intro B2 b3 w31 k11 y11;try go_simp
         refine hK.out _ _ ⟨⟨fun _=>by kernel_rfl,fun h=>aU (by kernel_rfl) h⟩,⟨fun _=>by kernel_rfl,fun h=>aU (by kernel_rfl) h⟩⟩ (fun hHeld=> ?_);clear hK K;have hz:=k11.p2;have xz:=(((((((x2.drew).alloc _).alloc _)).trans y10)).trans y11);have cl:=hz.right.r3.lt;have f7:=hz.right.r3.free 7;have f8:=hz.right.r3.free 8;have e7:=hz.right.r3.cell 7;have e8:=hz.right.r3.cell 8;have hfin:=mj hz;refine aY (rs:=[11]) (by kernel_rfl) (by simp) ?_;refine OneOf.cons rfl (fun K hK=> ?_) OneOf.nil;go_simp;refine hK.out _ _ ⟨⟨fun _=>by kernel_rfl,fun h=>aU (by kernel_rfl) h⟩,⟨fun _=>by kernel_rfl,fun h=>aU (by kernel_rfl) h⟩⟩ (fun hHeld=> ?_);clear hK K;refine aZ (i:=12) (v:= ?_) rfl (by kernel_rfl) (by kernel_rfl) (by kernel_rfl) (fun _ _ _ h=>h) (Good.and (Good.till (by decide) ⟨_,⟨1,.data⟩,rfl,by simp,rfl,rfl⟩) (Good.till (by decide) ⟨_,⟨6,.data⟩,rfl,by simp,rfl,rfl⟩)) (Or.inl ⟨by kernel_rfl,?_⟩) hHeld (fun hHeld=> ?_);rotate_left;focus (intro wS hSw;obtain⟨Lx,hLx,hs1,hs2⟩:=hSw;skip;go_simp;first|done|with_reducible rfl)
         try go_simp
         refine aY (rs:=[13]) (by kernel_rfl) (by simp) ?_;refine OneOf.cons rfl (fun K hK=> ?_) OneOf.nil;go_simp;refine hK.out _ _ ⟨⟨fun _=>by kernel_rfl,fun h=>aU (by kernel_rfl) h⟩,⟨fun _=>by kernel_rfl,fun h=>aU (by kernel_rfl) h⟩⟩ (fun hHeld=> ?_);clear hK K;refine gp (by kernel_rfl) ?_;go_wp2_with fail
         go_meet
         case rel=>exact⟨A2,B2,a3,b3,mo hpl.out (mn hfin _ _),(xz.set _ _).set _ _⟩
        exact OneOf.nil
       exact OneOf.nil
      exact OneOf.nil
     exact OneOf.nil
    case rest=>
     obtain⟨A',B',c',d',hr,hx⟩:=hcut;clear h3 x2;obtain⟨c0,c1,c2,c3,c4,c5,c6,c7,c8⟩:=hr.right.right.cells9;obtain⟨f0,f1,f2,f3,f4,f5,f6,f7,f8⟩:=hr.right.right.frees9;have cl:=hr.right.right.lt;obtain⟨e0,e1,e2,e3,e4,e5⟩:=hr.r3.cells6;have el:=hr.r3.lt;have hE:=hr.right.r3;obtain⟨r0,r1,r2,r3,r4,r5,r6,r7,r8⟩:=hE.cells9;obtain⟨g0,g1,g2,g3,g4,g5,g6,g7,g8⟩:=hE.frees9;have rl:=hE.lt;have hne:w.heap.size+1≠w.heap.size:=by omega
     by_cases hend1:e.there=g∨e.leaf=D
     ·have hyy:=I (hy.out.trans (hend.out hend1))
      obtain⟨th,lf,rg,us,di,fr⟩:=e;dsimp only at*
      cases th with
      |false=>
       go_wp2_with fail
       refine ay (fun wz=>af wz (aa w.heap.size #[Y Z L,J g,J lf,Y Z rg,J us,J di,Y Z fr,.slice A' (acc.length+1) c',.slice B' (acc.length+1) d'] 248*(aq (.slice A' (acc.length+1) c') (acc++[t])*(aq (.slice B' (acc.length+1) d') (aB p (acc.length+1))*cr w w.heap.size)))∧au w wz) ⟨nC hr _ _ _ _ _ _,Ext.set9 ((((((hx.set _ _).set _ _).set _ _).set _ _).set _ _).set _ _) _ _ _ _ _ _ _ _ _ _⟩ ?_;rintro wz ⟨hz,xz⟩;have hlen:(acc++[t]).length =acc.length+1:=by rw[ak,List.length_singleton]
       refine N (aF results199 rfl rfl (eP hz)) rfl ?_;rw[hyy.out];refine⟨A',B',c',d',?_,?_,xz⟩
       ·show _=M (uD _ A' B' (acc++[t]).length c' d')
        rw[hlen];rfl
       ·show af wz (aq (.slice A' (acc++[t]).length c') (acc++[t])*(aq (.slice B' (acc++[t]).length d') (aB p (acc++[t]).length)*cr w w.heap.size))
        rw[hlen];exact hz.right
      |true=>
       cases lf with
       |true=>
        go_wp2_with fail
        refine ay (fun wz=>af wz (aa w.heap.size #[Y Z L,J D,J D,Y Z rg,J us,J di,Y Z fr,.slice A' (acc.length+1) c',.slice B' (acc.length+1) d'] 248*(aq (.slice A' (acc.length+1) c') (acc++[t])*(aq (.slice B' (acc.length+1) d') (aB p (acc.length+1))*cr w w.heap.size)))∧au w wz) ⟨nC hr _ _ _ _ _ _,Ext.set9 ((((((hx.set _ _).set _ _).set _ _).set _ _).set _ _).set _ _) _ _ _ _ _ _ _ _ _ _⟩ ?_;rintro wz ⟨hz,xz⟩;have hlen:(acc++[t]).length =acc.length+1:=by rw[ak,List.length_singleton]
        refine N (aF results199 rfl rfl (eP hz)) rfl ?_;rw[hyy.out];refine⟨A',B',c',d',?_,?_,xz⟩
        ·show _=M (uD _ A' B' (acc++[t]).length c' d')
         rw[hlen];rfl
        ·show af wz (aq (.slice A' (acc++[t]).length c') (acc++[t])*(aq (.slice B' (acc++[t]).length d') (aB p (acc++[t]).length)*cr w w.heap.size))
         rw[hlen];exact hz.right
       |false=>rcases hend1 with h|h<;>cases h
     ·have h12:e.there=D∧e.leaf=g:=by
       cases h1:e.there<;>cases h2:e.leaf<;>simp_all
      obtain⟨h1,h2⟩:=h12;obtain⟨K,rfl,hK⟩:=hon.out hend1;have hwr:IntKind.i64.wrap (((K+1:Nat):Int) - 1)=(K:Int):=by rw[IntKind.wrap_i64];omega
      go_wp2_with fail
      go_roundw
      case rel=>
       refine⟨K,e.frame,acc++[t],A',B',c',d',rfl,by rw[ak,List.length_singleton];omega,I ?_,?_,hx.set _ _⟩
       ·rw[←hK,←hy.out,←hwy.out]
       ·rw[ak,List.length_singleton]
        exact(sP hr _).drop4
      case measure=>
       rw[hlev.out];unfold lev;rw[World.cell?_setCell_same _ _ _ c0];simp
theorem uF(s:Ms)(p:Int):∀(L:Nat) (t:Int) (acc:List Int),(cQ s p L t acc).code =0→(∀u∈acc,s.has u=D)→∀u∈(cQ s p L t acc).tabs,s.has u=D:=by
 intro L;induction L with
 |zero=>
  intro t acc hc ha;cases h:s.has t with
  |false=>rw[iw h] at hc;cases hc
  |true=>
   by_cases hd:bv (ar s t (ai p (0:Nat))) (0:Nat)=0
   ·rw[fW h hd (d9 hd)]
    intro u hu;rcases List.mem_append.1 hu with hu|hu
    ·exact ha u hu
    ·obtain rfl:=List.mem_singleton.1 hu;exact h
   ·rw[js h hd] at hc
    exact absurd hc hd
 |succ L ih=>
  intro t acc hc ha;cases h:s.has t with
  |false=>rw[iw h] at hc;cases hc
  |true=>
   by_cases hd:bv (ar s t (ai p (L+1:Nat))) (L+1:Nat)=0
   ·by_cases he:(aC (ar s t (ai p (L+1:Nat))) (L+1:Nat)).there =g∨(aC (ar s t (ai p (L+1:Nat))) (L+1:Nat)).leaf =D
    ·rw[fW h hd he]
     intro u hu;rcases List.mem_append.1 hu with hu|hu
     ·exact ha u hu
     ·obtain rfl:=List.mem_singleton.1 hu;exact h
    ·obtain⟨K,hK,e⟩:=kz (acc:=acc) h hd he
     obtain rfl:L=K:=by omega
     rw[e] at hc⊢;exact ih _ _ hc fun u hu=>by
      rcases List.mem_append.1 hu with hu|hu
      ·exact ha u hu
      ·obtain rfl:=List.mem_singleton.1 hu;exact h
   ·rw[js h hd] at hc
    exact absurd hc hd
theorem gE{s:Ms}{r p:Int}(h:(bo s r p).code =0):cN p=D∧∃n:Nat,(bo s r p).tabs.length =n+1∧n≤3∧(bo s r p).lev =3 - (n:Int)∧∀u∈(bo s r p).tabs,s.has u=D:=by
 unfold bo at h⊢;split at h
 ·rename_i hp
  rw[if_pos hp];obtain⟨h3,h4,h5⟩:=vm s p 3 r [] h;refine⟨hp,3 - (cQ s p 3 r []).lev.toNat,by rw[h5];simp only[List.length_nil];omega,by omega,by omega,uF s p 3 r [] h (fun u hu=>by cases hu)⟩
 ·cases h
theorem iL(p:Int){n k:Nat}(hk:k<n):(aB p n)[k]? =an (ai p (3 - (k:Int))):=by
 unfold aB;rw[List.getElem?_map,List.getElem?_range hk];rfl
theorem uG{l:List Int}{n:Nat}(h:l.length=n+1):l.getLastD 0=l[n]'(by omega):=by
 have e:l.length - 1=n:=by omega
 rw[List.getLastD_eq_getLast?,List.getLast?_eq_getElem?];simp only[e];rw[List.getElem?_eq_getElem (by omega)];rfl
theorem sQ{s:Ms}{r p:Int}(h:(bo s r p).code =0){k:Nat}(hk:k< (bo s r p).tabs.length)(v:Int):
  eL s (bo s r p).tabs[k] (ai p (3 - (k:Int))) v=s.setW ((bo s r p).tabs[k]).toNat (ai p (3 - (k:Int))).toNat v:=by
 obtain⟨hp,n,hn,hn3,hl,hu⟩:=gE h;unfold eL;rw[if_pos (by rw[dJ hp (by omega) (by omega)];exact hu _ (List.getElem_mem hk))]
theorem nD{l:List Int}{n:Nat}{t:Int}(h:l.length=n+1)(ht:l[n]? =an t):l.getLastD 0=t:=by
 rw[uG h];have:=ap.1 ht;exact this.2
theorem qV{s:Ms}{r p:Int}(h:(bo s r p).code =0){k:Nat}{t:Int}(ht:(bo s r p).tabs[k]? =an t)(v:Int):
  eL s t (ai p (3 - (k:Int))) v=s.setW t.toNat (ai p (3 - (k:Int))).toNat v:=by
 obtain⟨hk,e⟩:=ap.1 ht;rw[←e];exact sQ h hk v
def nE(s:Ms)(p lw:Int)(sz:Nat):List Int→Ms
 | []=>s
 | [t]=>s.setW t.toNat (ai p sz).toNat lw
 |t::k::ks=>(nE s p lw sz (k::ks)).setW t.toNat (ai p (sz+ks.length+1:Nat)).toNat (iT k (sz+ks.length+1))
theorem nF(s:Ms){a b:Nat}(i j:Nat)(v u:Int)(h:a≠b):(s.setW a i v).setW b j u=(s.setW b j u).setW a i v:=by
 unfold Ms.setW;dsimp only;congr 1
 funext x y
 by_cases h1:x=b∧y=j
 ·rw[if_pos h1,if_neg (fun h2=>h (h2.1.symm.trans h1.1)),if_pos h1]
 ·rw[if_neg h1]
  by_cases h2:x=a∧y=i
  ·rw[if_pos h2,if_pos h2]
  ·rw[if_neg h2,if_neg h2,if_neg h1]
theorem pJ(s:Ms)(p lw:Int)(sz:Nat)(a i:Nat)(v:Int):∀l:List Int,(∀t∈l,t.toNat≠a)→nE (s.setW a i v) p lw sz l=(nE s p lw sz l).setW a i v
 | [],_=>rfl
 | [t],h=>nF s _ _ _ _ (fun e=>h t (by simp) e.symm)
 |t::k::ks,h=>by
  show(nE (s.setW a i v) p lw sz (k::ks)).setW _ _ _=_;rw[pJ s p lw sz a i v (k::ks) (fun x hx=>h x (by simp at hx⊢;right;exact hx))];exact nF _ _ _ _ _ (fun e=>h t (by simp) e.symm)
theorem sR(s:Ms){k a:Nat}(i:Nat)(v:Int)(h:a≠k):(s.setW a i v).take k=(s.take k).setW a i v:=by
 unfold Ms.take Ms.setW;dsimp only;congr 1
 funext x y
 by_cases h1:x=k
 ·rw[if_pos h1,if_neg (fun h2=>h (h2.1.symm.trans h1)),if_pos h1]
 ·rw[if_neg h1]
  by_cases h2:x=a∧y=i
  ·rw[if_pos h2,if_pos h2]
  ·rw[if_neg h2,if_neg h2,if_neg h1]
theorem uH(s:Ms)(a i:Nat)(v:Int):(s.setW a i v).top =s.top:=rfl
theorem jl(s:Ms):∀m,aM s (m+1)=aM s.takeS m
 |0=>rfl
 |m+1=>by
  show(aM s (m+1)).takeS =_;rw[jl s m];rfl
theorem mq(s:Ms):∀m,ep s (m+1)=s.topV::ep s.takeS m
 |0=>rfl
 |m+1=>by
  show ep s (m+1)++[(aM s (m+1)).topV]=_;rw[mq s m,jl s m];rfl
theorem j3{s:Ms}(hs:s.Ok){a:Nat}(i:Nat)(v:Int)(ha:s.tk a=D):∀m,m≤s.frees.length→aM (s.setW a i v) m=(aM s m).setW a i v∧(aM s m).tk a=D∧ep (s.setW a i v) m=ep s m
 |0,_=>⟨rfl,ha,rfl⟩
 |m+1,h=>by
  obtain⟨h1,h2,h3⟩:=j3 hs i v ha m (by omega);obtain⟨k,hk⟩:=jw (s:=aM s m) (by rw[eU s m (by omega)];simp;omega);have hl:=Ms.top_lt (fT hs m).inv hk;have hne:a≠k:=fun e=>by rw[e,hl.2] at h2;cases h2
  have e1:(aM s m).takeS =(aM s m).take k:=by unfold Ms.takeS;rw[hk]
  have e2:((aM s m).setW a i v).takeS =((aM s m).setW a i v).take k:=by unfold Ms.takeS;rw[uH,hk]
  refine⟨?_,?_,?_⟩
  ·show(aM (s.setW a i v) m).takeS =(aM s m).takeS.setW a i v
   rw[h1,e1,e2,sR _ _ _ hne]
  ·show(aM s m).takeS.tk a=D
   rw[e1];show ch (aM s m).tk k D a=D;rw[g9 _ _ hne];exact h2
  ·show ep (s.setW a i v) m++[(aM (s.setW a i v) m).topV]=ep s m++[(aM s m).topV]
   rw[h3,h1];rfl
theorem mv{s:Ms}{k:Nat}(h:s.top=an k):s.takeS.frees.length+1=s.frees.length:=by
 have:=congrArg List.length (fU h);rw[ak,List.length_singleton] at this;exact this
theorem mw{s:Ms}(hs:s.Ok){a:Nat}(ha:s.tk a=D):∀m,m≤s.frees.length→∀t∈ep s m,t.toNat≠a∧(aM s m).has t=D
 |0,_,t,ht=>by cases ht
 |m+1,h,t,ht=>by
  obtain⟨k,hk⟩:=jw (s:=aM s m) (by rw[eU s m (by omega)];simp;omega);have hl:=Ms.top_lt (fT hs m).inv hk;have e1:(aM s (m+1))=(aM s m).take k:=by show(aM s m).takeS =_;unfold Ms.takeS;rw[hk]
  have eV:(aM s m).topV =(k:Int):=by unfold Ms.topV;rw[hk]
  rcases List.mem_append.1 ht with ht|ht
  ·obtain⟨i1,i2⟩:=mw hs ha m (by omega) t ht
   refine⟨i1,?_⟩;rw[e1];by_cases e:t=(k:Int)
   ·rw[e];exact dF hl.1
   ·rw[mU _ _ e];exact i2
  ·obtain rfl:=List.mem_singleton.1 ht
   rw[eV];refine⟨?_,by rw[e1];exact dF hl.1⟩;have h2:=(j3 hs 0 0 ha m (by omega)).2.1;intro e;have e:k=a:=by simpa using e
   rw[e] at hl;rw[h2] at hl;cases hl.2
theorem nG{s:Ms}(hs:s.Ok){t:Int}(h:s.has t=D):∀m,m≤s.frees.length→(aM s m).has t=D
 |0,_=>h
 |m+1,hm=>by
  obtain⟨k,hk⟩:=jw (s:=aM s m) (by rw[eU s m (by omega)];simp;omega);have hl:=Ms.top_lt (fT hs m).inv hk;have e1:(aM s (m+1))=(aM s m).take k:=by show(aM s m).takeS =_;unfold Ms.takeS;rw[hk]
  rw[e1];by_cases e:t=(k:Int)
  ·rw[e];exact dF hl.1
  ·rw[mU _ _ e];exact nG hs h m (by omega)
theorem pK{p lw:Int}{sz:Nat}(hp:cN p=D)(hsz:sz≤3):∀(m:Nat) (s:Ms) (t:Int),s.Ok→m≤s.frees.length→s.has t=D→sz+m≤3→dS s p lw sz m t=nE (aM s m) p lw sz (t::ep s m)
 |0,s,t,_,_,_,_=>rfl
 |m+1,s,t,hs,hm,ht,h3=>by
  obtain⟨k,hk⟩:=jw (s:=s) (by omega);have hl:=Ms.top_lt hs.inv hk;obtain⟨t0,t1,t2⟩:=Ms.has_iff.1 ht;have hne:t.toNat≠k:=fun e=>by rw[e,hl.2] at t2;cases t2
  have e1:s.takeS=s.take k:=by unfold Ms.takeS;rw[hk]
  have eV:s.topV=(k:Int):=by unfold Ms.topV;rw[hk]
  have hok:=hs.takeS;have hk2:(s.take k).has (k:Int)=D:=dF hl.1;have htk:(s.take k).tk t.toNat=D:=by
   show ch s.tk k D t.toNat=D;rw[g9 _ _ hne];exact t2
  have hfl:=mv hk;rw[e1] at hok hfl;unfold dS;rw[hk];dsimp only;rw[pK hp hsz m _ (k:Int) ⟨hok.inv.setW _ _ (by
   unfold iT;exact ju _ _),hok.small⟩ (by show m≤(s.take k).frees.length;omega) hk2 (by omega)]
  obtain⟨h1,_,h4⟩:=j3 hok (ai p (sz+m+1:Nat)).toNat (iT k (sz+m+1)) htk m (by omega);rw[h1,h4,jl,mq,e1,eV];rw[pJ _ _ _ _ _ _ _ _ (fun x hx=>by
   rcases List.mem_cons.1 hx with rfl|hx
   ·simpa using fun e=>hne e.symm
   ·exact(mw hok htk m (by omega) x hx).1)]
  show _=(nE (aM (s.take k) m) p lw sz ((k:Int)::ep (s.take k) m)).setW t.toNat (ai p (sz+(ep (s.take k) m).length +1:Nat)).toNat (iT k (sz+(ep (s.take k) m).length +1));rw[jm]
end Go.Proofs.YtmfheghbgihdmaaGreatDoor
