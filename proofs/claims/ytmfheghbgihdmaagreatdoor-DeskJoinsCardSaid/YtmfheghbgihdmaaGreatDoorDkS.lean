/- say: a line is told. -/
import Derived.Test.YtmfheghbgihdmaaGreatDoorBkIns
import Derived.Test.YtmfheghbgihdmaaGreatDoorCoreP3
import Derived.Test.YtmfheghbgihdmaaGreatDoorScI
import Derived.Deep.RegionHeld3
import Derived.BigQuiet
import Derived.Deep.DeepCutAuto
import Derived.Deep.CutBlock
import Derived.Test.YtmfheghbgihdmaaGreatDoorTblM3
import Derived.Test.YtmfheghbgihdmaaGreatDoorTlSl
import Derived.Test.YtmfheghbgihdmaaGreatDoorPage
import Derived.Test.YtmfheghbgihdmaaGreatDoorEntBits
import Derived.Deep.MidRow
namespace Go.Proofs.YtmfheghbgihdmaaGreatDoor
open Go.Value renaming bool→vB
open Option renaming none→z,some→F
open Go.Value renaming int→I
open Go.IntKind renaming i64→M
open Go.Addr renaming mk→N
open Bool renaming false→O,true→au
open Go.Lib renaming hid→T
open Go.Proofs.YtmfheghbgihdmaaGreatDoor renaming Has→U,Ext→ax,Pure→a3
open Go renaming World→V,bodyPost_ret→W,Calls→ak,Value→ap
open Go.Proofs.YtmfheghbgihdmaaGreatDoor.Ext renaming refl→ad
open List renaming getElem?_eq_getElem→af
open Go.World renaming size_alloc→ag
open Tryz
open Go.RowKit
set_option maxRecDepth 100000
def pE(w:V):Prop:=
 Lib.TabIs prog w "internal/strconv.uint64pow10" .u64 Lib.pow10Tab∧(∃tp p,w.var? prog "strconv.ErrSyntax" =F #[.iface tp p])∧(∃tp p,w.var? prog "strconv.ErrRange" =F #[.iface tp p])
def Keeps(R:ab):Prop:=∀w,U w R→pE w
theorem Keeps.star{R:ab}(h:Keeps R)(Q:ab):Keeps (Q*R):=fun w hw=>h w hw.right
theorem xU(n:Int)(hn:bX n)(w:V)(hL:pE w):ak prog 42 #[I M n] w (a3 (.string ⟨(Lib.itoa n).toArray⟩) w):=by
 refine(oh n hn.1 hn.2 w hL.1).mono ?_;rintro e w' ⟨rfl,k,os,rfl⟩;exact⟨rfl,⟨rfl,rfl,rfl,by simp[Sort.grow],fun j hj=>by simp[Sort.grow,Array.getElem?_append,hj]⟩⟩
def Pt.val:Pt→ap
 | .s b=> .iface 9 (.string b)
 | .n i=> .iface 3 (I M i)
def Pt.str:Pt→ByteArray
 | .s b=>b
 | .n i=>⟨(Lib.itoa i).toArray⟩
theorem Pt.str_txt(x:Pt):x.str.data.toList=x.txt:=by cases x<;>rfl
theorem rI:kL prog 9 (.string ⟨#[]⟩) 1 16:=⟨by kernel_rfl,rfl,by omega⟩
theorem yM(ps:List Pt):(⟨(Lib.join ((ps.map Pt.str).map (·.data.toList)) [32]).toArray ++ #[10]⟩:ByteArray).data.toList =bN ps:=by
 have:(ps.map Pt.str).map (·.data.toList)=ps.map Pt.txt:=by
  rw[List.map_map];exact List.map_congr_left fun x _=>x.str_txt
 rw[this];simp[bN]
@[go_sem] theorem Bg (v:ap) (w:V):(Instr.typeAssert (.iface 9 v) 20 9 au).run prog w= .ok (.tuple #[v,.bool au]) w:=by kernel_rfl
@[go_sem] theorem Bh (v:ap) (w:V):(Instr.typeAssert (.iface 3 v) 20 9 au).run prog w= .ok (.tuple #[.string ByteArray.empty,.bool O]) w:=by kernel_rfl
@[go_sem] theorem Bi (v:ap) (w:V):(Instr.typeAssert (.iface 3 v) 20 3 au).run prog w= .ok (.tuple #[v,.bool au]) w:=by kernel_rfl
def mc(ps:List Pt)(i:Nat):List ap:=((ps.map Pt.str).take i).map Value.string
theorem uz(b:ByteArray):∀u∈[Value.string b],u.oneCell'=au:=fun u hu=>by rw[List.mem_singleton.1 hu];rfl
set_option maxHeartbeats 4000000 in
theorem AJ(d:Nat)(G:ap→ab)(told:List UInt8)(ps:List Pt)(hp:∀x∈ps,x.ok)(hn:1≤ps.length)(hn2:ps.length≤20)(ht:told.length≤140000000000000)(x c:Nat)(R:ab)(hK:Keeps R)(w:V)
  (h:U w (aa x (ps.map Pt.val).toArray 20*(dG d G told*R))):
  ak prog 22 #[.pointer (F (N d 0 z)),.slice (F (N x 0 z)) ps.length c] w (cF (.tuple #[]) (dG d G (told++bN ps)*R) w):=by
 obtain⟨n,hN⟩:∃n,ps.length=n:=⟨_,rfl⟩;have HP:=T hp;have HN:=T hN;have HKP:=T hK;have hlen:=ir hp;have HW:Hid (∀R w s,s.data.toList=bN ps→U w (dG d G told*R)→ak prog 43 #[.pointer (F (N d 0 z)),.string s] w (cF (.tuple #[I M s.size,.nilIface]) (dG d G (told++bN ps)*R) w)):=
  T (fun R w s hs h=>by
   have hsz:s.size=(bN ps).length :=by rw[←hs,Array.length_toList];rfl
   rw[←hs];exact yu d G told s (by rw[hs];simp[bN]) (by omega) R w h)
 have hjl:(Lib.join (ps.map Pt.txt) [32]).length ≤140737488355328:=by have:=pt hp;omega
 have HJ:Hid (∀(bk c:Nat) (w:V),(∀(j:Nat) x,(ps.map Pt.str)[j]? =F x→w.cell? ⟨bk,0+j,z⟩=F (.string x))→bk<w.heap.size→n≤c→ak prog 44 #[.slice (F (N bk 0 z)) n c,.string ⟨#[32]⟩] w (a3 (.string ⟨(Lib.join ((ps.map Pt.str).map (·.data.toList)) [32]).toArray⟩) w)):=
  T (fun bk c w h1 h2 h3=>by
   have hl:(ps.map Pt.str).length =n:=by rw[List.length_map,hN]
   have hm:(ps.map Pt.str).map (·.data.toList)=ps.map Pt.txt:=by
    rw[List.map_map];exact List.map_congr_left fun x _=>x.str_txt
   have:=oe bk 0 c (ps.map Pt.str) ⟨#[32]⟩ w h1 h2 (by omega) (by omega) (by rw[hm];exact hjl);rw[hl] at this;exact this)
 rw[hN] at hn hn2⊢;clear hlen hjl hp hK;have hg:U w (bt 9 1 (.slice z 0 0) 0 []*(aa x (ps.map Pt.val).toArray 20*(dG d G told*R))):=Has.rowNil (e:=9) (size:=1) h;clear h;go_enter func22,ntmps22;go_wp2_with fail
 go_loopw [4,11] (fun t4 t11 wr=>∃(i:Nat) (A:Option Addr) (c:Nat),i≤n∧t11=I M i∧t4= .slice A i c∧
   U wr (bt 9 1 (.slice A i c) i (mc ps i)*(aa x (ps.map Pt.val).toArray 20*(dG d G told*R)))∧ax w wr) (fun _ t11 _=>n - (intOf t11).toNat)
 case atStart=>exact⟨0,z,0,by omega,rfl,rfl,hg,ad w⟩
 case round=>
  clear hg;obtain⟨i,A,c,hi,rfl,rfl,hr,hx⟩:=hrel;by_cases hlt:i<n
  ·have hil:i<ps.length:=by have:=HN.out;omega
   obtain⟨y,hy⟩:∃y,ps[i]=y:=⟨_,rfl⟩;have hyo:y.ok:=by rw[←hy];exact HP.out _ (List.getElem_mem hil)
   have hlt':(i:Int)<n:=by omega
   have hi0:(0:Int)≤i:=by omega
   have d0:wr.cell? (N x i z)=F y.val:=by rw[hr.right.cell i];simp[hil,hy]
   have dl:=hr.right.lt;have hsn:Hid (mc ps (i+1)=mc ps i++[Value.string y.str]):=T (by unfold mc;rw[List.take_add_one];simp[hil,hy]);have HL:Hid (∀w',U w' (bt 9 1 (.slice A i c) i (mc ps i)*(aa x (ps.map Pt.val).toArray 20*(dG d G told*R)))→pE w'):=T (fun w' h=>HKP.out w' h.r3);clear hy;cases y with
   |s b=>
    have hsn':Hid (mc ps (i+1)=mc ps i++[Value.string b]):=hsn;unfold Pt.val at d0;clear hsn HL hyo;go_wp2_with(at_builtin;refine a8 rfl _ _ 22 rfl underlying22 rI _ _ _ rfl (hr.alloc (.cells #[Value.string b] 9)) (N wr.heap.size 0 z) 1 1 [Value.string b] rfl rfl (fj wr (Value.string b) 9) (uz _) ?_ ?_ ?_)
    rotate_left;rotate_left
    ·intro v2 w2 h2 x2
     have hv:∃A2 c2,v2= .slice A2 (i+1) c2:=by
      rcases h2.rowCases with ⟨_,hn,_⟩|⟨g,cap,cur,hv,_⟩
      ·omega
      ·exact⟨_,_,hv⟩
     obtain⟨A2,c2,rfl⟩:=hv;have x3:=(hx.alloc (.cells #[Value.string b] 9)).trans x2;clear hr hx x2 d0 dl;go_wp2_with fail
     go_roundw
     case rel=>exact⟨i+1,A2,c2,by omega,by go_num,rfl,by rw[hsn'.out];exact h2,x3⟩
     case measure=>simp[intOf];omega
    ·unfold maxLen;omega
    ·omega
   |n k=>
    have hsn':Hid (mc ps (i+1)=mc ps i++[Value.string ⟨(Lib.itoa k).toArray⟩]):=hsn;have HI:=T (fun w h=>xU k hyo w (HL.out w h));unfold Pt.val at d0;clear hsn HL hyo;go_wp2_with fail
    refine(HI.out _ hr).mono ?_;rintro e w1 ⟨rfl,b1⟩;have h1:=hr.below b1;have x1:=hx.below b1;clear hr hx b1 d0 dl HI;go_wp2_with(at_builtin;refine a8 rfl _ _ 22 rfl underlying22 rI _ _ _ rfl (h1.alloc (.cells #[Value.string ⟨(Lib.itoa k).toArray⟩] 9)) (N w1.heap.size 0 z) 1 1 [Value.string ⟨(Lib.itoa k).toArray⟩] rfl rfl (fj w1 (Value.string ⟨(Lib.itoa k).toArray⟩) 9) (uz _) ?_ ?_ ?_)
    rotate_left;rotate_left
    ·intro v2 w2 h2 x2
     have hv:∃A2 c2,v2= .slice A2 (i+1) c2:=by
      rcases h2.rowCases with ⟨_,hn,_⟩|⟨g,cap,cur,hv,_⟩
      ·omega
      ·exact⟨_,_,hv⟩
     obtain⟨A2,c2,rfl⟩:=hv;have x3:=(x1.alloc (.cells #[Value.string ⟨(Lib.itoa k).toArray⟩] 9)).trans x2;clear h1 x1 x2;go_wp2_with fail
     go_roundw
     case rel=>exact⟨i+1,A2,c2,by omega,by go_num,rfl,by rw[hsn'.out];exact h2,x3⟩
     case measure=>simp[intOf];omega
    ·unfold maxLen;omega
    ·omega
  ·obtain rfl:i=n:=by omega
   have hal:mc ps i=(ps.map Pt.str).map Value.string:=by unfold mc;rw[List.take_of_length_le (by rw[List.length_map];omega)]
   rw[hal] at hr;obtain⟨g,hA,hgc⟩:∃g,A=F (N g 0 z)∧∀w',U w' (bt 9 1 (.slice (F (N g 0 z)) i c) i ((ps.map Pt.str).map Value.string)*(aa x (ps.map Pt.val).toArray 20*(dG d G told*R)))→g<w'.heap.size∧i≤c∧∀(j:Nat) x,(ps.map Pt.str)[j]? =F x→w'.cell? ⟨g,0+j,z⟩=F (.string x):=by
    rcases hr.rowCases with ⟨_,hn0,_⟩|⟨g,cap,cur,hv,_⟩
    ·omega
    injection hv with hA _ _
    refine⟨g,hA,fun w' h=> ?_⟩;have hrd:=(Has.rd h).1;rcases h.rowCases with ⟨hv,_⟩|⟨g2,cap2,cur2,hv2,hn2',_,_,_,hB⟩
    ·injection hv with h1 _ _
     cases h1
    ·injection hv2 with h1 _ h3
     injection h1 with h1
     injection h1 with h1 _ _
     subst h1;subst h3;refine⟨hB.lt,hn2',fun j x hx=> ?_⟩;obtain⟨b,off,hbo,_,hc⟩:=hrd.at_ (j:=j) (u:= .string x) (by rw[List.getElem?_map,hx];rfl);injection hbo with hbo
     injection hbo with h1 h2 _
     subst h1;subst h2;exact hc
   subst hA;clear hal;go_upto_region 12 with fail;have hd:=hr.drew;have xd:=hx.drew;obtain⟨hg1,hg2,hg3⟩:=hgc _ hd;clear hr hx;have HJ2:=HJ.out g c _ hg3 hg1 hg2;have hsay:=yM ps;obtain⟨J,hJe⟩:∃J:ByteArray,(⟨(Lib.join ((ps.map Pt.str).map (·.data.toList)) [32]).toArray⟩:ByteArray)=J:=⟨_,rfl⟩;have hsay2:(J++(⟨#[10]⟩:ByteArray)).data.toList =bN ps:=by rw[←hJe,←hsay];simp
   have hadd:(↑(J.size+(⟨#[10]⟩:ByteArray).size):Int)≤9223372036854775807:=by
    have h1:(J++(⟨#[10]⟩:ByteArray)).data.toList.length =(bN ps).length :=by rw[hsay2]
    have h2:=ir HP.out;have h3:(J++(⟨#[10]⟩:ByteArray)).size =J.size+(⟨#[10]⟩:ByteArray).size :=ByteArray.size_append;have h4:(J++(⟨#[10]⟩:ByteArray)).data.toList.length =(J++(⟨#[10]⟩:ByteArray)).size :=by rw[Array.length_toList];rfl
    omega
   have hop1:J.size<9223372036854775807:=by have:(⟨#[10]⟩:ByteArray).size =1:=rfl;omega
   have hop2:J.size+1≤9223372036854775807:=by omega
   have hop3:¬9223372036854775807<J.size+1:=by omega
   rw[hJe] at HJ2;clear hJe hadd hsay;clear hg1 hg2 hg3 hgc;go_region_held3 (fun _=>True) (first|trivial|go_keep)
    (first
     |(go_at_call 44;(with_reducible refine HJ2.mono ?_);rintro e w5 ⟨rfl,b5⟩;have hJ:=hd.below b5;have xJ:=xd.below b5)
     |(go_at_call 43;refine(HW.out _ _ _ hsay2 hJ.right.right).mono ?_;rintro e w6 ⟨rfl,h6,x6⟩;have xW:=xJ.trans x6))
   all_goals
    go_wp2_with fail
    go_end0
    exact⟨rfl,h6,xW⟩
section
variable (b:Nat) (σ:Sc) (R:ab) (w:V) (h:U w (ah b σ*R))
include h
theorem uA:ak prog 125 #[.pointer (F (N b 0 z))] w (Same (I M σ.cs.length) w):=by
 obtain⟨y,hy,h⟩:=cj h;unfold bq at h;rw[hy] at h;obtain⟨c0,c1,c2,c3,c4,c5⟩:=h.cells6;have cl:=h.lt;clear h;go_enter func125,ntmps125;go_wp2;go_ret;exact⟨rfl,rfl⟩
theorem yN(k:Int):ak prog 126 #[.pointer (F (N b 0 z)),I M k] w (Same (vB (σ.waits k)) w):=by
 obtain⟨y,_,h⟩:=cj h;unfold bq at h;obtain⟨c0,c1,c2,c3,c4,c5⟩:=h.cells6;have cl:=h.lt;have HW:=T (kG y.sh σ.told σ.wait k _ w (h.r3));clear h;go_enter func126,ntmps126;go_wp2_with(refine HW.out.mono ?_;rintro e w2 ⟨rfl,rfl⟩)
 go_ret;exact⟨rfl,rfl⟩
theorem zS:ak prog 79 #[.pointer (F (N b 0 z))] w (Same (I M (σ.s.frees.length:Nat)) w):=by
 obtain⟨y,_,h⟩:=cj h;unfold bq at h;obtain⟨c0,c1,c2,c3,c4,c5⟩:=h.cells6;have cl:=h.lt;have HF:=T (Ai y.f σ.s R w (h.right.right.r3));clear h;go_enter func79,ntmps79;go_wp2_with(refine HF.out.mono ?_;rintro e w2 ⟨rfl,rfl⟩)
 go_ret;exact⟨rfl,rfl⟩
end
section
variable (b:Nat) (σ:Sc) (hw:Wf σ.s 0 σ.gone (fun _=>False)) (R:ab) (w:V) (h:U w (ah b σ*R))
include hw h
set_option maxHeartbeats 2000000 in
theorem xV:ak prog 77 #[.pointer (F (N b 0 z))] w fun e w'=>∃A c,e= .returned (.slice A (cJ σ.s 0).length c)∧U w' (cz (.slice A (cJ σ.s 0).length c) (cJ σ.s 0)*(ah b σ*R))∧ax w w':=by
 obtain⟨y,hy,h⟩:=cj h;unfold bq at h;have HL:=T (fun R w h=>Ak y.f σ.s σ.gone _ hw R w h);have HS:=T (fun(w':V) (R':ab) (h:U w' (bq b σ y R'))=>cY hy h);have cl:=h.lt;have hd:=(h.eq (show _=cO y.f σ.s*(aa b #[.pointer (F (N y.f 0 z)),I M 0,.slice y.A y.ps.length y.c,.pointer (F (N y.sh 0 z)),vB σ.busy,.slice y.G σ.gone.length y.d] 193*(bT (.slice y.A y.ps.length y.c) y.ps*(aq (.slice y.G σ.gone.length y.d) σ.gone*(aD y.sh σ.told σ.wait*(aL y.ps σ.cs*R))))) by ac_rfl)).drew;have xd:=(ad w).drew;have HK:=T (fun(w':V) (P Q:ab) (h:U w' (P*(aa b #[.pointer (F (N y.f 0 z)),I M 0,.slice y.A y.ps.length y.c,.pointer (F (N y.sh 0 z)),vB σ.busy,.slice y.G σ.gone.length y.d] 193*Q)))=>(⟨h.right.cell 0,h.right.cell 1⟩:w'.cell? (N b 0 z)=F (.pointer (F (N y.f 0 z)))∧w'.cell? (N b 1 z)=F (I M 0)));clear hy h;generalize cJ σ.s 0=L at*
 go_enter func77,ntmps77;go_upto_region 1 with fail;go_region_held3 (fun w'=>w'.cell? (N b 0 z)=F (.pointer (F (N y.f 0 z)))∧w'.cell? (N b 1 z)=F (I M 0)) (first|(with_reducible exact HK.out _ _ _ hd)|(with_reducible exact HK.out _ _ _ h5.a2)|go_keep) (first|(go_at_call 123;(with_reducible refine(HL.out _ _ hd).mono ?_);rintro e w5 ⟨A,c,rfl,h5,x5⟩))
 all_goals
  go_wp2_with fail
  go_ret;exact⟨A,c,rfl,(HS.out w5 (cz (.slice A L.length c) L*R) (h5.eq (by unfold bq;ac_rfl))).p2,xd.trans x5⟩
set_option maxHeartbeats 2000000 in
theorem wL:ak prog 80 #[.pointer (F (N b 0 z))] w fun e w'=>∃A c,e= .returned (.slice A (fi σ.s 0).length c)∧U w' (aq (.slice A (fi σ.s 0).length c) (fi σ.s 0)*(ah b σ*R))∧ax w w':=by
 obtain⟨y,hy,h⟩:=cj h;unfold bq at h;have HL:=T (fun R w h=>wZ y.f σ.s σ.gone _ hw R w h);have HS:=T (fun(w':V) (R':ab) (h:U w' (bq b σ y R'))=>cY hy h);have cl:=h.lt;have hd:=(h.eq (show _=cO y.f σ.s*(aa b #[.pointer (F (N y.f 0 z)),I M 0,.slice y.A y.ps.length y.c,.pointer (F (N y.sh 0 z)),vB σ.busy,.slice y.G σ.gone.length y.d] 193*(bT (.slice y.A y.ps.length y.c) y.ps*(aq (.slice y.G σ.gone.length y.d) σ.gone*(aD y.sh σ.told σ.wait*(aL y.ps σ.cs*R))))) by ac_rfl)).drew;have xd:=(ad w).drew;have HK:=T (fun(w':V) (P Q:ab) (h:U w' (P*(aa b #[.pointer (F (N y.f 0 z)),I M 0,.slice y.A y.ps.length y.c,.pointer (F (N y.sh 0 z)),vB σ.busy,.slice y.G σ.gone.length y.d] 193*Q)))=>(⟨h.right.cell 0,h.right.cell 1⟩:w'.cell? (N b 0 z)=F (.pointer (F (N y.f 0 z)))∧w'.cell? (N b 1 z)=F (I M 0)));clear hy h;generalize fi σ.s 0=L at*
 go_enter func80,ntmps80;go_upto_region 1 with fail;go_region_held3 (fun w'=>w'.cell? (N b 0 z)=F (.pointer (F (N y.f 0 z)))∧w'.cell? (N b 1 z)=F (I M 0)) (first|(with_reducible exact HK.out _ _ _ hd)|(with_reducible exact HK.out _ _ _ h5.a2)|go_keep) (first|(go_at_call 128;(with_reducible refine(HL.out _ _ hd).mono ?_);rintro e w5 ⟨A,c,rfl,h5,x5⟩))
 all_goals
  go_wp2_with fail
  go_ret;exact⟨A,c,rfl,(HS.out w5 (aq (.slice A L.length c) L*R) (h5.eq (by unfold bq;ac_rfl))).p2,xd.trans x5⟩
end
section
variable (b:Nat) (σ:Sc) (R:ab) (w:V) (h:U w (ah b σ*R))
include h
set_option maxHeartbeats 2000000 in
theorem zT(p:Int):ak prog 74 #[.pointer (F (N b 0 z)),I M p] w (a3 (.tuple #[(bJ σ.s 0 p).val,zX (jT σ.s 0 p),I M (bm σ.s 0 p)]) w):=by
 obtain⟨y,hy,h⟩:=cj h;unfold bq at h;have h0:=((bc w).new #[I M 0,I M 0,I M 0,I M 0] 75).new #[vB O,vB O,I M 0,vB O,vB O,I M 0] 81;have x0:=((ad w).alloc (.cells #[I M 0,I M 0,I M 0,I M 0] 75)).alloc (.cells #[vB O,vB O,I M 0,vB O,vB O,I M 0] 81);have g0:=(h.alloc (.cells #[I M 0,I M 0,I M 0,I M 0] 75)).alloc (.cells #[vB O,vB O,I M 0,vB O,vB O,I M 0] 81);simp only[ag] at h0;have nb0:b≠w.heap.size:=by have:=h.lt;omega
 have nb1:b≠w.heap.size+1:=by have:=h.lt;omega
 have HL:=T (fun R w h=>Af y.f σ.s R w h 0 p);have cl:=h.lt;unfold zX Mp.val at HL⊢;generalize bJ σ.s 0 p=mp at*
 generalize jT σ.s 0 p=fe at*
 generalize bm σ.s 0 p=fc at*
 have hd:=(g0.eq (show _=cO y.f σ.s*(aa b #[.pointer (F (N y.f 0 z)),I M 0,.slice y.A y.ps.length y.c,.pointer (F (N y.sh 0 z)),vB σ.busy,.slice y.G σ.gone.length y.d] 193*(bT (.slice y.A y.ps.length y.c) y.ps*(aq (.slice y.G σ.gone.length y.d) σ.gone*(aD y.sh σ.told σ.wait*(aL y.ps σ.cs*R))))) by ac_rfl)).drew;have q0:=h.cell 0;have q1:=h.cell 1;have HKO:=T (fun(w':V) (P Q:ab) (h:U w' (P*(Q*cr w w.heap.size)))=>(⟨(Has.swap h.right).oldCell' q0,(Has.swap h.right).oldCell' q1⟩:w'.cell? (N b 0 z)=F (.pointer (F (N y.f 0 z)))∧w'.cell? (N b 1 z)=F (I M 0)));clear hy h g0 q0 q1;go_enter func74,ntmps74;go_upto_region 1 with fail;generalize (w.alloc (.cells #[I M 0,I M 0,I M 0,I M 0] 75)).alloc (.cells #[vB O,vB O,I M 0,vB O,vB O,I M 0] 81)=w1 at*
 have h0d:=h0.drew;go_region_held3 (fun w'=>w'.cell? (N b 0 z)=F (.pointer (F (N y.f 0 z)))∧w'.cell? (N b 1 z)=F (I M 0)) (first|(with_reducible exact HKO.out _ _ _ h0d)|(with_reducible exact HKO.out _ _ _ g5)|(with_reducible exact HKO.out _ _ _ g6)|(with_reducible exact HKO.out _ _ _ g7)|go_keep) (first|(go_at_call 121;(with_reducible refine(HL.out _ _ hd).mono ?_);rintro e w5 ⟨rfl,b5⟩;have g5:=h0d.below b5;have x5:=x0.drew.below b5;obtain⟨e0,e1,e2,e3,e4,e5⟩:=g5.frees6;obtain⟨m0,m1,m2,m3⟩:=g5.right.frees4;obtain⟨k0,k1,k2,k3,k4,k5⟩:=g5.cells6;obtain⟨q0,q1,q2,q3⟩:=g5.right.cells4;have kl:=g5.lt;have ql:=g5.right.lt;have g6:=g5.p2.set4 (I M mp.page) (I M mp.size) (I M mp.frame) (I M mp.rights);have g7:=g6.p2.set6 (vB fe.there) (vB fe.leaf) (I M fe.rights) (vB fe.used) (vB fe.dirty) (I M fe.frame)))
 all_goals
  go_wp2_with fail
  refine ay (fun wz=>U wz (aa (w.heap.size+1) #[vB fe.there,vB fe.leaf,I M fe.rights,vB fe.used,vB fe.dirty,I M fe.frame] 81*(aa w.heap.size #[I M mp.page,I M mp.size,I M mp.frame,I M mp.rights] 75*cr w w.heap.size))∧ax w wz) ⟨g7,aj⟩ ?_;rintro wz ⟨hz,xz⟩;exact W (eT results74 rfl rfl rfl (br hz.right) (co hz)) rfl ⟨rfl,aA hz.right.right xz⟩
end
section
variable (b:Nat) (σ:Sc) (R:ab) (w:V) (h:U w (ah b σ*R))
include h
set_option maxHeartbeats 2000000 in
theorem AK(k:Int):ak prog 114 #[.pointer (F (N b 0 z)),I M k] w (a3 (.tuple #[.agg #[I M (σ.acc k).page,I M (σ.acc k).kind,vB (σ.acc k).user],vB (σ.on k)]) w):=by
 obtain⟨y,hy,h⟩:=cj h;unfold bq at h;have h0:=(bc w).new #[I M 0,I M 0,vB O] 77;have x0:=(ad w).alloc (.cells #[I M 0,I M 0,vB O] 77);have g0:=h.alloc (.cells #[I M 0,I M 0,vB O] 77);have cl:b< (w.alloc (.cells #[I M 0,I M 0,vB O] 77)).heap.size :=g0.lt;obtain⟨c0,c1,c2,c3,c4,c5⟩:=g0.cells6;clear h;by_cases hk:0≤k∧k<σ.cs.length
 case neg=>
  have hon:σ.on k=O:=by
   unfold Sc.on;by_cases h0:0≤k
   ·rw[decide_eq_false (show¬k< (σ.cs.length:Int) from fun hh=>hk ⟨h0,hh⟩)];simp
   ·rw[decide_eq_false h0];rfl
  have hac:σ.acc k=Ac.zero:=by unfold Sc.acc;rw[hon];rfl
  rw[hon,hac];clear hon hac g0;rw[←hy] at hk;clear hy;obtain⟨z0,z1,z2⟩:=h0.cells3;obtain⟨f0,f1,f2⟩:=h0.frees3;have zl:=h0.lt;by_cases hk0:k<0
  ·clear hk
   go_enter func114,ntmps114;go_wp2_with fail
   refine ay (fun wz=>U wz (aa w.heap.size #[I M 0,I M 0,vB O] 77*(cr w w.heap.size))∧ax w wz) ⟨by first|(with_reducible exact h0)|(with_reducible exact h0.set3 _ _ _),aj⟩ ?_;rintro wz ⟨hz,xz⟩;exact W (aF results114 rfl rfl (eY hz)) rfl ⟨rfl,aA hz.right xz⟩
  ·have hkl:(y.ps.length:Int)≤k:=by omega
   clear hk;go_enter func114,ntmps114;go_wp2_with fail
   refine ay (fun wz=>U wz (aa w.heap.size #[I M 0,I M 0,vB O] 77*(cr w w.heap.size))∧ax w wz) ⟨by first|(with_reducible exact h0)|(with_reducible exact h0.set3 _ _ _),aj⟩ ?_;rintro wz ⟨hz,xz⟩;exact W (aF results114 rfl rfl (eY hz)) rfl ⟨rfl,aA hz.right xz⟩
 case pos=>
  obtain⟨hk0,hkl⟩:=hk;obtain⟨k,rfl⟩:=Int.eq_ofNat_of_zero_le hk0;have hkn:k<σ.cs.length:=by omega
  have hkp:k<y.ps.length:=by omega
  obtain⟨Q,eQ,_⟩:=jc (af hkp) (Safe.at_core hkn);rw[eQ] at g0;obtain⟨bA,hA,lA,cA⟩:=gW g0.right (af hkp);have hon:σ.on k=(σ.core k).k.on :=by
   unfold Sc.on;rw[decide_eq_true hk0,decide_eq_true hkl];simp
  have hac:σ.acc k=if(σ.core k).k.on =au then(σ.core k).k.a else Ac.zero:=by unfold Sc.acc;rw[hon];simp
  have hcr:=g0.right.r3.a1;have HB:=T (vQ y.ps[k] _ 0 _ _ _ hcr);have HA:=T (xt y.ps[k] _ 0 _ _ _ hcr);rw[hon,hac];have hkl':(k:Int)<y.ps.length:=by omega
  have h0d:=h0;generalize y.ps[k]=p at*
  generalize (σ.core k).k =ck at*
  rw[hA] at c2;clear hon hac g0 eQ hcr hy hkl hkn;obtain⟨z0,z1,z2⟩:=h0.cells3;obtain⟨f0,f1,f2⟩:=h0.frees3;have zl:=h0.lt;cases hn:ck.on with
  |false=>
   rw[hn] at HB;rw[if_neg (by simp)];clear hn;go_enter func114,ntmps114;go_wp2_with(refine HB.out.mono ?_;rintro e w2 ⟨rfl,rfl⟩)
   refine ay (fun wz=>U wz (aa w.heap.size #[I M 0,I M 0,vB O] 77*(cr w w.heap.size))∧ax w wz) ⟨by first|(with_reducible exact h0)|(with_reducible exact h0.set3 _ _ _),aj⟩ ?_;rintro wz ⟨hz,xz⟩;exact W (aF results114 rfl rfl (eY hz)) rfl ⟨rfl,aA hz.right xz⟩
  |true=>
   rw[hn] at HB;rw[if_pos rfl];clear hn;go_enter func114,ntmps114;go_wp2_with(refine HB.out.mono ?_;rintro e w2 ⟨rfl,hwz⟩;subst hwz)
   refine HA.out.mono ?_;rintro e w2 ⟨rfl,b2⟩;have g2:=h0.below b2;have x2:=x0.below b2;clear h0 x0 z0 z1 z2 f0 f1 f2 zl h0d c0 c1 c2 c3 c4 c5 cl cA lA;obtain⟨z0,z1,z2⟩:=g2.cells3;obtain⟨f0,f1,f2⟩:=g2.frees3;have zl:=g2.lt;go_wp2_with fail
   refine ay (fun wz=>U wz (aa w.heap.size #[I M ck.a.page,I M ck.a.kind,vB ck.a.user] 77*(cr w w.heap.size))∧ax w wz) ⟨g2.set3 _ _ _,aj⟩ ?_;rintro wz ⟨hz,xz⟩;exact W (aF results114 rfl rfl (eY hz)) rfl ⟨rfl,aA hz.right xz⟩
end
def Ev.val(e:Ev):ap:= .agg #[I M e.code,vB e.fin,I M e.an.fin,I M e.an.frame,I M e.an.rights,vB e.back]
theorem bh{w:V}{R:ab}{b:Nat}{v0 v1 v2 v3 v4 v5:ap}(h:U w (aa b #[v0,v1,v2,v3,v4,v5] 72*R)):(loadVar 72 (N b 0 z)).run prog w= .ok (.agg #[v0,v1,v2,v3,v4,v5]) w:=
 run_loadVar_row w b 72 72 _ _ _ h.heap underlying72 rfl (by kernel_rfl)
theorem eC(c:Int)(w:V):ak prog 145 #[I M c] w (a3 (.agg #[I M c,vB O,I M 0,I M 0,I M 0,vB O]) w):=by
 have h0:=(bc w).new #[I M 0,vB O,I M 0,I M 0,I M 0,vB O] 72;have h1:=(bc w).new #[I M c,vB O,I M 0,I M 0,I M 0,vB O] 72;obtain⟨c0,c1,c2,c3,c4,c5⟩:=h0.cells6;obtain⟨f0,f1,f2,f3,f4,f5⟩:=h0.frees6;have cl:=h0.lt;go_enter func145,ntmps145;go_wp2_with fail
 refine ay (fun wz=>U wz (aa w.heap.size #[I M c,vB O,I M 0,I M 0,I M 0,vB O] 72*(cr w w.heap.size))∧ax w wz) ⟨by first|(with_reducible exact h1)|(with_reducible exact h0.set6 _ _ _ _ _ _),aj⟩ ?_;rintro wz ⟨hz,xz⟩;exact W (aR results145 rfl (bh hz)) rfl ⟨rfl,aA hz.right xz⟩
theorem xX(a f r c:Int)(fin:Bool)(w:V):ak prog 146 #[.agg #[I M a,I M f,I M r],vB fin,I M c] w (a3 (.agg #[I M c,vB fin,I M a,I M f,I M r,vB O]) w):=by
 have h0:=((bc w).new #[I M a,I M f,I M r] 70).new #[I M 0,vB O,I M 0,I M 0,I M 0,vB O] 72;have h1:=((bc w).new #[I M a,I M f,I M r] 70).new #[I M c,vB fin,I M a,I M f,I M r,vB O] 72;simp only[ag] at h0 h1;obtain⟨c0,c1,c2,c3,c4,c5⟩:=h0.cells6;obtain⟨f0,f1,f2,f3,f4,f5⟩:=h0.frees6;obtain⟨a0,a1,a2⟩:=h0.right.cells3;have cl:=h0.lt;have al:=h0.right.lt;go_enter func146,ntmps146;go_wp2_with fail
 refine ay (fun wz=>U wz (aa (w.heap.size+1) #[I M c,vB fin,I M a,I M f,I M r,vB O] 72*(aa w.heap.size #[I M a,I M f,I M r] 70*cr w w.heap.size))∧ax w wz) ⟨by first|(with_reducible exact h1)|(with_reducible exact h0.set6 _ _ _ _ _ _),aj⟩ ?_;rintro wz ⟨hz,xz⟩;exact W (aR results146 rfl (bh hz)) rfl ⟨rfl,aA hz.right.right xz⟩
set_option maxHeartbeats 4000000 in
theorem yO(b:Nat)(σ:Sc)(y:Sl)(m:Mp)(g:List Int)(G:Option Addr)(gn gd:Nat)(hy:y.ps.length=σ.cs.length)(hn1:1≤σ.cs.length)(hn4:σ.cs.length≤4)(hov:ga σ.wait=au)(R:ab)(w:V)(h:U w (bq b σ y (aq (.slice G gn gd) g*R))):
  ak prog 177 #[.pointer (F (N b 0 z)),.agg #[I M m.page,I M m.size,I M m.frame,I M m.rights],.slice G gn gd] w (cF (.agg #[I M 0,vB O,I M 0,I M 0,I M 0,vB O]) (ah b (σ.post σ.s m g)*R) w):=by
 unfold bq at h;obtain rfl:=fh (h.eq (show _=aq (.slice G gn gd) g*(aa b #[.pointer (F (N y.f 0 z)),I M 0,.slice y.A y.ps.length y.c,.pointer (F (N y.sh 0 z)),vB σ.busy,.slice y.G σ.gone.length y.d] 193*(bT (.slice y.A y.ps.length y.c) y.ps*(aq (.slice y.G σ.gone.length y.d) σ.gone*(aD y.sh σ.told σ.wait*(aL y.ps σ.cs*(cO y.f σ.s*R)))))) by ac_rfl));have h0:U _ (aa b #[.pointer (F (N y.f 0 z)),I M 0,.slice y.A y.ps.length y.c,.pointer (F (N y.sh 0 z)),vB σ.busy,.slice y.G σ.gone.length y.d] 193*(aD y.sh σ.told σ.wait*(aa (w.heap.size+1) #[I M 0,vB O,I M 0,I M 0,I M 0,vB O] 72*(aa w.heap.size #[I M m.page,I M m.size,I M m.frame,I M m.rights] 75*(bT (.slice y.A y.ps.length y.c) y.ps*(aL y.ps σ.cs*(cO y.f σ.s*(aq (.slice G g.length gd) g*R)))))))):=
  (((h.new #[I M m.page,I M m.size,I M m.frame,I M m.rights] 75).new #[I M 0,vB O,I M 0,I M 0,I M 0,vB O] 72).eq (show _=aq (.slice y.G σ.gone.length y.d) σ.gone*(aa b #[.pointer (F (N y.f 0 z)),I M 0,.slice y.A y.ps.length y.c,.pointer (F (N y.sh 0 z)),vB σ.busy,.slice y.G σ.gone.length y.d] 193*(aD y.sh σ.told σ.wait*(aa (w.heap.size+1) #[I M 0,vB O,I M 0,I M 0,I M 0,vB O] 72*(aa w.heap.size #[I M m.page,I M m.size,I M m.frame,I M m.rights] 75*(bT (.slice y.A y.ps.length y.c) y.ps*(aL y.ps σ.cs*(cO y.f σ.s*(aq (.slice G g.length gd) g*R)))))))) by(simp only[ag];ac_rfl))).right
 have x0:=((ad w).alloc (.cells #[I M m.page,I M m.size,I M m.frame,I M m.rights] 75)).alloc (.cells #[I M 0,vB O,I M 0,I M 0,I M 0,vB O] 72);rw[←hy] at hn1 hn4;have HP:=T (fun R w h=>uK y.sh σ.told m σ.wait y.ps.length R w h hov hn1 hn4);have HS:=T (fun(w':V) (h:U w' (aa b #[.pointer (F (N y.f 0 z)),I M 0,.slice y.A y.ps.length y.c,.pointer (F (N y.sh 0 z)),vB au,.slice G g.length gd] 193*(bT (.slice y.A y.ps.length y.c) y.ps*(aq (.slice G g.length gd) g*(aD y.sh m (fA y.ps.length)*(aL y.ps σ.cs*(cO y.f σ.s*R)))))))=>
  cY (b:=b) (σ:=σ.post σ.s m g) (y:=⟨y.f,y.sh,y.A,y.c,y.ps,G,gd⟩) (R:=R) hy (by rw[hy] at h;unfold bq;rw[hy];exact h))
 clear h hov hy;obtain⟨c0,c1,c2,c3,c4,c5⟩:=h0.cells6;obtain⟨f0,f1,f2,f3,f4,f5⟩:=h0.frees6;have cl:=h0.lt;generalize σ.told=td at*
 generalize σ.wait=wt at*
 generalize σ.busy=bz at*
 generalize σ.gone.length=ogl at*
 go_enter func177,ntmps177;go_upto_region 2 with fail;have h1:=(h0.set 4 (vB au)).set 5 (.slice G g.length gd);have x1:=(x0.set (N b 4 z) (vB au)).set (N b 5 z) (.slice G g.length gd);have h2:U _ (aD y.sh td wt*(aa b #[.pointer (F (N y.f 0 z)),I M 0,.slice y.A y.ps.length y.c,.pointer (F (N y.sh 0 z)),vB au,.slice G g.length gd] 193*(aa w.heap.size #[I M m.page,I M m.size,I M m.frame,I M m.rights] 75*(aa (w.heap.size+1) #[I M 0,vB O,I M 0,I M 0,I M 0,vB O] 72*(bT (.slice y.A y.ps.length y.c) y.ps*(aL y.ps σ.cs*(cO y.f σ.s*(aq (.slice G g.length gd) g*R)))))))):=h1.eq (show _=_ by ac_rfl);clear h0 x0 h1 c0 c1 c2 c3 c4 c5 f0 f1 f2 f3 f4 f5 cl;generalize (((w.alloc (.cells #[I M m.page,I M m.size,I M m.frame,I M m.rights] 75)).alloc (.cells #[I M 0,vB O,I M 0,I M 0,I M 0,vB O] 72)).setCell (N b 4 z) (vB au)).setCell (N b 5 z) (.slice G g.length gd)=w1 at*
 have HK:=T (fun(w':V) (P Q:ab) (h:U w' (P*(aa b #[.pointer (F (N y.f 0 z)),I M 0,.slice y.A y.ps.length y.c,.pointer (F (N y.sh 0 z)),vB au,.slice G g.length gd] 193*(aa w.heap.size #[I M m.page,I M m.size,I M m.frame,I M m.rights] 75*Q))))=>(⟨h.right.cell 2,h.right.cell 3,h.right.right.cell 0,h.right.right.cell 1,h.right.right.cell 2,h.right.right.cell 3⟩:
  w'.cell? (N b 2 z)=F (.slice y.A y.ps.length y.c)∧w'.cell? (N b 3 z)=F (.pointer (F (N y.sh 0 z)))∧w'.cell? (N w.heap.size 0 z)=F (I M m.page)∧w'.cell? (N w.heap.size 1 z)=F (I M m.size)∧w'.cell? (N w.heap.size 2 z)=F (I M m.frame)∧w'.cell? (N w.heap.size 3 z)=F (I M m.rights)))
 have cl:=h2.right.lt;have ml:=h2.right.right.lt;have hd:=h2.drew;have xd:=x1.drew;go_region_held3 (fun w'=>w'.cell? (N b 2 z)=F (.slice y.A y.ps.length y.c)∧w'.cell? (N b 3 z)=F (.pointer (F (N y.sh 0 z)))∧w'.cell? (N w.heap.size 0 z)=F (I M m.page)∧w'.cell? (N w.heap.size 1 z)=F (I M m.size)∧w'.cell? (N w.heap.size 2 z)=F (I M m.frame)∧w'.cell? (N w.heap.size 3 z)=F (I M m.rights)) (first|(with_reducible exact HK.out _ _ _ hd)|(with_reducible exact HK.out _ _ _ h5)|go_keep) (first|(go_at_call 213;(with_reducible refine(HP.out _ _ hd).mono ?_);rintro e w5 ⟨rfl,h5,x5⟩))
 all_goals
  have h6:U w5 (aa (w.heap.size+1) #[I M 0,vB O,I M 0,I M 0,I M 0,vB O] 72*(aa w.heap.size #[I M m.page,I M m.size,I M m.frame,I M m.rights] 75*(aa b #[.pointer (F (N y.f 0 z)),I M 0,.slice y.A y.ps.length y.c,.pointer (F (N y.sh 0 z)),vB au,.slice G g.length gd] 193*(bT (.slice y.A y.ps.length y.c) y.ps*(aq (.slice G g.length gd) g*(aD y.sh m (fA y.ps.length)*(aL y.ps σ.cs*(cO y.f σ.s*R)))))))):=h5.eq (by ac_rfl);have x6:=xd.trans x5;clear hd xd h5 x5 h2 x1 HK HP;obtain⟨c0,c1,c2,c3,c4,c5⟩:=h6.cells6;obtain⟨f0,f1,f2,f3,f4,f5⟩:=h6.frees6;have el:=h6.lt;go_wp2_with fail
  refine ay (fun wz=>U wz (aa (w.heap.size+1) #[I M 0,vB O,I M 0,I M 0,I M 0,vB O] 72*(aa w.heap.size #[I M m.page,I M m.size,I M m.frame,I M m.rights] 75*(aa b #[.pointer (F (N y.f 0 z)),I M 0,.slice y.A y.ps.length y.c,.pointer (F (N y.sh 0 z)),vB au,.slice G g.length gd] 193*(bT (.slice y.A y.ps.length y.c) y.ps*(aq (.slice G g.length gd) g*(aD y.sh m (fA y.ps.length)*(aL y.ps σ.cs*(cO y.f σ.s*R))))))))∧ax w wz) ⟨h6.set6 _ _ _ _ _ _,aj⟩ ?_;rintro wz ⟨hz,xz⟩;exact W (aR results177 rfl (bh hz)) rfl ⟨rfl,HS.out _ hz.right.right,xz⟩
theorem xY(d:Nat)(G:ap→ab)(told:List UInt8)(ps:List Pt)(hp:∀x∈ps,x.ok)(hn:1≤ps.length)(hn2:ps.length≤20)(ht:told.length≤140000000000000)(R:ab)(hK:Keeps R)(w:V)
  (h:U w (dG d G told*R)):
  ak prog 22 #[.pointer (F (N d 0 z)),.slice (F (N w.heap.size 0 z)) ps.length ps.length] (w.alloc (.cells (ps.map Pt.val).toArray 20)) (cF (.tuple #[]) (dG d G (told++bN ps)*R) w):=by
 refine(AJ d G told ps hp hn hn2 ht w.heap.size ps.length R hK _ (h.new (ps.map Pt.val).toArray 20)).mono ?_;rintro e w' ⟨rfl,h2,x2⟩;exact⟨rfl,h2,((ad w).alloc _).trans x2⟩
theorem ji(d m:Nat)(S:Option Sc)(told:List UInt8)(ps:List Pt)(hp:∀x∈ps,x.ok)(hn:1≤ps.length)(hn2:ps.length≤20)(ht:told.length≤140000000000000)(R:ab)(hK:Keeps R)(w:V)
  (h:U w (aG d m S told*R)):
  ak prog 22 #[.pointer (F (N d 0 z)),.slice (F (N w.heap.size 0 z)) ps.length ps.length] (w.alloc (.cells (ps.map Pt.val).toArray 20)) (cF (.tuple #[]) (aG d m S (told++bN ps)*R) w):=
 xY d (fun q=>kh q m S) told ps hp hn hn2 ht R hK w h
set_option maxHeartbeats 4000000 in
theorem uB(d m:Nat)(S:Option Sc)(told:List UInt8)(e:Ev)(he:e.fit)(ht:told.length≤140000000000000)(R:ab)(HK:Keeps R)(w:V)(h:U w (aG d m S told*R)):
  ak prog 73 #[.pointer (F (N d 0 z)),e.val] w (cF (.tuple #[]) (aG d m S (told++bN (ow e))*R) w):=by
 have hok:=oA he;obtain⟨ec,ef,⟨ea,eb,er⟩,ek⟩:=e;unfold Ev.val;have hb:U (w.alloc (.cells #[I M ec,vB ef,I M ea,I M eb,I M er,vB ek] 72)) (aG d m S told*(aa w.heap.size #[I M ec,vB ef,I M ea,I M eb,I M er,vB ek] 72*R)):=(h.new #[I M ec,vB ef,I M ea,I M eb,I M er,vB ek] 72).p2;have xb:=(ad w).alloc (.cells #[I M ec,vB ef,I M ea,I M eb,I M er,vB ek] 72);obtain⟨d0,d1,d2,d3,d4,d5⟩:=hb.right.cells6;have dl:=hb.right.lt;clear h he;by_cases hc:ec=0
 ·subst hc
  cases ef with
  |true=>
   by_cases ha:ea=0
   ·subst ha
    have hE:ow ⟨0,au,⟨0,eb,er⟩,ek⟩=[.s lW,.n eb,.n er]:=rfl;rw[hE] at hok⊢;obtain⟨out,ho⟩:∃o,told++bN [.s lW,.n eb,.n er]=o:=⟨_,rfl⟩;have HS:=(fun R w hK h=>ji d m S told [.s lW,.n eb,.n er] (by first|assumption|(intro x hx;rw[List.mem_singleton.1 hx];show _≤20;decide)) (by simp) (by simp) ht R hK w h:∀R w,Keeps R→U w (aG d m S told*R)→_);rw[ho];simp only[ho] at HS;simp only[List.map_cons,List.map_nil,List.length_cons,List.length_nil,Nat.reduceAdd,Pt.val,lW] at HS;replace HS:=T HS;clear hE hok ho;go_enter func73,ntmps73;go_upto_region 2 with fail;generalize w.alloc _=w1 at*
    generalize w.heap.size=X at*
    go_wp2_with fail
    (with_reducible refine(HS.out _ _ (HK.star _) hb).mono ?_);rintro e w2 ⟨rfl,h2,x2⟩
    clear HS d0 d1 d2 d3 d4 d5 dl hb;go_wp2_with fail
    go_end0
    exact⟨rfl,(h2.eq (av _ _ _)).right,xb.trans x2⟩
   ·by_cases ha1:ea=1
    ·subst ha1
     have hE:ow ⟨0,au,⟨1,eb,er⟩,ek⟩=[.s it]:=rfl;rw[hE] at hok⊢;obtain⟨out,ho⟩:∃o,told++bN [.s it]=o:=⟨_,rfl⟩;have HS:=(fun R w hK h=>ji d m S told [.s it] (by first|assumption|(intro x hx;rw[List.mem_singleton.1 hx];show _≤20;decide)) (by simp) (by simp) ht R hK w h:∀R w,Keeps R→U w (aG d m S told*R)→_);rw[ho];simp only[ho] at HS;simp only[List.map_cons,List.map_nil,List.length_cons,List.length_nil,Nat.reduceAdd,Pt.val,it] at HS;replace HS:=T HS;clear hE hok ho ha;go_enter func73,ntmps73;go_upto_region 2 with fail;generalize w.alloc _=w1 at*
     generalize w.heap.size=X at*
     go_wp2_with fail
     (with_reducible refine(HS.out _ _ (HK.star _) hb).mono ?_);rintro e w2 ⟨rfl,h2,x2⟩
     clear HS d0 d1 d2 d3 d4 d5 dl hb;go_wp2_with fail
     go_end0
     exact⟨rfl,(h2.eq (av _ _ _)).right,xb.trans x2⟩
    ·have hE:ow ⟨0,au,⟨ea,eb,er⟩,ek⟩=[.s pv]:=by unfold ow;rw[if_neg (fun h=>h rfl),if_pos rfl,if_neg ha,if_neg ha1]
     rw[hE] at hok⊢;obtain⟨out,ho⟩:∃o,told++bN [.s pv]=o:=⟨_,rfl⟩;have HS:=(fun R w hK h=>ji d m S told [.s pv] (by first|assumption|(intro x hx;rw[List.mem_singleton.1 hx];show _≤20;decide)) (by simp) (by simp) ht R hK w h:∀R w,Keeps R→U w (aG d m S told*R)→_);rw[ho];simp only[ho] at HS;simp only[List.map_cons,List.map_nil,List.length_cons,List.length_nil,Nat.reduceAdd,Pt.val,pv] at HS;replace HS:=T HS;clear hE hok ho;have ha':(ea==0)=O:=by simpa using ha
     have ha1':(ea==1)=O:=by simpa using ha1
     go_enter func73,ntmps73;go_upto_region 2 with fail;generalize w.alloc _=w1 at*
     generalize w.heap.size=X at*
     go_wp2_with fail
     (with_reducible refine(HS.out _ _ (HK.star _) hb).mono ?_);rintro e w2 ⟨rfl,h2,x2⟩
     clear HS d0 d1 d2 d3 d4 d5 dl hb;go_wp2_with fail
     go_end0
     exact⟨rfl,(h2.eq (av _ _ _)).right,xb.trans x2⟩
  |false=>
   cases ek with
   |true=>
    have hE:ow ⟨0,O,⟨ea,eb,er⟩,au⟩=[.s pw]:=rfl;rw[hE] at hok⊢;obtain⟨out,ho⟩:∃o,told++bN [.s pw]=o:=⟨_,rfl⟩;have HS:=(fun R w hK h=>ji d m S told [.s pw] (by first|assumption|(intro x hx;rw[List.mem_singleton.1 hx];show _≤20;decide)) (by simp) (by simp) ht R hK w h:∀R w,Keeps R→U w (aG d m S told*R)→_);rw[ho];simp only[ho] at HS;simp only[List.map_cons,List.map_nil,List.length_cons,List.length_nil,Nat.reduceAdd,Pt.val,pw] at HS;replace HS:=T HS;clear hE hok ho;go_enter func73,ntmps73;go_upto_region 2 with fail;generalize w.alloc _=w1 at*
    generalize w.heap.size=X at*
    go_wp2_with fail
    (with_reducible refine(HS.out _ _ (HK.star _) hb).mono ?_);rintro e w2 ⟨rfl,h2,x2⟩
    clear HS d0 d1 d2 d3 d4 d5 dl hb;go_wp2_with fail
    go_end0
    exact⟨rfl,(h2.eq (av _ _ _)).right,xb.trans x2⟩
   |false=>
    have hE:ow ⟨0,O,⟨ea,eb,er⟩,O⟩=[.s wa]:=rfl;rw[hE] at hok⊢;obtain⟨out,ho⟩:∃o,told++bN [.s wa]=o:=⟨_,rfl⟩;have HS:=(fun R w hK h=>ji d m S told [.s wa] (by first|assumption|(intro x hx;rw[List.mem_singleton.1 hx];show _≤20;decide)) (by simp) (by simp) ht R hK w h:∀R w,Keeps R→U w (aG d m S told*R)→_);rw[ho];simp only[ho] at HS;simp only[List.map_cons,List.map_nil,List.length_cons,List.length_nil,Nat.reduceAdd,Pt.val,wa] at HS;replace HS:=T HS;clear hE hok ho;go_enter func73,ntmps73;go_upto_region 2 with fail;generalize w.alloc _=w1 at*
    generalize w.heap.size=X at*
    go_wp2_with fail
    (with_reducible refine(HS.out _ _ (HK.star _) hb).mono ?_);rintro e w2 ⟨rfl,h2,x2⟩
    clear HS d0 d1 d2 d3 d4 d5 dl hb;go_wp2_with fail
    go_end0
    exact⟨rfl,(h2.eq (av _ _ _)).right,xb.trans x2⟩
 ·have hE:ow ⟨ec,ef,⟨ea,eb,er⟩,ek⟩=[.s pu,.n ec]:=by unfold ow;rw[if_pos hc]
  rw[hE] at hok⊢;obtain⟨out,ho⟩:∃o,told++bN [.s pu,.n ec]=o:=⟨_,rfl⟩;have HS:=(fun R w hK h=>ji d m S told [.s pu,.n ec] (by first|assumption|(intro x hx;rw[List.mem_singleton.1 hx];show _≤20;decide)) (by simp) (by simp) ht R hK w h:∀R w,Keeps R→U w (aG d m S told*R)→_);rw[ho];simp only[ho] at HS;simp only[List.map_cons,List.map_nil,List.length_cons,List.length_nil,Nat.reduceAdd,Pt.val,pu] at HS;replace HS:=T HS;clear hE hok ho;have hc':(ec !=0)=au:=by simpa using hc
  go_enter func73,ntmps73;go_upto_region 2 with fail;generalize w.alloc _=w1 at*
  generalize w.heap.size=X at*
  go_wp2_with fail
  (with_reducible refine(HS.out _ _ (HK.star _) hb).mono ?_);rintro e w2 ⟨rfl,h2,x2⟩
  clear HS d0 d1 d2 d3 d4 d5 dl hb;go_wp2_with fail
  go_end0
  exact⟨rfl,(h2.eq (av _ _ _)).right,xb.trans x2⟩
section
variable {P:Program} {fn:Func} {tmps:Array ap} {w:V}
theorem db{a b:Nat}{t:TypeId}{p:Addr}{v u:ap}(hr:fn.results= #[.tmp b,.cell a t])(ha:tmps.getD a undef= .pointer (F p))(hb:tmps.getD b undef=u)(hl:(loadVar t p).run P w= .ok v w):
  (results fn tmps).run P w= .ok (.tuple #[u,v]) w:=by
 unfold results;rw[hr];simp only[Array.getD_eq_getD_getElem?] at ha hb;simp[asAddr,ha,hb,hl]
end
theorem wM(q:Nat):∀u∈([.pointer (F (N q 0 z))]:List ap),u.oneCell'=au:=by
 intro u hu;simp at hu;subst hu;rfl
theorem Has.frees2{w:V}{R:ab}{b:Nat}{v0 v1:ap}{t:TypeId}(h:U w (aa b #[v0,v1] t*R)):w.frozen? (N b 0 z)=O∧w.frozen? (N b 1 z)=O:=⟨h.free 0,h.free 1⟩
theorem Has.set2{w:V}{R:ab}{b:Nat}{v0 v1:ap}{t:TypeId}(h:U w (aa b #[v0,v1] t*R))(u0 u1:ap):U ((w.setCell (N b 0 z) u0).setCell (N b 1 z) u1) (aa b #[u0,u1] t*R):=(h.set 0 u0).set 1 u1
theorem wN(cores n:Int)(hc:cores<1∨4<cores∨n<1∨128<n)(w:V):
  ak prog 70 #[I M cores,I M n] w (a3 (.tuple #[.pointer z,.agg #[I M 1,I M (-1)]]) w):=by
 have h0:=(bc w).new #[I M 0,I M 0] 33;have x0:=(ad w).alloc (.cells #[I M 0,I M 0] 33);have h1:=(bc w).new #[I M 1,I M (-1)] 33;have el:=h0.lt;obtain⟨c0,c1⟩:=h0.cells2;obtain⟨f0,f1⟩:=h0.frees2;by_cases q1:cores<1
 ·go_enter func70,ntmps70
  go_wp2_with fail
  refine ay (fun wz=>U wz (aa w.heap.size #[I M 1,I M (-1)] 33*(cr w w.heap.size))∧ax w wz) ⟨by first|(with_reducible exact h1)|(with_reducible exact h0.set2 (I M 1) (I M (-1))),aj⟩ ?_;rintro wz ⟨hz,xz⟩;exact W (db results70 rfl rfl (cI hz)) rfl ⟨rfl,aA hz.right xz⟩
 by_cases q2:4<cores
 ·go_enter func70,ntmps70
  go_wp2_with fail
  refine ay (fun wz=>U wz (aa w.heap.size #[I M 1,I M (-1)] 33*(cr w w.heap.size))∧ax w wz) ⟨by first|(with_reducible exact h1)|(with_reducible exact h0.set2 (I M 1) (I M (-1))),aj⟩ ?_;rintro wz ⟨hz,xz⟩;exact W (db results70 rfl rfl (cI hz)) rfl ⟨rfl,aA hz.right xz⟩
 by_cases q3:n<1
 ·go_enter func70,ntmps70
  go_wp2_with fail
  refine ay (fun wz=>U wz (aa w.heap.size #[I M 1,I M (-1)] 33*(cr w w.heap.size))∧ax w wz) ⟨by first|(with_reducible exact h1)|(with_reducible exact h0.set2 (I M 1) (I M (-1))),aj⟩ ?_;rintro wz ⟨hz,xz⟩;exact W (db results70 rfl rfl (cI hz)) rfl ⟨rfl,aA hz.right xz⟩
 ·have q4:128<n:=by omega
  go_enter func70,ntmps70;go_wp2_with fail
  refine(zn n _ (by omega)).mono ?_;rintro e w2 ⟨rfl,b2⟩;have h2:=h0.below b2;have x2:=x0.below b2;clear h0 x0 h1 c0 c1 f0 f1 el b2;have x3:=x2.alloc (.cells #[I M 1,I M (-1)] 33);have h3:U _ (aa w.heap.size #[I M 0,I M 0] 33*(aa w2.heap.size #[I M 1,I M (-1)] 33*cr w w.heap.size)):=(h2.new #[I M 1,I M (-1)] 33).eq (by ac_rfl);obtain⟨c0,c1⟩:=h3.cells2;obtain⟨f0,f1⟩:=h3.frees2;have el:=h3.lt;obtain⟨d0,d1⟩:=h3.right.cells2;have dl:=h3.right.lt;clear h2;go_upto_region 4 with fail;go_wp2_with fail
  go_region
  all_goals
   go_wp2_with fail
   refine ay (fun wz=>U wz (aa w.heap.size #[I M 1,I M (-1)] 33*(aa w2.heap.size #[I M 1,I M (-1)] 33*cr w w.heap.size))∧ax w wz) ⟨by first|(with_reducible exact h3)|(with_reducible exact(h3.set2 (I M 1) (I M (-1))).drew),aj⟩ ?_;rintro wz ⟨hz,xz⟩;exact W (db results70 rfl rfl (cI hz)) rfl ⟨rfl,aA hz.right.right xz⟩
set_option maxHeartbeats 4000000 in
theorem AL(cores n:Nat)(hc:1≤cores)(h4:cores≤4)(hn:1≤n)(hn2:n≤128)(R:ab)(w:V)(h:U w R):
  ak prog 70 #[I M cores,I M n] w fun e w'=>∃p,cF (.tuple #[.pointer (F (N p 0 z)),.agg #[I M 0,I M 0]]) (ah p (Sc.new cores n)*R) w e w':=by
 have h0:=h.new #[I M 0,I M 0] 33;have x0:=(ad w).alloc (.cells #[I M 0,I M 0] 33);have hn1:¬(n:Int)<1:=by omega
 have hc1:¬(cores:Int)<1:=by omega
 have hc4:¬(4:Int)<cores:=by omega
 have ht0:(Ms.new n).topV =0:=by
  have ht:(Ms.new n).top =F 0:=by
   show(if 0<n then F 0 else z)=F 0;rw[if_pos (by omega)]
  unfold Ms.topV;rw[ht];rfl
 have HTK:=T (fun f R w h=>Ah f (Ms.new n) R w h);rw[ht0] at HTK;have HOK:=T (Ms.Ok.new hn2);clear h ht0;go_enter func70,ntmps70;go_wp2_with fail
 refine(AQ _ _ n h0 (by omega) (by omega)).mono ?_;rintro e w2 ⟨f,rfl,h2,x2⟩;have h3:=(fo h2 HOK.out (Agree.refl _)).new #[I M 0,I M 0] 33;have h3':U _ (cO f (Ms.new n)*(aa w2.heap.size #[I M 0,I M 0] 33*(aa w.heap.size #[I M 0,I M 0] 33*R))):=h3.eq (by ac_rfl);have x3:=(x0.trans x2).alloc (.cells #[I M 0,I M 0] 33);have c3:=h3.cell 0;clear h2 x2 x0 h0 h3;go_wp2_with fail
 refine(HTK.out f _ _ h3').mono ?_;rintro e w4 ⟨rfl,h4,x4⟩;have x5:=x3.trans x4;clear c3 h3' x3 x4 HTK HOK;go_wp2_with fail
 refine(sU _ _ h4).mono ?_;rintro e w5 ⟨sh,rfl,h6,x6⟩;have h7:U _ (bT (.slice z 0 0) []*(aa w5.heap.size #[.pointer (F (N f 0 z)),I M 0,.slice z 0 0,.pointer (F (N sh 0 z)),vB O,.slice z 0 0] 193*(aL [] (List.replicate 0 Cr.zero)*(aD sh Mp.zero (fun _=>O)*(cO f (Ms.new n).takeS *(aa w2.heap.size #[I M 0,I M 0] 33*(aa w.heap.size #[I M 0,I M 0] 33*R))))))):=
  Has.rowNil ((bZ.2 ⟨trivial,h6.new #[.pointer (F (N f 0 z)),I M 0,.slice z 0 0,.pointer (F (N sh 0 z)),vB O,.slice z 0 0] 193⟩).eq (show _=aa w5.heap.size #[.pointer (F (N f 0 z)),I M 0,.slice z 0 0,.pointer (F (N sh 0 z)),vB O,.slice z 0 0] 193*(eZ True*(aD sh Mp.zero (fun _=>O)*(cO f (Ms.new n).takeS *(aa w2.heap.size #[I M 0,I M 0] 33*(aa w.heap.size #[I M 0,I M 0] 33*R))))) by ac_rfl))
 have x7:=(x5.trans x6).alloc (.cells #[.pointer (F (N f 0 z)),I M 0,.slice z 0 0,.pointer (F (N sh 0 z)),vB O,.slice z 0 0] 193);clear h4 x5 h6 x6;go_wp2_with fail
 generalize w5.alloc _=w6 at*
 generalize w5.heap.size=b at*
 generalize w.heap.size=X at*
 go_loopw [36] (fun t wz=>∃(j:Nat) (A:Option Addr) (c:Nat) (ps:List Nat),j≤cores∧t=I M j∧ps.length=j∧
   U wz (bT (.slice A j c) ps*(aa b #[.pointer (F (N f 0 z)),I M 0,.slice A j c,.pointer (F (N sh 0 z)),vB O,.slice z 0 0] 193*(aL ps (List.replicate j Cr.zero)*(aD sh Mp.zero (fun _=>O)*(cO f (Ms.new n).takeS *(aa w2.heap.size #[I M 0,I M 0] 33*(aa X #[I M 0,I M 0] 33*R)))))))∧ax w wz)
  (fun t _=>cores - (intOf t).toNat)
 case atStart=>exact⟨0,z,0,[],by omega,rfl,rfl,h7,x7⟩
 case round=>
  obtain⟨j,A,c,ps,hj,rfl,hps,hz,hx⟩:=hrel;generalize hZ:(aD sh Mp.zero (fun _=>O)*(cO f (Ms.new n).takeS *(aa w2.heap.size #[I M 0,I M 0] 33*(aa X #[I M 0,I M 0] 33*R))))=Z at*
  clear h7 x7;subst hps;by_cases hjn:ps.length<cores
  ·have g1:=hz.right.cell 1
   have g2:=hz.right.cell 2;have gl:=hz.right.lt;have hzd:=hz.drew;have HC:=T (fun R w h=>A9 0 R w h);go_wp2_with fail
   go_region_law (first
    |(go_simp;go_at_call 113;refine(HC.out _ _ hzd).mono ?_;rintro e w8 ⟨q,rfl,h8,x8⟩;have k1:=h8.right.right.cell 1;have k2:=h8.right.right.cell 2;have kl:=h8.right.right.lt;have k3:=(h8.eq (show _=bT (.slice A ps.length c) ps*(aa b #[.pointer (F (N f 0 z)),I M 0,.slice A ps.length c,.pointer (F (N sh 0 z)),vB O,.slice z 0 0] 193*(cg q [] 0 Ck.zero*(aL ps (List.replicate ps.length Cr.zero)*Z))) by ac_rfl)).build #[.pointer (F (N q 0 z))] 194)
    |(refine bU rfl (.tmp 42) (.tmp 48) 191 rfl underlying191 yB (.slice A ps.length c) ps.length (ps.map jK) (by simp[Act.eval]) k3 (N w8.heap.size 0 z) 1 1 [.pointer (F (N q 0 z))] (by simp[Act.eval]) rfl (eR (k3.right.right.cell 0)) (wM q) (by unfold maxLen;omega) (by omega) ?_;intro A' c' w9 h9 x9;have y2:=h9.right.cell 2;have yf:=h9.right.free 2;have yl:=h9.right.lt))
   all_goals
    have h10:U (w9.setCell (N b 2 z) (.slice A' (ps.length+1) c')) (bT (.slice A' (ps.length+1) c') (ps++[q])*(aa b #[.pointer (F (N f 0 z)),I M 0,.slice A' (ps.length+1) c',.pointer (F (N sh 0 z)),vB O,.slice z 0 0] 193*(aL (ps++[q]) (List.replicate (ps.length+1) Cr.zero)*Z))):=by
     have h11:=(h9.right.set 2 (.slice A' (ps.length+1) c'));have h12:=(h9.p2.set 2 (.slice A' (ps.length+1) c'));have h13:U _ (aa w8.heap.size #[.pointer (F (N q 0 z))] 194*(bt 194 1 (.slice A' (ps.length+1) c') (ps.length+1) (ps.map jK++[.pointer (F (N q 0 z))])*(aa b #[.pointer (F (N f 0 z)),I M 0,.slice A' (ps.length+1) c',.pointer (F (N sh 0 z)),vB O,.slice z 0 0] 193*(cg q [] 0 Ck.zero*(aL ps (List.replicate ps.length Cr.zero)*Z))))):=h12.eq (by show aa b #[.pointer (F (N f 0 z)),I M 0,.slice A' (ps.length+1) c',.pointer (F (N sh 0 z)),vB O,.slice z 0 0] 193*_=_;ac_rfl);have h14:=h13.right;rw[List.replicate_succ',lO ps _ q Cr.zero (by simp)];unfold bT;rw[List.length_append,List.map_append];exact h14.eq (by ac_rfl)
    have x10:=(((hx.drew.trans x8).alloc (.cells #[.pointer (F (N q 0 z))] 194)).trans x9).set (N b 2 z) (.slice A' (ps.length+1) c');clear h9 h8 k3 hzd hz k1 k2 kl g1 g2 gl y2 yf yl hx x8 x9;go_wp2_with fail
    go_roundw
    case rel=>exact⟨ps.length+1,A',c',ps++[q],by omega,by go_num,by simp,h10,x10⟩
    case measure=>simp[intOf];omega
  ·have hjc:ps.length=cores:=by omega
   have h11:U _ (aa X #[I M 0,I M 0] 33*(aa b #[.pointer (F (N f 0 z)),I M 0,.slice A ps.length c,.pointer (F (N sh 0 z)),vB O,.slice z 0 0] 193*(aa w2.heap.size #[I M 0,I M 0] 33*(bT (.slice A ps.length c) ps*(aL ps (List.replicate ps.length Cr.zero)*(aD sh Mp.zero (fun _=>O)*(cO f (Ms.new n).takeS *R))))))):=hz.eq (by rw[←hZ];ac_rfl);have HE:=T (fun(wz:V) (h:U wz (aa X #[I M 0,I M 0] 33*(aa b #[.pointer (F (N f 0 z)),I M 0,.slice A ps.length c,.pointer (F (N sh 0 z)),vB O,.slice z 0 0] 193*(aa w2.heap.size #[I M 0,I M 0] 33*(bT (.slice A ps.length c) ps*(aL ps (List.replicate ps.length Cr.zero)*(aD sh Mp.zero (fun _=>O)*(cO f (Ms.new n).takeS *R))))))))=>show U wz (ah b (Sc.new cores n)*R) from by
    have k1:U wz (aa w2.heap.size #[I M 0,I M 0] 33*(aa b #[.pointer (F (N f 0 z)),I M 0,.slice A ps.length c,.pointer (F (N sh 0 z)),vB O,.slice z 0 0] 193*(bT (.slice A ps.length c) ps*(aD sh Mp.zero (fun _=>O)*(aL ps (List.replicate ps.length Cr.zero)*(cO f (Ms.new n).takeS *R)))))):=h.right.eq (by ac_rfl);have k2:=(Has.rowNil (e:=3) (size:=1) k1.right).eq (show _=aa b #[.pointer (F (N f 0 z)),I M 0,.slice A ps.length c,.pointer (F (N sh 0 z)),vB O,.slice z 0 0] 193*(bT (.slice A ps.length c) ps*(aq (.slice z 0 0) []*(aD sh Mp.zero (fun _=>O)*(aL ps (List.replicate ps.length Cr.zero)*(cO f (Ms.new n).takeS *R))))) by show bt 3 1 (.slice z 0 0) 0 []*_=_;unfold aq;ac_rfl);rw[hjc] at k2;exact cY (y:=⟨f,sh,A,c,ps,z,0⟩) (by simpa [Sc.new] using hjc) (by unfold bq Sc.new;rw[←hjc] at k2⊢;exact k2))
   clear hjc hZ hz;obtain⟨d0,d1⟩:=h11.cells2;obtain⟨f0,f1⟩:=h11.frees2;have dl:=h11.lt;go_wp2_with fail
   refine ay (fun wz=>U wz (aa X #[I M 0,I M 0] 33*(aa b #[.pointer (F (N f 0 z)),I M 0,.slice A ps.length c,.pointer (F (N sh 0 z)),vB O,.slice z 0 0] 193*(aa w2.heap.size #[I M 0,I M 0] 33*(bT (.slice A ps.length c) ps*(aL ps (List.replicate ps.length Cr.zero)*(aD sh Mp.zero (fun _=>O)*(cO f (Ms.new n).takeS *R)))))))∧ax w wz) ⟨by first|(with_reducible exact h11)|(with_reducible exact h11.set2 (I M 0) (I M 0)),aj⟩ ?_;rintro wz ⟨hz,xz⟩;exact W (db results70 rfl rfl (cI hz)) rfl ⟨b,rfl,HE.out _ hz,xz⟩
theorem wO:(prog.info? 3).map (fun i=>(i.zero,i.size,i.bytes))=F (F (I M 0),1,8):=by kernel_rfl
theorem sK(n:Nat)(hn:n≤128)(w:V):(Instr.makeSlice 55 (.int .i64 (n:Int)) (.int .i64 (n:Int))).run prog w= .ok (.slice (F (N w.heap.size 0 z)) n n) (w.alloc (.cells (dd n (fun _=>I M 0)) 3)):=by
 rw[kv (P:=prog) 55 3 (I M 0) 1 8 underlying55 wO rfl n (by omega) (by omega) w,Nat.mul_one,mK (f:=fun j=>(I M 0).cells[j % 1]!) (g:=fun _=>I M 0) (fun j _=>by
  show(I M 0).cells[j % 1]! =I M 0;rw[Nat.mod_one];rfl)]
theorem sM{w:V}{R:ab}{g n:Nat}(hn:n≤128)(h:U w (aa g (dd n (fun _=>I M 0)) 3*R)):U w (aq (.slice (F (N g 0 z)) n n) (List.replicate n 0)*R):=by
 unfold aq;rw[List.length_replicate];refine Has.rowOf (size:=1) h (by simp) (Nat.le_refl n) (by unfold maxLen;omega) (by rw[nU];omega) ?_;rw[Nat.mul_one];refine List.ext_getElem? fun j=> ?_;rw[List.getElem?_take];split
 ·rename_i hj
  have:=ku (f:=fun _=>I M 0) hj;rw[Array.getElem?_toList,this];simp[hj]
 ·rename_i hj
  simp[hj]
theorem sN(cores n:Int)(hc:cores<1∨4<cores∨n<1∨128<n)(w:V):
  ak prog 45 #[I M cores,I M n] w (a3 (.tuple #[.pointer z,.agg #[I M 1,I M (-1)]]) w):=by
 have h0:=(bc w).new #[I M 0,I M 0] 33;have x0:=(ad w).alloc (.cells #[I M 0,I M 0] 33);have HN:=T (fun w=>wN cores n hc w);go_enter func45,ntmps45;go_wp2_with fail
 refine(HN.out _).mono ?_;rintro e w2 ⟨rfl,b2⟩;have h2:U _ (aa w.heap.size #[I M 0,I M 0] 33*(aa w2.heap.size #[I M 1,I M (-1)] 33*cr w w.heap.size)):=((h0.below b2).new #[I M 1,I M (-1)] 33).eq (by ac_rfl);have x2:=(x0.below b2).alloc (.cells #[I M 1,I M (-1)] 33);clear h0 x0 b2 HN;go_upto_region 2 with fail;generalize w2.alloc _=w3 at*
 generalize w2.heap.size=Y at*
 obtain⟨c0,c1⟩:=h2.cells2;obtain⟨f0,f1⟩:=h2.frees2;have cl:=h2.lt;obtain⟨d0,d1⟩:=h2.right.cells2;have dl:=h2.right.lt;have h3:=h2.set2 (I M 1) (I M (-1));go_upto_region 3 with fail;go_region
 all_goals
  go_wp2_with fail
  refine ay (fun wz=>U wz (aa w.heap.size #[I M 1,I M (-1)] 33*(aa Y #[I M 1,I M (-1)] 33*cr w w.heap.size))∧ax w wz) ⟨by first|(with_reducible exact h3.drew)|(with_reducible exact h3),aj⟩ ?_;rintro wz ⟨hz,xz⟩;exact W (db results45 rfl rfl (cI hz)) rfl ⟨rfl,aA hz.right.right xz⟩
theorem pF{w:V}{X:Nat}{va:Array ap}{ta:TypeId}{R:ab}(b g h bk:Nat){sp K:Nat}(hK:K≤4)(hh:U w (aa X va ta*(aa b #[.pointer (F (N sp 0 z)),.slice (F (N h 0 z)) 1 1,I M 0,.slice (F (N g 0 z)) K K,I M 0,I M 0,I M 0] 143*(aa g (dd K (fun _=>I M 0)) 3*(aa h #[.pointer (F (N bk 0 z))] 139*(aX bk []*R)))))):
  U w (aa X va ta*(aE b sp [[]] 0 (List.replicate K 0)*R)):=by
 have h1:U w (aa g (dd K (fun _=>I M 0)) 3*(aa X va ta*(aa b #[.pointer (F (N sp 0 z)),.slice (F (N h 0 z)) 1 1,I M 0,.slice (F (N g 0 z)) K K,I M 0,I M 0,I M 0] 143*(aa h #[.pointer (F (N bk 0 z))] 139*(aX bk []*R))))):=hh.eq (by ac_rfl);have h2:=sM (by omega) h1;have h3:U w (aa h #[.pointer (F (N bk 0 z))] 139*(aq (.slice (F (N g 0 z)) K K) (List.replicate K 0)*(aa X va ta*(aa b #[.pointer (F (N sp 0 z)),.slice (F (N h 0 z)) 1 1,I M 0,.slice (F (N g 0 z)) K K,I M 0,I M 0,I M 0] 143*(aX bk []*R))))):=h2.eq (by ac_rfl);have h4:U w (cV (.slice (F (N h 0 z)) 1 1) [bk]*(aq (.slice (F (N g 0 z)) K K) (List.replicate K 0)*(aa X va ta*(aa b #[.pointer (F (N sp 0 z)),.slice (F (N h 0 z)) 1 1,I M 0,.slice (F (N g 0 z)) K K,I M 0,I M 0,I M 0] 143*(aX bk []*R))))):=
  Has.rowOf (e:=139) (size:=1) h3 (by simp) (Nat.le_refl 1) (by unfold maxLen;omega) rfl rfl
 have h5:=dW (b:=b) (sp:=sp) (H:=[[]]) (f:=0) (since:=List.replicate K 0) (y:=⟨F (N h 0 z),1,[bk],F (N g 0 z),K,0⟩) (R:=aa X va ta*R) rfl (by
  unfold cB;dsimp only;rw[List.length_replicate];show U w (aa b _ _*(cV _ [bk]*(aq _ _*((aX bk []*eZ True)*(aa X va ta*R)))));rw[show aX bk []*eZ True=aX bk [] from by rw[cy];exact iA _];exact h4.eq (by ac_rfl))
 exact h5.p2
set_option maxHeartbeats 4000000 in
theorem yP(K n:Nat)(h1:1≤K)(h4:K≤4)(hn:1≤n)(hn2:n≤128)(R:ab)(w:V)(h:U w R):
  ak prog 45 #[I M K,I M n] w fun e w'=>∃b sp,cF (.tuple #[.pointer (F (N b 0 z)),.agg #[I M 0,I M 0]]) (aE b sp [[]] 0 (List.replicate K 0)*(ah sp (Sc.new K n)*R)) w e w':=by
 have h0:=h.new #[I M 0,I M 0] 33;have x0:=(ad w).alloc (.cells #[I M 0,I M 0] 33);have HN:=T (fun R w h=>AL K n (by omega) (by omega) (by omega) (by omega) R w h);have HBN:=T (fun R w h=>AG R w h);have hmk:=fun w=>sK K (by omega) w;clear h;go_enter func45,ntmps45;go_wp2_with fail
 refine(HN.out _ _ h0).mono ?_;rintro e w2 ⟨sp,rfl,h2,x2⟩;have h3:U _ (aa w.heap.size #[I M 0,I M 0] 33*(ah sp (Sc.new K n)*(aa w2.heap.size #[I M 0,I M 0] 33*R))):=(h2.new #[I M 0,I M 0] 33).eq (by ac_rfl);have x3:=(x0.trans x2).alloc (.cells #[I M 0,I M 0] 33);clear h0 x0 h2 x2 HN;go_upto_region 2 with fail;generalize w2.alloc _=w3 at*
 generalize w.heap.size=X at*
 generalize w2.heap.size=Y at*
 obtain⟨c0,c1⟩:=h3.cells2;obtain⟨f0,f1⟩:=h3.frees2;have cl:=h3.lt;obtain⟨d0,d1⟩:=h3.right.right.cells2;have dl:=h3.right.right.lt;go_upto_region 4 with fail;go_cut [4] from 18 to 25 (fun s4 wx=>∃b,s4= .pointer (F (N b 0 z))∧U wx (aa X #[I M 0,I M 0] 33*(aE b sp [[]] 0 (List.replicate K 0)*(ah sp (Sc.new K n)*(aa Y #[I M 0,I M 0] 33*R))))∧ax w wx)
 case first=>
  have hd:=h3.drew;have xd:=x3.drew;have hm:=(h3.new (dd K (fun _=>I M 0)) 3).drew;have xm:=(x3.alloc (.cells (dd K (fun _=>I M 0)) 3)).drew;go_region_law (go_simp;go_at_call 71;first
   |((with_reducible refine(HBN.out _ _ hd).mono ?_);rintro e w8 ⟨bk,rfl,h8,x8⟩;have h9:U w8 (aa X #[I M 0,I M 0] 33*(aX bk []*(ah sp (Sc.new K n)*(aa Y #[I M 0,I M 0] 33*R)))):=h8.p2;have z1:=(((h9.set2 (I M 0) (I M 0)).new #[.pointer (F (N bk 0 z))] 139).new (dd K (fun _=>I M 0)) 3).new #[.pointer (F (N sp 0 z)),.slice (F (N w8.heap.size 0 z)) 1 1,I M 0,.slice (F ⟨(w8.heap.size+1),0,z⟩) K K,I M 0,I M 0,I M 0] 143;have z2:=h8.right;obtain⟨y0,y1⟩:=z2.cells2;obtain⟨g0,g1⟩:=z2.frees2;have yl:=z2.lt;have yl1:X<w8.heap.size+1:=(by omega);have yl2:X<w8.heap.size+1+1:=(by omega);have hz:U _ (aa X #[I M 0,I M 0] 33*(aa (w8.heap.size+1+1) #[.pointer (F (N sp 0 z)),.slice (F (N w8.heap.size 0 z)) 1 1,I M 0,.slice (F ⟨(w8.heap.size+1),0,z⟩) K K,I M 0,I M 0,I M 0] 143*(aa (w8.heap.size+1) (dd K (fun _=>I M 0)) 3*(aa w8.heap.size #[.pointer (F (N bk 0 z))] 139*(aX bk []*(ah sp (Sc.new K n)*(aa Y #[I M 0,I M 0] 33*R))))))):=z1.eq (by simp only[ag,World.size_setCell];ac_rfl);have z3:=(((h9.set2 (I M 0) (I M 0)).new (dd K (fun _=>I M 0)) 3).new #[.pointer (F (N bk 0 z))] 139).new #[.pointer (F (N sp 0 z)),.slice (F ⟨(w8.heap.size+1),0,z⟩) 1 1,I M 0,.slice (F (N w8.heap.size 0 z)) K K,I M 0,I M 0,I M 0] 143;have hy:U _ (aa X #[I M 0,I M 0] 33*(aa (w8.heap.size+1+1) #[.pointer (F (N sp 0 z)),.slice (F ⟨(w8.heap.size+1),0,z⟩) 1 1,I M 0,.slice (F (N w8.heap.size 0 z)) K K,I M 0,I M 0,I M 0] 143*(aa w8.heap.size (dd K (fun _=>I M 0)) 3*(aa (w8.heap.size+1) #[.pointer (F (N bk 0 z))] 139*(aX bk []*(ah sp (Sc.new K n)*(aa Y #[I M 0,I M 0] 33*R))))))):=z3.eq (by simp only[ag,World.size_setCell];ac_rfl);have xy:=(((((xd.trans x8).set (N X 0 z) (I M 0)).set (N X 1 z) (I M 0)).alloc (.cells (dd K (fun _=>I M 0)) 3)).alloc (.cells #[.pointer (F (N bk 0 z))] 139)).alloc (.cells #[.pointer (F (N sp 0 z)),.slice (F ⟨(w8.heap.size+1),0,z⟩) 1 1,I M 0,.slice (F (N w8.heap.size 0 z)) K K,I M 0,I M 0,I M 0] 143);have xz:=(((((xd.trans x8).set (N X 0 z) (I M 0)).set (N X 1 z) (I M 0)).alloc (.cells #[.pointer (F (N bk 0 z))] 139)).alloc (.cells (dd K (fun _=>I M 0)) 3)).alloc (.cells #[.pointer (F (N sp 0 z)),.slice (F (N w8.heap.size 0 z)) 1 1,I M 0,.slice (F ⟨(w8.heap.size+1),0,z⟩) K K,I M 0,I M 0,I M 0] 143))
   |((with_reducible refine(HBN.out _ _ hm).mono ?_);rintro e w8 ⟨bk,rfl,h8,x8⟩;have h9:U w8 (aa X #[I M 0,I M 0] 33*(aa w3.heap.size (dd K (fun _=>I M 0)) 3*(aX bk []*(ah sp (Sc.new K n)*(aa Y #[I M 0,I M 0] 33*R))))):=h8.eq (by ac_rfl);have z1:=(((h9.set2 (I M 0) (I M 0)).new #[.pointer (F (N bk 0 z))] 139).new #[.pointer (F (N sp 0 z)),.slice (F (N w8.heap.size 0 z)) 1 1,I M 0,.slice (F (N w3.heap.size 0 z)) K K,I M 0,I M 0,I M 0] 143);have z2:=h8.right.right;obtain⟨y0,y1⟩:=z2.cells2;obtain⟨g0,g1⟩:=z2.frees2;have yl:=z2.lt;have yl1:X<w8.heap.size+1:=(by omega);have yl2:X<w8.heap.size+1+1:=(by omega);have hz:U _ (aa X #[I M 0,I M 0] 33*(aa (w8.heap.size+1) #[.pointer (F (N sp 0 z)),.slice (F (N w8.heap.size 0 z)) 1 1,I M 0,.slice (F (N w3.heap.size 0 z)) K K,I M 0,I M 0,I M 0] 143*(aa w3.heap.size (dd K (fun _=>I M 0)) 3*(aa w8.heap.size #[.pointer (F (N bk 0 z))] 139*(aX bk []*(ah sp (Sc.new K n)*(aa Y #[I M 0,I M 0] 33*R))))))):=z1.eq (by simp only[ag,World.size_setCell];ac_rfl);have xz:=((((xm.trans x8).set (N X 0 z) (I M 0)).set (N X 1 z) (I M 0)).alloc (.cells #[.pointer (F (N bk 0 z))] 139)).alloc (.cells #[.pointer (F (N sp 0 z)),.slice (F (N w8.heap.size 0 z)) 1 1,I M 0,.slice (F (N w3.heap.size 0 z)) K K,I M 0,I M 0,I M 0] 143)))
  all_goals
   go_wp2_with fail
   go_meet
   case rel=>first|exact⟨_,rfl,pF _ _ _ _ (by omega) hz,xz⟩|exact⟨_,rfl,pF _ _ _ _ (by omega) hy,xy⟩
 case rest=>
  obtain⟨b,rfl,h5,x5⟩:=hcut;clear h3 x3 c0 c1 f0 f1 cl d0 d1 dl HBN hmk;go_wp2_with fail
  refine ay (fun wz=>U wz (aa X #[I M 0,I M 0] 33*(aE b sp [[]] 0 (List.replicate K 0)*(ah sp (Sc.new K n)*(aa Y #[I M 0,I M 0] 33*R))))∧ax w wz) ⟨h5,aj⟩ ?_;rintro wz ⟨hz,xz⟩;exact W (db results45 rfl rfl (cI hz)) rfl ⟨b,sp,rfl,(hz.right.eq (show _=aa Y #[I M 0,I M 0] 33*(aE b sp [[]] 0 (List.replicate K 0)*(ah sp (Sc.new K n)*R)) by ac_rfl)).right,xz⟩
theorem zU(b:Nat)(σ:Sc)(hok:σ.Ok)(k:Int)(R:ab)(w:V)(h:U w (ah b σ*R)):
  ak prog 76 #[.pointer (F (N b 0 z)),I M k] w fun e w'=>∃A c,e= .returned (.slice A (σ.kept k).length c)∧U w' (dM (.slice A (σ.kept k).length c) (σ.kept k)*(ah b σ*R))∧ax w w':=by
 have hw:=h;obtain⟨y,hy,h⟩:=cj h;unfold bq at h;obtain⟨c0,c1,c2,c3,c4,c5⟩:=h.cells6;have cl:=h.lt;by_cases hk:0≤k∧k<σ.cs.length
 case neg=>
  have hke:σ.kept k=[]:=by unfold Sc.kept;rw[if_neg hk]
  rw[hke];have hn:U w (dM (.slice z 0 0) []*(ah b σ*R)):=Has.rowNil (e:=150) (size:=5) hw;rw[←hy] at hk;clear hke hy h hw;by_cases hk0:k<0
  ·clear hk
   go_enter func76,ntmps76;go_wp2_with fail
   go_ret;exact⟨z,0,rfl,hn,ad _⟩
  ·have hkl:(y.ps.length:Int)≤k:=by omega
   clear hk;go_enter func76,ntmps76;go_wp2_with fail
   go_ret;exact⟨z,0,rfl,hn,ad _⟩
 case pos=>
  have hke:σ.kept k=(σ.core k.toNat).l :=by unfold Sc.kept;rw[if_pos hk]
  obtain⟨hk0,hkl⟩:=hk;obtain⟨k,rfl⟩:=Int.eq_ofNat_of_zero_le hk0;have hkn:k<σ.cs.length:=by omega
  have hkp:k<y.ps.length:=by omega
  obtain⟨Q,eQ,_⟩:=jc (af hkp) (Safe.at_core hkn);rw[eQ] at h;obtain⟨bA,hA,lA,cA⟩:=gW h.right (af hkp);have hcr:=h.right.r3.a1;have hlen:=(Sc.core_ok hok k).1.len;have hkl':(k:Int)<y.ps.length:=by omega
  have hk0':¬(k:Int)<0:=by omega
  have hkk:¬(y.ps.length:Int)≤k:=by omega
  rw[hke,show((k:Int)).toNat =k from rfl];obtain⟨t,v,g⟩:=eW hcr;obtain⟨t0,t1⟩:=g.cells2;have tl:=g.lt;have HL:=T (Ar t (σ.core k).l _ w (by omega) g.right);have HW:=T hw;generalize y.ps[k]=p at*
  generalize (σ.core k).l =l at*
  rw[hA] at c2;clear hke h eQ hcr hy hkl hkn hw g;go_enter func76,ntmps76;go_wp2_with fail
  refine HL.out.mono ?_;rintro e w2 ⟨A,n,c,rfl,h2,x2⟩;obtain rfl:=dN h2;have h3:=HW.out.onto' h2;go_wp2_with fail
  go_ret;exact⟨A,c,rfl,h3,x2⟩
section
variable {w:V} {A B C D E:ab}
theorem Has.rot3(h:U w (A*(B*(C*D)))):U w (B*(C*(A*D))):=h.eq (by ac_rfl)
theorem Has.up2(h:U w (A*(B*(C*D)))):U w (C*(A*(B*D))):=h.eq (by ac_rfl)
theorem Has.up3(h:U w (A*(B*(C*(D*E))))):U w (D*(A*(B*(C*E)))):=h.eq (by ac_rfl)
end
section
variable {w:V} {R:ab}
theorem oE{b n:Nat}{vs:Array ap}{t:TypeId}(h:U w (aa b vs t*R))(hn:vs.size=n):w.there b 0 n:=by
 intro j hj;have c:=h.cell j;have f:=h.free j;rw[Nat.zero_add];refine⟨?_,f⟩;rw[c,Array.getElem?_eq_getElem (by omega)];rfl
theorem kF{a:V}{w:V}(h:ax a w)(b:Nat):∀(vs:List ap) (o:Nat),ax a (w.setCells b o vs)
 | [],_=>h
 |v::r,o=>kF (h.set (N b o z) v) b r (o+1)
theorem AM{a:V}{b:Nat}{v0 v1 v2 v3 v4 v5:ap}{t:TypeId}(h:U w (aa b #[v0,v1,v2,v3,v4,v5] t*R))(x:ax a w)(u0 u1 u2 u3 u4 u5:ap):U (w.setCells b 0 [u0,u1,u2,u3,u4,u5]) (aa b #[u0,u1,u2,u3,u4,u5] t*R)∧ax a (w.setCells b 0 [u0,u1,u2,u3,u4,u5]):=⟨h.set6 u0 u1 u2 u3 u4 u5,kF x b _ 0⟩
theorem AN{a:V}{b:Nat}{v0 v1:ap}{t:TypeId}(h:U w (aa b #[v0,v1] t*R))(x:ax a w)(u0 u1:ap):U (w.setCells b 0 [u0,u1]) (aa b #[u0,u1] t*R)∧ax a (w.setCells b 0 [u0,u1]):=⟨h.set2 u0 u1,kF x b _ 0⟩
end
end Go.Proofs.YtmfheghbgihdmaaGreatDoor
