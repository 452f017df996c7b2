/- Contract of the document's FindIn. -/
import Derived.Test.YtmfheghbgihdmaaGreatWkr3
import Derived.Test.YtmfheghbgihdmaaGreatSep
import Derived.Deep.RegionHeld3
import Derived.Deep.DeepCutAuto
import Derived.Test.YtmfheghbgihdmaaGreatEntry2
import Derived.Test.YtmfheghbgihdmaaGreatTblM4
import Derived.Lib.Hide
import Derived.WalkSpells
import Derived.Outline
import Derived.RangeFuncNested
import Derived.RangeFuncBound
import Derived.RangeFuncCalls
import Derived.RangeFuncLeaves
import Derived.Shelf.Abstract
import Derived.Shelf.RegionOpen
import Derived.WalkKit
import Derived.OwnWalkIn
import Derived.TacticsInMore
import Derived.LoopNIn
import Derived.LoopIn
import Derived.BigQuiet
import Derived.Lib.SliceRun
namespace Go.Proofs.YtmfheghbgihdmaaGreat
open Option renaming none→H,some→N
open Go.Value renaming int→I,bool→V
open Go.IntKind renaming i64→M,wrap_i64→a6
open Bool renaming false→O,true→af
open Go.Lib renaming hid→U
open Go.Addr renaming mk→Y
open Go renaming World→ag,Value→a0,bodyPost_ret→a5,Calls→bk,Addr→b4
open Go.Proofs.YtmfheghbgihdmaaGreat renaming Has→ax,lev→a7,way→bi,Ext→bz,Agree→b6
open List renaming getElem?_eq_some_iff→a4,getElem?_eq_getElem→bb
open Go.Proofs.YtmfheghbgihdmaaGreat.Ext renaming refl→bd
open Go.World renaming size_alloc→bs
open Go.Proofs.YtmfheghbgihdmaaGreat.Good renaming const→b3,till→b7,and→b8
open Go.RowKit renaming intOf→b9
open Tryz
open Go.RowKit
set_option maxRecDepth 100000
section
variable {P:Program} {fn:Func} {tmps:Array a0} {w:ag}
theorem fH{a b c:Nat}{t t':TypeId}{p p':b4}{v u x:a0}(hr:fn.results= #[.cell a t,.cell b t',.tmp c])(ha:tmps.getD a undef= .pointer (N p))(hb:tmps.getD b undef= .pointer (N p'))(hc:tmps.getD c undef=x)(hl:(loadVar t p).run P w= .ok v w)(hl':(loadVar t' p').run P w= .ok u w):
  (results fn tmps).run P w= .ok (.tuple #[v,u,x]) w:=by
 unfold results;rw[hr];simp only[Array.getD_eq_getD_getElem?] at ha hb hc;simp[asAddr,ha,hb,hc,hl,hl']
end
def zm(e:En):a0:= .agg #[V e.there,V e.leaf,I M e.rights,V e.used,V e.dirty,I M e.frame]
set_option maxHeartbeats 4000000 in
theorem mz(q:Nat)(s:Ms)(root p:Int)(R:ab)(w:ag)(hs:s.Ok)(h:ax w (az q s*R)):
  bk prog 33 #[.pointer (N (Y q 0 H)),I M root,I M p] w (Pure (.tuple #[(bK s root p).val,zm (i7 s root p),I M (bu s root p)]) w):=by
 have h0:=((aT w).new #[I M 0,I M 0,I M 0,I M 0] 39).new #[V O,V O,I M 0,V O,V O,I M 0] 70;have x0:=((bd w).alloc (.cells #[I M 0,I M 0,I M 0,I M 0] 39)).alloc (.cells #[V O,V O,I M 0,V O,V O,I M 0] 70);simp only[bs] at h0;have hq:=(h.alloc (.cells #[I M 0,I M 0,I M 0,I M 0] 39)).alloc (.cells #[V O,V O,I M 0,V O,V O,I M 0] 70);have W1:=U (j9 q s root p R _ hs hq);have hfc:bu s root p=if(bi s root p).code ≠0 then(bi s root p).code else if(bi s root p).e.there =O then 5 else 0:=rfl
 have hfm:bK s root p=if bu s root p=0 then aB (bi s root p).e (bi s root p).lev p else Mp.zero:=rfl
 have hfe:i7 s root p=if bu s root p=0 then(bi s root p).e else En.zero:=rfl
 generalize bu s root p=fc at*
 generalize bK s root p=fm at*
 generalize i7 s root p=fe at*
 generalize bi s root p=y at*
 have HFC:=U (And.intro hfc (And.intro hfm hfe));clear h hq hfc hfm hfe;go_enter func33,ntmps33;go_wp2_with fail
 refine W1.out.mono ?_;rintro e w1 hF;generalize ((w.alloc (.cells #[I M 0,I M 0,I M 0,I M 0] 39)).alloc (.cells #[V O,V O,I M 0,V O,V O,I M 0] 70))=w0 at*
 obtain⟨A,c,rfl,h1,x1⟩:∃(A:Option b4) (c:Nat),e= .returned (.tuple #[.agg #[.slice A y.tabs.length c,V y.e.there,V y.e.leaf,I M y.e.rights,V y.e.used,V y.e.dirty,I M y.e.frame,I M y.lev],I M y.code])∧ax w1 (ao (.slice A y.tabs.length c) y.tabs*bE w0 w0.heap.size)∧bz w0 w1:=hF;have h2:=(h0.onto' h1).right.new #[.slice A y.tabs.length c,V y.e.there,V y.e.leaf,I M y.e.rights,V y.e.used,V y.e.dirty,I M y.e.frame,I M y.lev] 146;have x2:=(x0.trans x1).alloc (.cells #[.slice A y.tabs.length c,V y.e.there,V y.e.leaf,I M y.e.rights,V y.e.used,V y.e.dirty,I M y.e.frame,I M y.lev] 146);clear h0 x0 h1 x1 W1;obtain⟨hfc,hfm,hfe⟩:=HFC.out;clear HFC;by_cases hc:y.code=0
 case neg=>
  rw[if_pos hc] at hfc;rw[if_neg (by rw[hfc];exact hc)] at hfm hfe;have HF:=U (show fc=y.code∧fm=Mp.zero∧fe=En.zero from⟨hfc,hfm,hfe⟩);have hn:(y.code==0)=O:=by simpa using hc
  have hn':(y.code !=0)=af:=by simpa using hc
  clear hc hfc hfm hfe;go_upto_region 2 with fail;generalize w1.alloc _=w3 at*
  generalize w1.heap.size=X2 at*
  obtain⟨d0,d1,d2,d3,d4,d5⟩:=h2.right.cells6;obtain⟨f0,f1,f2,f3,f4,f5⟩:=h2.right.frees6;have dl:=h2.right.lt;obtain⟨c0,c1,c2,c3⟩:=h2.right.right.cells4;obtain⟨g0,g1,g2,g3⟩:=h2.right.right.frees4;have cl:=h2.right.right.lt;have h4:=h2.right.p2;have n1:=h4.ne;have n2:=n1.symm;go_wp2_with fail
  refine am (fun wz=>ax wz (aa (w.heap.size+1) #[V O,V O,I M 0,V O,V O,I M 0] 70*(aa w.heap.size #[I M 0,I M 0,I M 0,I M 0] 39*bE w w.heap.size))∧bz w wz) ⟨((h4.set4 _ _ _ _).p2).set6 _ _ _ _ _ _,ah⟩ ?_;rintro wz ⟨hz,xz⟩;exact a5 (fH results33 rfl rfl rfl (bh hz.right) (bw hz)) rfl ⟨by rw[HF.out.1,HF.out.2.1,HF.out.2.2];rfl,ar hz.right.right xz⟩
 case pos=>
  rw[if_neg (by rw[hc];simp)] at hfc;obtain⟨code,tabs,a7,th,lf,rg,us,di,fr⟩:=y;dsimp only at*
  subst hc;cases th with
  |false=>
   rw[if_pos rfl] at hfc;rw[if_neg (by rw[hfc];decide)] at hfm hfe;have HF:=U (show fc=5∧fm=Mp.zero∧fe=En.zero from⟨hfc,hfm,hfe⟩);clear hfc hfm hfe;go_upto_region 2 with fail;generalize w1.alloc _=w3 at*
   generalize w1.heap.size=X2 at*
   obtain⟨k0,k1,_⟩:=h2.cells8;have kl:=h2.lt;obtain⟨d0,d1,d2,d3,d4,d5⟩:=h2.right.cells6;obtain⟨f0,f1,f2,f3,f4,f5⟩:=h2.right.frees6;have dl:=h2.right.lt;obtain⟨c0,c1,c2,c3⟩:=h2.right.right.cells4;obtain⟨g0,g1,g2,g3⟩:=h2.right.right.frees4;have cl:=h2.right.right.lt;have h4:=h2.right.p2;have n1:=h4.ne;have n2:=n1.symm;go_wp2_with fail
   refine am (fun wz=>ax wz (aa (w.heap.size+1) #[V O,V O,I M 0,V O,V O,I M 0] 70*(aa w.heap.size #[I M 0,I M 0,I M 0,I M 0] 39*bE w w.heap.size))∧bz w wz) ⟨((h4.set4 _ _ _ _).p2).set6 _ _ _ _ _ _,ah⟩ ?_;rintro wz ⟨hz,xz⟩;exact a5 (fH results33 rfl rfl rfl (bh hz.right) (bw hz)) rfl ⟨by rw[HF.out.1,HF.out.2.1,HF.out.2.2];rfl,ar hz.right.right xz⟩
  |true=>
   rw[if_neg (by simp)] at hfc;rw[if_pos hfc] at hfm hfe;have HF:=U (show fc=0∧fm=aB ⟨af,lf,rg,us,di,fr⟩ a7 p∧fe=⟨af,lf,rg,us,di,fr⟩ from⟨hfc,hfm,hfe⟩);have HL:Hid (∀X,bk prog 80 #[.agg #[V af,V lf,I M rg,V us,V di,I M fr],.int .i64 a7,.int .i64 p] X (Pure (aB ⟨af,lf,rg,us,di,fr⟩ a7 p).val X)):=U (fun X=>iA ⟨af,lf,rg,us,di,fr⟩ a7 p X);clear hfc hfm hfe;generalize aB ⟨af,lf,rg,us,di,fr⟩ a7 p=lm at*
   go_upto_region 6 with fail;generalize w1.alloc _=w3 at*
   generalize w1.heap.size=X2 at*
   have h3:ax w3 (aa (w.heap.size+1) #[V O,V O,I M 0,V O,V O,I M 0] 70*(aa X2 #[.slice A tabs.length c,V af,V lf,I M rg,V us,V di,I M fr,I M a7] 146*(aa w.heap.size #[I M 0,I M 0,I M 0,I M 0] 39*bE w w.heap.size))):=h2.p2;have h4:=h3.set6 (V af) (V lf) (I M rg) (V us) (V di) (I M fr);clear h2;have HK:=U (fun(w':ag) (P:ab) (h:ax w' (aa X2 #[.slice A tabs.length c,V af,V lf,I M rg,V us,V di,I M fr,I M a7] 146*P))=>h.cells8);obtain⟨k0,k1,k2,k3,k4,k5,k6,k7⟩:=h3.right.cells8;have kl:=h3.right.lt;obtain⟨d0,d1,d2,d3,d4,d5⟩:=h3.cells6;obtain⟨f0,f1,f2,f3,f4,f5⟩:=h3.frees6;have dl:=h3.lt;have n1:=h3.ne;have n2:=n1.symm;go_cut [8] (fun s8 wx=>s8=I M 0∧ax wx (aa (w.heap.size+1) #[V af,V lf,I M rg,V us,V di,I M fr] 70*(aa w.heap.size #[I M lm.page,I M lm.size,I M lm.frame,I M lm.rights] 39*bE w w.heap.size))∧bz w wx)
   case first=>
    go_region_held3 (fun w'=>w'.cell? (Y X2 0 H)=N (.slice A tabs.length c)∧w'.cell? (Y X2 1 H)=N (V af)∧w'.cell? (Y X2 2 H)=N (V lf)∧w'.cell? (Y X2 3 H)=N (I M rg)∧w'.cell? (Y X2 4 H)=N (V us)∧w'.cell? (Y X2 5 H)=N (V di)∧w'.cell? (Y X2 6 H)=N (I M fr)∧w'.cell? (Y X2 7 H)=N (I M a7)) (first|(with_reducible exact HK.out _ _ h5.right)|(with_reducible exact HK.out _ _ g5.right)|(with_reducible exact HK.out _ _ h4.drew.right)|(with_reducible exact HK.out _ _ h3.drew.right)|go_keep) (first|(go_at_call 80;((with_reducible refine(HL.out _).mono ?_);rintro e2 w5 ⟨rfl,b5⟩;first|(have h5:=h3.drew.below b5;have x5:=x2.drew.below b5;obtain⟨y0,y1,y2,y3,y4,y5⟩:=h5.cells6;obtain⟨z0,z1,z2,z3,z4,z5⟩:=h5.frees6;have yl:=h5.lt;obtain⟨c0,c1,c2,c3⟩:=h5.right.right.cells4;obtain⟨g0,g1,g2,g3⟩:=h5.right.right.frees4;have cl:=h5.right.right.lt;have nn:=h5.p2.right.ne;have nn':=nn.symm;have mm:=h5.right.ne;have mm':=mm.symm)|(have g5:=h4.drew.below b5;have y5:=(((((((x2.set _ _).set _ _).set _ _).set _ _).set _ _).set _ _).drew).below b5;obtain⟨c0,c1,c2,c3⟩:=g5.right.right.cells4;obtain⟨g0,g1,g2,g3⟩:=g5.right.right.frees4;have cl:=g5.right.right.lt;have mm:=g5.right.ne;have mm':=mm.symm))))
    all_goals
     go_wp2_with fail
     go_meet
     case rel=>
      have h6:ax w5 (aa w.heap.size #[I M 0,I M 0,I M 0,I M 0] 39*(aa (w.heap.size+1) #[V O,V O,I M 0,V O,V O,I M 0] 70*(aa X2 #[.slice A tabs.length c,V af,V lf,I M rg,V us,V di,I M fr,I M a7] 146*bE w w.heap.size))):=h5.eq (by ac_rfl);have h7:=h6.set4 (I M lm.page) (I M lm.size) (I M lm.frame) (I M lm.rights);have h8:=h7.p2.set6 (V af) (V lf) (I M rg) (V us) (V di) (I M fr);exact⟨rfl,h8.drop3,ah⟩
   case rest=>
    obtain⟨rfl,h9,x9⟩:=hcut;go_wp2_with fail
    refine am (fun wz=>ax wz (aa (w.heap.size+1) #[V af,V lf,I M rg,V us,V di,I M fr] 70*(aa w.heap.size #[I M lm.page,I M lm.size,I M lm.frame,I M lm.rights] 39*bE w w.heap.size))∧bz w wz) ⟨h9,x9⟩ ?_;rintro wz ⟨hz,xz⟩;exact a5 (fH results33 rfl rfl rfl (bh hz.right) (bw hz)) rfl ⟨by rw[HF.out.1,HF.out.2.1,HF.out.2.2];rfl,ar hz.right.right xz⟩
theorem zn(b f:Nat)(t i l:Int)(v:a0)(e:En)(s:Ms)(R:ab)(w:ag)(h:ax w (aa b #[.pointer (N (Y f 0 H)),v] 224*(ai f s*R))):
  bk prog 153 #[.pointer (N (Y b 0 H)),I M t,I M i,I M l,.agg #[V e.there,V e.leaf,I M e.rights,V e.used,V e.dirty,I M e.frame]] w (cR (.tuple #[]) (aa b #[.pointer (N (Y f 0 H)),v] 224*(ai f (fA s t i (bq e l))*R)) w):=by
 have h1:=h.new #[V e.there,V e.leaf,I M e.rights,V e.used,V e.dirty,I M e.frame] 70;have x1:=(bd w).alloc (.cells #[V e.there,V e.leaf,I M e.rights,V e.used,V e.dirty,I M e.frame] 70);have HE:=U (kq e l);have HS:=U (fun R w h=>ry f s t i (bq e l) R w h);generalize fA s t i (bq e l)=s' at*
 generalize s.hasW t i=ok at*
 generalize bq e l=wd at*
 generalize aj e l=ff at*
 clear h;obtain⟨c0,c1,c2,c3,c4,c5⟩:=h1.cells6;go_enter func153,ntmps153;go_wp2_with fail
 refine(HE.out _).mono ?_;rintro e2 w2 ⟨rfl,b2⟩;have h2:=h1.below b2;have x2:=x1.below b2;clear h1 x1 c0 c1 c2 c3 c4 c5;obtain⟨b0,b1⟩:=h2.right.cells2;have bl:=h2.right.lt;go_wp2_with fail
 refine(HS.out _ _ (h2.eq (show _=ai f s*(aa b #[.pointer (N (Y f 0 H)),v] 224*(aa w.heap.size #[V e.there,V e.leaf,I M e.rights,V e.used,V e.dirty,I M e.frame] 70*R)) by ac_rfl))).mono ?_;rintro e3 w3 ⟨rfl,h3,x3⟩;have h4:=h3.eq (show _=aa w.heap.size #[V e.there,V e.leaf,I M e.rights,V e.used,V e.dirty,I M e.frame] 70*(aa b #[.pointer (N (Y f 0 H)),v] 224*(ai f s'*R)) by ac_rfl);go_wp2_with fail
 exact a5 (v:= .tuple #[]) (by simp[results,results153]) rfl ⟨rfl,h4.right,x2.trans x3⟩
def iK(s:Ms)(t:Int):Bool:=(List.range 8).all fun(i:Nat)=>eh s t i==0
theorem sJ{s:Ms}{t:Int}(h:s.has t=af):iK s t=fx s t:=by
 unfold iK fx;have e:∀i∈List.range 8,(eh s t ((i:Nat):Int)==0)=(av s t ((i:Nat):Int)==0):=fun i hi=>by
  have hi:=List.mem_range.1 hi;have hw:s.hasW t ((i:Nat):Int)=af:=jb.2 ⟨h,by omega,by omega⟩;unfold eh av;rw[if_pos hw]
 rw[Bool.eq_iff_iff,List.all_eq_true,List.all_eq_true];constructor
 ·intro hh x hx
  rw[←e x hx];exact hh x hx
 ·intro hh x hx
  rw[e x hx];exact hh x hx
theorem yj(f:Nat)(t:Int)(s:Ms)(R:ab)(w:ag)(h:ax w (ai f s*R)):bk prog 155 #[.pointer (N (Y f 0 H)),I M t] w (Same (V (iK s t)) w):=by
 have HL:=U (fun(i:Int)=>rZ f s t i R w h);have hyy:∀i:Nat,i<8→iK s t=af→eh s t i=0:=fun i hi he=>by
  unfold iK at he;rw[List.all_eq_true] at he;simpa using he i (List.mem_range.2 hi)
 have hnn:∀i:Nat,i<8→eh s t i≠0→iK s t=O:=fun i hi hn=>by
  cases he:iK s t with
  |false=>rfl
  |true=>exact absurd (hyy i hi he) hn
 have hall:(∀i:Nat,i<8→eh s t i=0)→iK s t=af:=fun hh=>by
  unfold iK;rw[List.all_eq_true];intro x hx;simpa using hh x (List.mem_range.1 hx)
 have HNN:=U hnn;have HALL:=U hall;have HW:=U h;clear hyy hnn hall h;generalize iK s t=ev at*
 go_enter func155,ntmps155;go_wp2_with fail
 go_loopw [8] (fun t8 wr=>∃i:Nat,i≤8∧t8=I M i∧Hid (∀j:Nat,j<i→eh s t j=0)∧w=wr) (fun t8 _=>8 - (b9 t8).toNat)
 case atStart=>exact⟨0,by omega,rfl,U (fun j hj=>by omega),rfl⟩
 case round=>
  obtain⟨i,hi,rfl,HZ,rfl⟩:=hrel;by_cases hlt:i<8
  ·have hL:=U (HL.out (i:Int))
   have hlt':(i:Int)<8:=by omega
   by_cases hz:eh s t (i:Int)=0
   ·rw[hz] at hL
    have HZ':=U (show∀j:Nat,j<i+1→eh s t j=0 from fun j hj=>by
     by_cases e:j=i
     ·subst e;exact hz
     ·exact HZ.out j (by omega))
    clear hz;generalize s.hasW t (i:Int)=hw at*
    go_wp2_with fail
    refine hL.out.mono ?_;rintro e2 w2 ⟨rfl,rfl⟩;go_wp2_with fail
    go_roundw
    case rel=>exact⟨i+1,by omega,by go_num,HZ',trivial⟩
    case measure=>simp[b9];omega
   ·have hev:=HNN.out i hlt hz
    have hne:(eh s t (i:Int) !=0)=af:=by simpa using hz
    subst hev;clear hz;generalize s.hasW t (i:Int)=hw at*
    generalize eh s t (i:Int)=lv at*
    go_wp2_with fail
    refine hL.out.mono ?_;rintro e2 w2 ⟨rfl,rfl⟩;go_wp2_with fail
    go_ret;exact⟨rfl,rfl⟩
  ·obtain rfl:i=8:=by omega
   have hev:=HALL.out HZ.out;subst hev;go_wp2_with fail
   go_ret;exact⟨rfl,rfl⟩
def kw(p:Int)(tabs:List Int):Nat→Ms→Ms×List Int
 |0,s=>(s,[])
 |k+1,s=>
  if fx s (tabs.getD (k+1) 0)=af then
   ((kw p tabs k (s.setW (tabs.getD k 0).toNat (ap p (3 - k:Nat)).toNat 0)).1,tabs.getD (k+1) 0::(kw p tabs k (s.setW (tabs.getD k 0).toNat (ap p (3 - k:Nat)).toNat 0)).2)
  else(s,[])
theorem qR(p:Int)(tabs:List Int):∀(k:Nat) (s:Ms),ed p tabs k s=kw p tabs k (s.setW (tabs.getD k 0).toNat (ap p (3 - k:Nat)).toNat 0)
 |0,s=>rfl
 |k+1,s=>by
  show(if fx (s.setW (tabs.getD (k+1) 0).toNat (ap p (3 - (k+1):Nat)).toNat 0) (tabs.getD (k+1) 0)=af then _ else _)=(if _ then _ else _);rw[qR p tabs k]
theorem rK(p:Int)(tabs:List Int){k:Nat}{s:Ms}(h:k=0∨fx s (tabs.getD k 0)=O):kw p tabs k s=(s,[]):=by
 cases k with
 |zero=>rfl
 |succ k=>
  rcases h with h|h
  ·cases h
  ·unfold kw
   rw[if_neg (by rw[h];simp)]
theorem uu(p:Int)(tabs:List Int){k j:Nat}{s:Ms}(hk:k=j+1)(h:fx s (tabs.getD k 0)=af):
  kw p tabs k s=((kw p tabs j (s.setW (tabs.getD j 0).toNat (ap p (3 - j:Nat)).toNat 0)).1,tabs.getD k 0::(kw p tabs j (s.setW (tabs.getD j 0).toNat (ap p (3 - j:Nat)).toNat 0)).2):=by
 subst hk;conv=>lhs;unfold kw
 rw[if_pos h]
theorem Agree.takeS{s s':Ms}(h:b6 s s'):b6 s.takeS s'.takeS:=by
 have ht:=h.top;cases hk:s.top with
 |none=>
  have e1:s.takeS=s:=by unfold Ms.takeS;rw[hk]
  have e2:s'.takeS=s':=by unfold Ms.takeS;rw[←ht,hk]
  rw[e1,e2];exact h
 |some k=>
  have hk':s'.top=N k:=by rw[←ht];exact hk
  have e1:s.takeS=s.take k:=by unfold Ms.takeS;rw[hk]
  have e2:s'.takeS=s'.take k:=by unfold Ms.takeS;rw[hk']
  have f1:=gH hk;have f2:=gH hk';rw[h.fr] at f1;rw[e1] at f1⊢;rw[e2] at f2⊢;refine⟨h.n,fun j=> ?_,List.append_cancel_right (f1.trans f2.symm),fun j i hj=> ?_⟩
  ·show bT s.tk k af j=bT s'.tk k af j
   unfold bT;rw[h.tk]
  ·show(if j=k then(0:Int) else s.wd j i)=(if j=k then(0:Int) else s'.wd j i)
   by_cases e:j=k
   ·rw[if_pos e,if_pos e]
   ·rw[if_neg e,if_neg e]
    have hj:bT s.tk k af j=af:=hj;rw[iE _ _ e] at hj;exact h.wd j i hj
theorem Agree.chain{p lw:Int}{sz:Nat}:∀(m:Nat) (s s':Ms) (t:Int),b6 s s'→b6 (dH s p lw sz m t) (dH s' p lw sz m t)
 |0,_,_,_,h=>h.setW _ _ _
 |m+1,s,s',t,h=>by
  have ht:=h.top;unfold Go.Proofs.YtmfheghbgihdmaaGreat.dH;rw[←ht];cases hk:s.top with
  |none=>exact h
  |some k=>
   have hk':s'.top=N k:=by rw[←ht];exact hk
   have e1:s.takeS=s.take k:=by unfold Ms.takeS;rw[hk]
   have e2:s'.takeS=s'.take k:=by unfold Ms.takeS;rw[hk']
   have h2:=h.takeS;rw[e1,e2] at h2;exact Agree.chain m _ _ _ (h2.setW _ _ _)
section
variable {s s':Ms}
theorem Agree.insS(h:b6 s s')(r:Int)(x:Mp):b6 (dR s r x) (dR s' r x):=by
 unfold Go.Proofs.YtmfheghbgihdmaaGreat.dR;rw[←h.insC r x,←h.way r x.page];split
 ·exact Agree.chain _ _ _ _ h
 ·exact h
theorem Agree.allZ(h:b6 s s'){t:Int}(ht:s.has t=af):fx s t=fx s' t:=by
 have e:∀i:Nat,av s t i=av s' t i:=fun i=>h.word ht i;unfold Go.Proofs.YtmfheghbgihdmaaGreat.fx;simp only[e]
theorem Agree.cutR{p:Int}{tabs:List Int}:∀(k:Nat) (s s':Ms),b6 s s'→(∀j,j≤k→s.has (tabs.getD j 0)=af)→b6 (ed p tabs k s).1 (ed p tabs k s').1∧(ed p tabs k s).2=(ed p tabs k s').2
 |0,_,_,h,_=>⟨h.setW _ _ _,rfl⟩
 |k+1,s,s',h,hu=>by
  have h1:b6 (s.setW (tabs.getD (k+1) 0).toNat (ap p (3 - (k+1):Nat)).toNat 0) (s'.setW (tabs.getD (k+1) 0).toNat (ap p (3 - (k+1):Nat)).toNat 0):=h.setW _ _ _;have hz:=h1.allZ (t:=tabs.getD (k+1) 0) (hu _ (Nat.le_refl _));obtain⟨i1,i2⟩:=Agree.cutR (p:=p) (tabs:=tabs) k _ _ h1 (fun j hj=>hu j (by omega));unfold Go.Proofs.YtmfheghbgihdmaaGreat.ed;rw[←hz];split
  ·exact⟨i1,by rw[i2]⟩
  ·exact⟨h1,rfl⟩
theorem Agree.rem(h:b6 s s')(r p:Int):b6 (dm s r p) (dm s' r p)∧fy s r p=fy s' r p:=by
 unfold dm fy;rw[←h.findC r p,←h.way r p];by_cases hf:Go.Proofs.YtmfheghbgihdmaaGreat.bu s r p=0
 ·rw[if_pos hf,if_pos hf,if_pos hf,if_pos hf]
  have hcode:(Go.Proofs.YtmfheghbgihdmaaGreat.way s r p).code =0:=by
   unfold Go.Proofs.YtmfheghbgihdmaaGreat.bu at hf;split at hf
   ·rename_i hn;exact absurd hf hn
   ·rename_i hn;simpa using hn
  obtain⟨_,n,hn,_,_,hu⟩:=fb hcode;rw[hn,Nat.add_sub_cancel];refine Agree.cutR n s s' h fun j hj=> ?_;rw[List.getD_eq_getElem?_getD,bb (by omega)];exact hu _ (List.getElem_mem _)
 ·rw[if_neg hf,if_neg hf,if_neg hf,if_neg hf]
  exact⟨h,rfl⟩
theorem Agree.pr(h:b6 s s')(r p ri:Int):b6 (gX s r p ri) (gX s' r p ri)∧iQ s r p ri=iQ s' r p ri∧kU s r p ri=kU s' r p ri:=by
 have hc:iQ s r p ri=iQ s' r p ri:=by unfold iQ;rw[h.findC]
 refine⟨?_,hc,?_⟩
 ·unfold gX
  rw[←hc,←h.way r p];split
  ·exact h.setW _ _ _
  ·exact h
 ·unfold kU
  rw[←hc,←h.findM r p]
end
theorem pL{p:Int}{tabs:List Int}:∀(k:Nat) {s:Ms},s.Ok→(ed p tabs k s).1.Ok
 |0,_,h=>h.setW _ _ ⟨by omega,by omega⟩
 |k+1,_,h=>by
  unfold Go.Proofs.YtmfheghbgihdmaaGreat.ed;split
  ·exact pL k (h.setW _ _ ⟨by omega,by omega⟩)
  ·exact h.setW _ _ ⟨by omega,by omega⟩
theorem wu{s:Ms}(h:s.Ok)(r p:Int):(dm s r p).Ok :=by
 unfold dm;split
 ·exact pL _ h
 ·exact h
theorem yn{s:Ms}(h:s.Ok)(r p ri:Int):(gX s r p ri).Ok :=by
 unfold gX;split
 ·exact h.setW _ _ (iy _ _)
 ·exact h
def aI(p:Nat)(m:Mp)(ws:Nat→Bool):ab:=
 aa p #[I M m.page,I M m.size,I M m.frame,I M m.rights,V (ws 0),V (ws 1),V (ws 2),V (ws 3)] 169
def eG(ws:Nat→Bool):Bool:= !ws 0&&(!ws 1&&(!ws 2&& !ws 3))
theorem pM(p:Nat)(m:Mp)(ws:Nat→Bool)(R:ab)(w:ag)(h:ax w (aI p m ws*R)):
  bk prog 110 #[.pointer (N (Y p 0 H))] w fun e w'=>e= .returned (V (eG ws))∧w=w':=by
 have c4:w.cell? (Y p 4 H)=N (V (ws 0)):=h.cell 4;have c5:w.cell? (Y p 5 H)=N (V (ws 1)):=h.cell 5;have c6:w.cell? (Y p 6 H)=N (V (ws 2)):=h.cell 6;have c7:w.cell? (Y p 7 H)=N (V (ws 3)):=h.cell 7;go_enter func110,ntmps110;go_wp2;go_ret;exact⟨rfl,rfl⟩
def iL(ws:Nat→Bool)(k:Int):Bool:=decide (0≤k)&&(decide (k<4)&&ws k.toNat)
theorem kz{p:Nat}{m:Mp}{ws:Nat→Bool}{R:ab}{w:ag}(h:ax w (aI p m ws*R))(k:Nat)(hk:k<4):w.cell? ⟨p,4+k,H⟩=N (V (ws k)):=by
 rw[h.cell (4+k)];match k,hk with
 |0,_|1,_|2,_|3,_=>rfl
theorem mA{ws:Nat→Bool}{k:Int}(h:¬(0≤k∧k<4)):iL ws k=O:=by
 unfold iL;by_cases h0:0≤k<;>by_cases h4:k<4<;>simp[h0,h4]
 omega
theorem nP{ws:Nat→Bool}{k:Nat}(h:k<4):iL ws k=ws k:=by
 unfold iL;have h4:(k:Int)<4:=by omega
 simp[h4]
theorem lp(p:Nat)(m:Mp)(ws:Nat→Bool)(k:Int)(R:ab)(w:ag)(h:ax w (aI p m ws*R)):
  bk prog 76 #[.pointer (N (Y p 0 H)),.int .i64 k] w fun e w'=>e= .returned (V (iL ws k))∧w=w':=by
 by_cases h0:0≤k
 ·by_cases h4:k<4
  ·obtain⟨k,rfl⟩:=Int.eq_ofNat_of_zero_le h0
   have hc:=kz h k (by omega);have hy:=U (nP (ws:=ws) (k:=k) (by omega));go_enter func76,ntmps76;go_wp2;go_ret;exact⟨by rw[hy.out];rfl,rfl⟩
  ·have hy:=U (mA (ws:=ws) (k:=k) (by omega))
   go_enter func76,ntmps76;go_wp2;go_ret;exact⟨by rw[hy.out];rfl,rfl⟩
 ·have hy:=U (mA (ws:=ws) (k:=k) (by omega))
  go_enter func76,ntmps76;go_wp2;go_ret;exact⟨by rw[hy.out];rfl,rfl⟩
theorem sK(R:ab)(w:ag)(h:ax w R):
  bk prog 53 #[] w fun e w'=>∃p,e= .returned (.pointer (N (Y p 0 H)))∧ax w' (aI p Mp.zero (fun _=>O)*R)∧bz w w':=by
 have h1:=h.new #[I M 0,I M 0,I M 0,I M 0,V O,V O,V O,V O] 169;go_enter func53,ntmps53;go_wp2;go_ret;exact⟨_,rfl,h1,(bd w).alloc _⟩
def cI(ws:Nat→Bool)(k:Nat):Nat→Bool:=fun i=>if i=k then O else ws i
theorem nQ{p:Nat}{m:Mp}{ws:Nat→Bool}{R:ab}{w:ag}(h:ax w (aI p m ws*R))(k:Nat)(hk:k<4)(b:Bool):
  ax (w.setCell ⟨p,4+k,H⟩ (V b)) (aI p m (fun i=>if i=k then b else ws i)*R):=by
 have h1:=h.set (4+k) (V b);match k,hk,h1 with
 |0,_,h1|1,_,h1|2,_,h1|3,_,h1=>exact h1
theorem ww(p:Nat)(m:Mp)(ws:Nat→Bool)(k:Int)(R:ab)(w:ag)(h:ax w (aI p m ws*R))(hw:iL ws k=af):
  bk prog 108 #[.pointer (N (Y p 0 H)),.int .i64 k] w (cR (.tuple #[m.val,V af]) (aI p m (cI ws k.toNat)*R) w):=by
 have c0:w.cell? (Y p 0 H)=N (I M m.page):=h.cell 0;have c1:w.cell? (Y p 1 H)=N (I M m.size):=h.cell 1;have c2:w.cell? (Y p 2 H)=N (I M m.frame):=h.cell 2;have c3:w.cell? (Y p 3 H)=N (I M m.rights):=h.cell 3;have hlt:p<w.heap.size:=h.lt;have ha:=h.alloc (.cells #[I M 0,I M 0,I M 0,I M 0] 39);have hk:0≤k∧k<4:=by
  by_cases hk:0≤k∧k<4
  ·exact hk
  ·rw[mA hk] at hw;cases hw
 obtain⟨hk0,hk4⟩:=hk;obtain⟨k,rfl⟩:=Int.eq_ofNat_of_zero_le hk0;have hf:=h.free (4+k);have hc:=kz h k (by omega);have hs:=nQ h k (by omega) O;go_enter func108,ntmps108;go_wp2_with(go_at_call 76;refine(lp p m ws _ _ _ ha).mono ?_;rintro e w' ⟨rfl,rfl⟩)
 exact a5 (v:= .tuple #[m.val,V af]) (by simp[results,results108,go_sem]) rfl ⟨rfl,hs.alloc _,((bd w).set _ _).alloc _⟩
theorem yo(p:Nat)(m:Mp)(ws:Nat→Bool)(k:Int)(R:ab)(w:ag)(h:ax w (aI p m ws*R))(hw:iL ws k=O):
  bk prog 108 #[.pointer (N (Y p 0 H)),.int .i64 k] w (cR (.tuple #[.agg #[I M 0,I M 0,I M 0,I M 0],V O]) (aI p m ws*R) w):=by
 have ha:=h.alloc (.cells #[I M 0,I M 0,I M 0,I M 0] 39);go_enter func108,ntmps108;go_wp2_with(go_at_call 76;refine(lp p m ws _ _ _ ha).mono ?_;rintro e w' ⟨rfl,rfl⟩)
 exact a5 (v:= .tuple #[.agg #[I M 0,I M 0,I M 0,I M 0],V O]) (by simp[results,results108,go_sem]) rfl ⟨rfl,ha,(bd w).alloc _⟩
def fg(n:Nat):Nat→Bool:=fun i=>decide (i<n)
theorem nR{ws:Nat→Bool}(h:eG ws=af):ws 0=O∧ws 1=O∧ws 2=O∧ws 3=O:=by
 unfold eG at h;simpa using h
theorem sM{p:Nat}{x:Mp}{j:Nat}{R:ab}{w:ag}(h:ax w (aI p x (fg j)*R))(hj:j<4):ax (w.setCell ⟨p,4+j,H⟩ (V af)) (aI p x (fg (j+1))*R):=by
 have h1:=nQ h j hj af;have e:(fun i=>if i=j then af else fg j i)=fg (j+1):=by
  funext i
  unfold fg;by_cases hi:i=j
  ·simp[hi]
  ·simp only[hi,if_false]
   by_cases h2:i<j<;>simp[h2]<;>omega
 rwa [e] at h1
theorem qS{p:Nat}{m x:Mp}{ws:Nat→Bool}{R:ab}{w:ag}(h:ax w (aI p m ws*R))(ho:eG ws=af):
  ax ((((w.setCell (Y p 0 H) (I M x.page)).setCell (Y p 1 H) (I M x.size)).setCell (Y p 2 H) (I M x.frame)).setCell (Y p 3 H) (I M x.rights)) (aI p x (fg 0)*R):=by
 obtain⟨h0,h1,h2,h3⟩:=nR ho;have:=(((h.set 0 (I M x.page)).set 1 (I M x.size)).set 2 (I M x.frame)).set 3 (I M x.rights);rw[h0,h1,h2,h3] at this;exact this
theorem uv(p:Nat)(m x:Mp)(ws:Nat→Bool)(k:Nat)(R:ab)(w:ag)(h:ax w (aI p m ws*R))(ho:eG ws=af)(hk1:1≤k)(hk4:k≤4):
  bk prog 156 #[.pointer (N (Y p 0 H)),.agg #[I M x.page,I M x.size,I M x.frame,I M x.rights],.int .i64 k] w
   (cR (V af) (aI p x (fg k)*R) w):=by
 have hlt:p<w.heap.size:=h.lt;have ha:=h.alloc (.cells #[I M x.page,I M x.size,I M x.frame,I M x.rights] 39);have hb:=qS (x:=x) h ho;have f0:=h.free 0;have f1:=h.free 1;have f2:=h.free 2;have f3:=h.free 3;have c0:w.cell? (Y p 0 H)=N (I M m.page):=h.cell 0;have c1:w.cell? (Y p 1 H)=N (I M m.size):=h.cell 1;have c2:w.cell? (Y p 2 H)=N (I M m.frame):=h.cell 2;have c3:w.cell? (Y p 3 H)=N (I M m.rights):=h.cell 3;go_enter func156,ntmps156;go_wp2_with(go_at_call 110;refine(pM p m ws _ _ ha).mono ?_;rintro e w' ⟨rfl,rfl⟩)
 go_loopw [7,24,25,26,27,28,29,30,31,32] (fun _ t _ _ _ _ _ _ _ _ wr=>∃j:Nat,j≤k∧t=I M j∧ax wr (aI p x (fg j)*R)∧bz w wr) (fun _ t _ _ _ _ _ _ _ _ _=>k - (b9 t).toNat)
 case atStart=>exact⟨0,Nat.zero_le _,rfl,hb.alloc _,((((bd w).set _ _).set _ _).set _ _).set _ _ |>.alloc _⟩
 case round=>
  obtain⟨j,hj,rfl,hr,hx⟩:=hrel;clear hb ha c0 c1 c2 c3 f0 f1 f2 f3 hlt;by_cases hlt:j<k
  ·have hf:=hr.free (4+j)
   have hc:=kz hr j (by omega);have hs:=sM hr (by omega);go_wp2;go_roundw
   case rel=>exact⟨j+1,by omega,by go_num,hs,hx.set _ _⟩
   case measure=>simp[b9];omega
  ·obtain rfl:j=k:=by omega
   go_wp2;go_ret;exact⟨rfl,hr,hx⟩
structure Ev where
 code:Int
 fin:Bool
 an:An
 back:Bool
 deriving DecidableEq
def Ev.no(c:Int):Ev:=⟨c,O,An.zero,O⟩
structure Cr where
 l:List Ln
 k:Ck
def Cr.zero:Cr:=⟨[],Ck.zero⟩
structure Sc where
 s:Ms
 cs:List Cr
 told:Mp
 wait:Nat→Bool
 busy:Bool
 gone:List Int
namespace Sc
def new(cores n:Nat):Sc:=⟨(Ms.new n).takeS,List.replicate cores Cr.zero,Mp.zero,fun _=>O,O,[]⟩
def core(σ:Sc)(k:Nat):Cr:=σ.cs.getD k Cr.zero
def post(σ:Sc)(s:Ms)(m:Mp)(g:List Int):Sc:={σ with s:=s,told:=m,wait:=fg σ.cs.length,busy:=af,gone:=g}
def change(σ:Sc)(x:Stp):Sc×Ev:=
 if σ.busy=af then(σ,.no 8)
 else if x.kind=1 then({σ with s:=dR σ.s 0 x.m},⟨cU σ.s 0 x.m,O,An.zero,decide (cU σ.s 0 x.m=0)⟩)
 else if x.kind=2 then
  if bu σ.s 0 x.m.page=0 then(σ.post (dm σ.s 0 x.m.page) (bK σ.s 0 x.m.page) (fy σ.s 0 x.m.page),.no 0) else(σ,.no (bu σ.s 0 x.m.page))
 else if iQ σ.s 0 x.m.page x.m.rights=0 then(σ.post (gX σ.s 0 x.m.page x.m.rights) (kU σ.s 0 x.m.page x.m.rights) [],.no 0)
 else(σ,.no (iQ σ.s 0 x.m.page x.m.rights))
def put(σ:Sc)(k:Nat)(c:Cr):Sc:={σ with cs:=σ.cs.set k c}
def heed(σ:Sc)(k:Nat):Sc:={σ with cs:=σ.cs.set k ⟨Tl.drop (σ.core k).l σ.told,(σ.core k).k.again 0⟩,wait:=cI σ.wait k}
def over(σ:Sc):Sc:={σ with s:=bv σ.s σ.gone,busy:=O,gone:=[]}
def ack(σ:Sc)(k:Nat):Sc×Ev:=
 if σ.wait k=O then(σ,.no 9)
 else if eG (σ.heed k).wait =af then((σ.heed k).over,⟨0,O,An.zero,af⟩)
 else(σ.heed k,.no 0)
def access(σ:Sc)(k:Nat)(a:Ac):Sc×Ev:=
 (σ.put k ⟨(σ.core k).l,(ce (σ.core k).l 0 (σ.core k).k a).c⟩,⟨(ce (σ.core k).l 0 (σ.core k).k a).code,(ce (σ.core k).l 0 (σ.core k).k a).fin,(ce (σ.core k).l 0 (σ.core k).k a).an,O⟩)
def walk(σ:Sc)(k:Nat):Sc×Ev:=
 ({σ.put k ⟨gQ (σ.core k).l (aL σ.s 0 (σ.core k).k).r,(aL σ.s 0 (σ.core k).k).c⟩ with s:=(aL σ.s 0 (σ.core k).k).s},
  ⟨(aL σ.s 0 (σ.core k).k).code,(aL σ.s 0 (σ.core k).k).r.fin,(aL σ.s 0 (σ.core k).k).r.an,O⟩)
def evict(σ:Sc)(k:Nat):Sc×Ev:=
 if(σ.core k).l =[] then(σ,.no 9) else(σ.put k ⟨Tl.evict (σ.core k).l,(σ.core k).k⟩,.no 0)
def act(σ:Sc)(x:Stp):Sc×Ev:=
 if 1≤x.kind∧x.kind≤3 then σ.change x
 else if x.kind<1∨7<x.kind then(σ,.no 2)
 else if x.core<0∨(σ.cs.length:Int)≤x.core then(σ,.no 1)
 else if x.kind=4 then σ.access x.core.toNat x.a
 else if x.kind=5 then σ.walk x.core.toNat
 else if x.kind=6 then σ.ack x.core.toNat
 else σ.evict x.core.toNat
def on(σ:Sc)(k:Int):Bool:=decide (0≤k)&&(decide (k<σ.cs.length)&&(σ.core k.toNat).k.on)
def acc(σ:Sc)(k:Int):Ac:=if σ.on k=af then(σ.core k.toNat).k.a else Ac.zero
def kept(σ:Sc)(k:Int):List Ln:=if 0≤k∧k<σ.cs.length then(σ.core k.toNat).l else []
def waits(σ:Sc)(k:Int):Bool:=iL σ.wait k
structure Ok (σ:Sc):Prop where
 s:σ.s.Ok
 c:∀c∈σ.cs,Tl.Ok c.l∧c.k.Ok
 few:σ.cs.length≤4
 one:1≤σ.cs.length
 w:∀i,σ.cs.length≤i→σ.wait i=O
 told:σ.told.ok
theorem core_ok{σ:Sc}(h:σ.Ok)(k:Nat):Tl.Ok (σ.core k).l ∧(σ.core k).k.Ok :=by
 unfold core;rw[List.getD_eq_getElem?_getD];cases hk:σ.cs[k]? with
 |none=>exact⟨Tl.Ok.nil,Ck.Ok.zero⟩
 |some c=>exact h.c c (List.mem_of_getElem? hk)
theorem put_len(σ:Sc)(k:Nat)(c:Cr):(σ.put k c).cs.length =σ.cs.length:=List.length_set ..
theorem mem_set{cs:List Cr}{k:Nat}{c x:Cr}(h:x∈cs.set k c):x=c∨x∈cs:=(List.mem_or_eq_of_mem_set h).symm
theorem Ok.put{σ:Sc}(h:σ.Ok)(k:Nat){c:Cr}(h1:Tl.Ok c.l)(h2:c.k.Ok):(σ.put k c).Ok :=
 ⟨h.s,fun x hx=>by rcases mem_set hx with rfl|hx;exact⟨h1,h2⟩;exact h.c x hx,by rw[put_len];exact h.few,by rw[put_len];exact h.one,fun i hi=>h.w i (by rw[put_len] at hi;exact hi),h.told⟩
theorem mp_ok_zero:Mp.zero.ok:=by
 refine⟨?_,?_,?_,?_⟩<;>(show cW 0;unfold cW;omega)
end Sc
open Go.RowKit Go.Shelf
attribute [local go_sem] Oper.semAt_some
def iD(m:List Int)(k:Nat):List (Int×Int):=(List.range k).map fun(j:Nat)=>(((m.length:Int) - 1 - (j:Int)),m[m.length - 1 - j]?.getD 0)
theorem qT(m:List Int)(k:Nat):iD m (k+1)=iD m k++[(((m.length:Int) - 1 - k),m[m.length - 1 - k]?.getD 0)]:=by simp[iD,List.range_succ]
theorem sN(m:List Int)(k:Nat):(iD m k).length =k:=by simp[iD]
theorem sO(m:List Int):(iD m m.length).map Prod.snd=m.reverse:=by
 unfold iD;rw[List.map_map];apply List.ext_getElem
 ·simp
 ·intro i h1 h2
  simp at h1 h2⊢;rw[bb (by omega)];rfl
structure KpT (T:Nat→Prop) (A B:ag):Prop where
 same:∀b,T b→B.heap[b]? =A.heap[b]?
theorem KpT.refl(T:Nat→Prop)(A:ag):KpT T A A:=⟨fun _ _=>rfl⟩
theorem KpT.trans{T:Nat→Prop}{A B C:ag}(h:KpT T A B)(k:KpT T B C):KpT T A C:=⟨fun b hb=>(k.same b hb).trans (h.same b hb)⟩
theorem KpT.cell{T:Nat→Prop}{A B:ag}(h:KpT T A B){b o:Nat}(hb:T b):B.cell? (Y b o H)=A.cell? (Y b o H):=by
 have:=h.same b hb;unfold World.cell?;simp only[this]
set_option maxHeartbeats 2000000 in
theorem zo(n:Nat)(hn:1≤n)(l Bs c:Nat)(A:Option b4)(m:List Int)(hm:m.length≤9223372036854775807)(T:Nat→Prop)(hT:T Bs)(J Jx:List (Int×Int)→ag→Prop)
  (hY:∀pre x W,J pre W→pre.length<m.length→YieldAt Fence.wide (n - 1) prog l #[I M x.1,I M x.2] W fun e W'=>
   (e= .returned (.bool af)∧J (pre++[x]) W'∧KpT T W W')∨(e= .returned (.bool O)∧Jx (pre++[x]) W'))
  (W:ag) (hBs:W.cell? (Y Bs 0 H)=N (.slice A m.length c)) (hc:∀j,(hj:j<m.length)→∃b,A=N (Y b 0 H)∧T b∧W.cell? (Y b j H)=N (I M m[j])) (h0:J [] W):
  CallsIn Fence.wide n prog 194 #[.func (.yield l) #[] #[],.pointer (N (Y Bs 0 H))] W fun e W'=>(∃v,e= .returned v)∧
   ((∃ys,ys=iD m m.length∧J ys W')∨(∃pre,(∃k,k≤m.length∧pre=iD m k)∧Jx pre W')):=by
 refine callsIn_of_wp func194 rfl trivial ?_ rfl;simp only[ntmps194,List.size_toArray,List.length_cons,List.length_nil,Nat.reduceAdd,Nat.reduceSub,Array.replicate_succ,Array.replicate_zero,List.push_toArray,List.append_toArray,List.nil_append,List.cons_append];gi_wp2
 gi_loopw [3] (fun i wr=>∃q:Nat,q≤m.length∧i=I M ((q:Int) - 1)∧J (iD m (m.length - q)) wr∧KpT T W wr)
  (fun i _=>(b9 i+1).toNat)
 case atStart=>exact⟨m.length,Nat.le_refl _,by go_num,by rw[Nat.sub_self];exact h0,KpT.refl _ _⟩
 case round=>
  obtain⟨q,hq,hi,hJs,hnx⟩:=hrel;have hBs':=(hnx.cell hT).trans hBs;cases q with
  |zero=>
   obtain rfl:=hi;gi_wp2
   go_end0
   exact⟨⟨_,rfl⟩,.inl ⟨_,rfl,hJs⟩⟩
  |succ j=>
   have hij:((j+1:Nat):Int) - 1=(j:Int):=by omega
   rw[hij] at hi;subst hi;obtain⟨b,hA,hTb,hcb⟩:=hc j (by omega);have hcx:=(hnx.cell hTb).trans hcb;have hji:(j:Int)<m.length:=by omega
   have hk1:m.length - j=m.length - (j+1)+1:=by omega
   have hsx:iD m (m.length - j)=iD m (m.length - (j+1))++[((j:Int),m[j])]:=by
    rw[hk1,qT];have e1:m.length - 1 - (m.length - (j+1))=j:=by omega
    rw[e1,bb (by omega)];congr 2
    simp;omega
   obtain⟨fn,tmps,assign,body,hy,hR⟩:=hY _ ((j:Int),m[j]) _ hJs (by rw[sN];omega);dsimp only at hy;subst hA;gi_wp2
   refine hR.mono ?_;rintro e W3 (⟨rfl,hJ3,hk3⟩|⟨rfl,hJx3⟩)
   ·gi_wp2
    go_roundw
    case rel=>exact⟨j,by omega,by go_num,by rw[hsx];exact hJ3,hnx.trans hk3⟩
    case measure=>first|(simp[b9];done)|(simp[b9];omega)
   ·gi_wp2
    refine a5 (results_none rfl _ _ _) rfl ?_;exact⟨⟨_,rfl⟩,.inr ⟨_,⟨m.length - j,by omega,hsx.symm⟩,hJx3⟩⟩
theorem qU(n:Nat)(hn:1≤n)(Bs c:Nat)(A:Option b4)(m:List Int)(hm:m.length≤9223372036854775807)(T:Nat→Prop)(hT:T Bs)(w:ag)(hB:Bs<w.heap.size)(hBs:w.cell? (Y Bs 0 H)=N (.slice A m.length c))(hc:∀j,(hj:j<m.length)→∃b,A=N (Y b 0 H)∧b<w.heap.size∧T b∧w.cell? (Y b j H)=N (I M m[j])):
  SeqStopsK Fence.wide n prog 194 #[.pointer (N (Y Bs 0 H))] (fun x:Int×Int=> #[I M x.1,I M x.2]) (KpT T) (fun xs=>xs=iD m m.length) (fun pre=>∃k,k≤m.length∧pre=iD m k) m.length w:=by
 intro l J Jx W hW hJ hJx hY h0;refine zo n hn l Bs c A m hm T hT J Jx hY W ((hW.cell (p:=(Y Bs 0 H)) hB).trans hBs) (fun j hj=> ?_) h0;obtain⟨b,h1,h2,h3,h4⟩:=hc j hj;exact⟨b,h1,h3,(hW.cell (p:=(Y b j H)) h2).trans h4⟩
theorem oL(A:Option b4)(n c:Nat)(w:ag):bk prog 181 #[.slice A n c] w fun e w'=>e= .returned (.func (.func 194) #[] #[.pointer (N (Y w.heap.size 0 H))])∧w'=w.alloc (.cells #[.slice A n c] 45):=by
 have hmf:∀(fn:Fn) (first cap:Array a0) (w:ag),(Instr.makeFunc fn first cap).run prog w= .ok (.func fn first cap) w:=fun _ _ _ _=>rfl;go_enter func181,ntmps181;go_wp2_with fail
 go_ret;exact⟨rfl,rfl⟩
open Go.RowKit Hpm
def fM(x:Hp):ab:=fun h=>h=x
def AllCells(P:ab):Prop:=∀h,P h→∀b o,h b=N o→o.isCells=af
theorem AllCells.star{P Q:ab}(hp:AllCells P)(hq:AllCells Q):AllCells (P*Q):=by
 rintro h ⟨h1,h2,d,rfl,p,q⟩ b o e;simp only[union] at e;cases e1:h1 b with
 |none=>rw[e1] at e;exact hq h2 q b o (by simpa using e)
 |some x=>rw[e1] at e;simp at e;subst e;exact hp h1 p b x e1
theorem AllCells.ex{α:Type}{P:α→ab}(h:∀x,AllCells (P x)):AllCells (ex P):=fun k ⟨x,p⟩=>h x k p
theorem AllCells.blk(b:Nat)(cs:Array a0)(t:TypeId):AllCells (aa b cs t):=by
 rintro h rfl k o e;simp only[single] at e;split at e
 ·injection e with e;subst e;rfl
 ·cases e
theorem AllCells.row(e size:Nat)(v:a0)(n:Nat)(xs:List a0):AllCells (ct e size v n xs):=by
 rintro h ⟨_,⟨_,_,rfl⟩|⟨g,cap,cur,_,_,_,_,_,hb⟩⟩ b o ho
 ·cases ho
 ·exact AllCells.blk _ _ _ h hb b o ho
theorem AllCells.lift(p:Prop):AllCells (eY p):=by
 rintro h ⟨_,rfl⟩ b o e;cases e
theorem jC(f:Nat)(s:Ms):AllCells (ai f s):=by
 unfold ai;refine AllCells.ex fun g=>AllCells.ex fun vf=> ?_;unfold bO;exact(AllCells.blk _ _ _).star ((AllCells.blk _ _ _).star ((AllCells.row _ _ _ _ _).star (AllCells.lift _)))
theorem sP{w:ag}{P R:ab}(h:ax w (P*R)):∃x,R x∧ax w (P*fM x)∧sub x (fun b=>w.heap[b]?):=by
 obtain⟨_,s,h1,h2,d,rfl,p,r⟩:=h;exact⟨h2,r,⟨_,s,h1,h2,d,rfl,p,rfl⟩,sub_union_right d s⟩
theorem lq{w:ag}{P:ab}{x:Hp}(h:ax w (P*fM x)):sub x (fun b=>w.heap[b]?):=by
 obtain⟨_,s,h1,h2,d,rfl,p,r⟩:=h;have r:h2=x:=r;subst r;exact sub_union_right d s
theorem qV{w:ag}{P R:ab}{x:Hp}(h:ax w (P*fM x))(r:R x):ax w (P*R):=by
 obtain⟨_,s,h1,h2,d,rfl,p,e⟩:=h;have e:h2=x:=e;subst e;exact⟨_,s,h1,h2,d,rfl,p,r⟩
theorem uw{w:ag}{P:ab}{x:Hp}(h:ax w (P*fM x))(hc:AllCells P):∃y,sub x y∧ax w (P*fM y)∧∀b o,w.heap[b]? =N o→o.isCells=O→y b=N o:=by
 obtain⟨_,s,h1,h2,d,rfl,p,e⟩:=h;have e:h2=x:=e;subst e;refine⟨fun b=>if(h1 b).isSome then H else w.heap[b]?,?_,⟨_,?_,h1,_,?_,rfl,p,rfl⟩,?_⟩
 ·intro b o e
  have hb:h1 b=H:=by
   rcases d b with h|h
   ·exact h
   ·rw[h] at e;cases e
  show(if(h1 b).isSome then H else w.heap[b]?)=N o;rw[hb];exact sub_union_right d s b o e
 ·refine sub_union (sub_union_left s) fun b o e=> ?_
  replace e:(if(h1 b).isSome then H else w.heap[b]?)=N o:=e;split at e
  ·cases e
  ·exact e
 ·intro b
  cases hb:h1 b with
  |none=>exact .inl rfl
  |some o=>right;simp[hb]
 ·intro b o e ho
  show(if(h1 b).isSome then H else w.heap[b]?)=N o;cases hb:h1 b with
  |none=>exact e
  |some o'=>
   have h3:=sub_union_left s b o' hb;have h4:w.heap[b]? =N o':=h3;rw[e] at h4;injection h4 with h4
   subst h4;rw[hc h1 p b o hb] at ho;cases ho
theorem qW{w:ag}{P:ab}{x y:Hp}(h:ax w (P*fM y))(hs:sub x y):ax w (P*fM x):=by
 obtain⟨_,s,h1,h2,d,rfl,p,e⟩:=h;have e:h2=y:=e;subst e;refine⟨_,sub_union (sub_union_left s) (fun b o hb=>sub_union_right d s b o (hs b o hb)),h1,x,fun b=> ?_,rfl,p,rfl⟩;rcases d b with h|h
 ·exact .inl h
 ·right
  cases hx:x b with
  |none=>rfl
  |some o=>rw[hs b o hx] at h;cases h
theorem lJ{w w':ag}{P:ab}{x:Hp}{ct:Option Nat}(h:ax w (P*fM x))(hc:AllCells P)(hg:w.grownBy w' ct)(hr:∀r,ct=N r→x r=H∧∃o:Obj,w.heap[r]? =N o∧o.isCells=O):ax w' (P*fM x):=by
 obtain⟨_,s,h1,h2,d,rfl,p,e⟩:=h;have e:h2=x:=e;subst e;refine⟨_,fun b o hb=> ?_,h1,h2,d,rfl,p,rfl⟩;have h3:w.heap[b]? =N o:=s b o hb;have hlt:b<w.heap.size:=(Array.getElem?_eq_some_iff.1 h3).1;show w'.heap[b]? =N o;rw[hg.block b hlt ?_]
 ·exact h3
 ·intro e
  obtain⟨hx,o',ho',hcl⟩:=hr b e.symm;simp only[union] at hb;cases hb1:h1 b with
  |none=>rw[hb1,hx] at hb;cases hb
  |some o1=>
   have h4:=sub_union_left s b o1 hb1;have h4:w.heap[b]? =N o1:=h4;rw[ho'] at h4;injection h4 with h4
   subst h4;rw[hc h1 p b o' hb1] at hcl;cases hcl
theorem qX{P:Program}{fn:Nat}{args:Array a0}{v:a0}{A B:ab}{x:Hp}{w:ag}(hc:AllCells A)(h:ax w (A*fM x))
  (hcall:∀R,ax w (A*R)→bk P fn args w (cR v (B*R) w)) (Bd:Nat):
  bk P fn args w fun e w'=>e= .returned v∧ax w' (B*fM x)∧bz w w'∧KeepsFrom Bd w w'∧KpT (fun b=>(x b).isSome =af) w w':=by
 obtain⟨y,hs,hy,hall⟩:=uw h hc;refine(hcall _ hy).mono fun e w' ⟨he,hB,hx⟩=>⟨he,qW hB hs,hx,⟨hx.size,fun k o _ hk ho=>lq hB k o (hall k o hk ho)⟩,⟨fun b hb=> ?_⟩⟩;obtain⟨o,ho⟩:=Option.isSome_iff_exists.1 hb;have h1:w'.heap[b]? =N o:=lq hB b o (hs b o ho);have h2:w.heap[b]? =N o:=lq h b o ho;rw[h1,h2]
open Go.RowKit Go.Shelf Hpm
attribute [local go_sem] Oper.semAt_some
theorem mB{P:Program}{f:FuncId}{fn:Func}{c:Code}{args:Array a0}{w:ag}{R:Ending→ag→Prop}(hf:P.funcs[f]? =N fn)(hb:fn.body=N c)
  (h:c.wp P (bodyPostM Fence.wide 9 P fn R) {tmps:=args++Array.replicate (fn.ntmps - args.size) undef,defers:=[]} w):bk P f args w R:=
 (callsIn_wide (n:=9)).1 (callsIn_of_wp_marks (F:=Fence.wide) (n:=9) hf hb trivial (wpIn_wide.2 h) rfl)
theorem sQ{P:Program}{fn:Func}{R:Ending→ag→Prop}{a:Act}{w:ag}{v:a0}(hr:(results fn a.tmps).run P w= .ok v w)(hd:a.defers=[])(hR:R (.returned v) w):bodyPostM Fence.wide 9 P fn R .ret a w:=by
 show LeavesInM Fence.wide 9 P fn a.tmps R a.defers .returning w;rw[hd];unfold LeavesInM LeavesIn;exact⟨v,hr,hR⟩
def zp(Q:Exit→Act→ag→Prop):Exit→Act→ag→Prop
 | .panic _,_,_=>False
 |e,a,w=>Q e a w
theorem wy{P:Program}{c:Code}{Q:Exit→Act→ag→Prop}{a:Act}{w:ag}(h:c.wp P (zp Q) a w):c.wp P Q a w:=
 Code.wp_mono (fun e _ _ h=>by cases e<;>first|exact h|exact h.elim) h
theorem ux{b:Nat}{cs:Array a0}{t:TypeId}{R:ab}{x:Hp}(h:(aa b cs t*R) x):(x b).isSome =af:=by
 obtain⟨h1,h2,d,rfl,p,r⟩:=h;have p:h1=single b (.cells cs t (0,0)):=p;subst p;simp[union,single]
theorem uy{g:Nat}{e size n m c:Nat}{xs:List a0}{R:ab}{x:Hp}(h:(ct e size (.slice (N (Y g 0 H)) m c) n xs*R) x):(x g).isSome =af:=by
 obtain⟨h1,h2,d,rfl,⟨_,⟨hv,_⟩|⟨g',cap,cur,hv,_,_,_,_,hb⟩⟩,r⟩:=h
 ·injection hv with e;cases e
 ·injection hv with e
  injection e with e
  injection e with e
  subst e;have hb:h1=single _ _:=hb;subst hb;simp[union,single]
def zq(b f n:Nat)(s:Ms)(R:ab)(w:ag)(e:Ending)(w':ag):Prop:=
 (n≤s.frees.length∧∃A c,cR (V af) (aa b #[.pointer (N (Y f 0 H)),.slice A n c] 224*(ct 3 1 (.slice A n c) n ((eZ s n).map (I M))*(ai f (a8 s n)*R))) w e w')∨
 (s.frees.length<n∧∃s',s'.Ok∧b6 s' s∧cR (V O) (ai f s'*R) w e w')
set_option maxHeartbeats 4000000 in
theorem zr(b f:Nat)(s:Ms)(hs:s.Ok)(n:Nat)(hn:n≤3)(R:ab)(w:ag)(h:ax w (aa b #[.pointer (N (Y f 0 H)),.slice H 0 0] 224*(ai f s*R))):
  bk prog 150 #[.pointer (N (Y b 0 H)),I M n] w (zq b f n s R w):=by
 have h1:ax _ (aa w.heap.size #[.pointer (N (Y b 0 H))] 222*(aa b #[.pointer (N (Y f 0 H)),.slice H 0 0] 224*(ct 3 1 (.slice H 0 0) 0 ((eZ s 0).map (I M))*(ai f (a8 s 0)*R)))):=(Has.rowNil (e:=3) (size:=1) (h.new #[.pointer (N (Y b 0 H))] 222)).p2.eq (congrArg _ (ay _ _ _));have x1:=(bd w).alloc (.cells #[.pointer (N (Y b 0 H))] 222);clear h;refine mB func150 rfl ?_;simp only[ntmps150,List.size_toArray,List.length_cons,List.length_nil,Nat.reduceAdd,Nat.reduceSub,Array.replicate_succ,Array.replicate_zero,List.push_toArray,List.append_toArray,List.nil_append,List.cons_append];go_upto_region 1 with fail;generalize w.alloc _=w1 at*
 generalize w.heap.size=X at*
 go_wp2_with fail
 go_loopw [9] (fun t9 wr=>∃(i:Nat) (A:Option b4) (c:Nat),i≤n∧i≤s.frees.length∧t9=I M i∧ax wr (aa X #[.pointer (N (Y b 0 H))] 222*(aa b #[.pointer (N (Y f 0 H)),.slice A i c] 224*(ct 3 1 (.slice A i c) i ((eZ s i).map (I M))*(ai f (a8 s i)*R))))∧bz w wr) (fun t9 _=>n - (b9 t9).toNat)
 case atStart=>exact⟨0,H,0,by omega,by omega,rfl,h1,x1⟩
 case round=>
  clear h1 x1;obtain⟨i,A,c,hi,hif,rfl,hr,hx⟩:=hrel;by_cases hlt:i<n
  ·have HT:=U (fun R w h=>xI f (a8 s i) R w h (gG hs i))
   have htop:=tI hif;have c0:=hr.cell 0;have cl:=hr.lt;obtain⟨b0,b1⟩:=hr.right.cells2;have bl:=hr.right.lt;have h2:ax wr (ai f (a8 s i)*(aa X #[.pointer (N (Y b 0 H))] 222*(aa b #[.pointer (N (Y f 0 H)),.slice A i c] 224*(ct 3 1 (.slice A i c) i ((eZ s i).map (I M))*R)))):=hr.eq (by ac_rfl);have hts:eZ s (i+1)=eZ s i++[(a8 s i).topV]:=rfl;have hns:a8 s (i+1)=(a8 s i).takeS :=rfl;by_cases hneg:(a8 s i).topV <0
   ·have hie:=htop.1 hneg
    have hno:(a8 s i).top =H:=by
     cases ht:(a8 s i).top with
     |none=>rfl
     |some k=>unfold Ms.topV at hneg;rw[ht] at hneg;exact absurd hneg (by simp)
    have hstk:(a8 s i).takeS =a8 s i:=by unfold Ms.takeS;rw[hno]
    rw[hstk] at HT;have HAG:=U (nc hs i hif);have HOK:=U (fun l=>nb (gG hs i) l);have hml:=jQ s i;have hlt2:s.frees.length<n:=by omega
    have HLT:=U hlt2;clear hr hts hns htop hno hstk hie hlt2;generalize (a8 s i).topV =k at*
    generalize a8 s i=s1 at*
    generalize eZ s i=m at*
    subst hml;go_wp2_with fail
    refine(HT.out _ _ h2).mono ?_;rintro e w3 ⟨rfl,h3,x3⟩;have x4:=hx.trans x3;clear c0 cl b0 b1 bl h2 hx x3 HT;have c0:=h3.right.cell 0;have cl:=h3.right.lt;obtain⟨b0,b1⟩:=h3.right.right.cells2;have bl:=h3.right.right.lt;go_wp2_with fail
    refine(oL A m.length c w3).mono ?_;rintro e w4 ⟨rfl,rfl⟩;have h4:ax (w3.alloc (.cells #[.slice A m.length c] 45)) (ai f s1*(aa w3.heap.size #[.slice A m.length c] 45*(aa X #[.pointer (N (Y b 0 H))] 222*(aa b #[.pointer (N (Y f 0 H)),.slice A m.length c] 224*(ct 3 1 (.slice A m.length c) m.length (m.map (I M))*R))))):=(h3.new #[.slice A m.length c] 45).eq (by ac_rfl);have x5:=x4.alloc (.cells #[.slice A m.length c] 45);clear h3 x4 c0 cl b0 b1 bl;go_wp2_with fail
    generalize w3.alloc _=w5 at*
    generalize w3.heap.size=Bs at*
    obtain⟨x,hx,h5,hsub⟩:=sP h4;have hbk:=U (fun(w':ag) (s':Ms) (h:ax w' (ai f s'*fM x))=>qV h hx);have hT1:(x Bs).isSome =af:=ux hx;have hxlt:∀b,(x b).isSome =af→b<w5.heap.size:=fun b hb=>by
     obtain⟨o,ho⟩:=Option.isSome_iff_exists.1 hb;exact(Array.getElem?_eq_some_iff.1 (hsub b o ho)).1
    have hcell:∀j,(hj:j<m.length)→∃b,A=N (Y b 0 H)∧b<w5.heap.size∧(x b).isSome =af∧w5.cell? (Y b j H)=N (I M m[j]):=fun j hj=>by
     have h6:ax w5 (ct 3 1 (.slice A m.length c) m.length (m.map (I M))*(ai f s1*(aa Bs #[.slice A m.length c] 45*(aa X #[.pointer (N (Y b 0 H))] 222*(aa b #[.pointer (N (Y f 0 H)),.slice A m.length c] 224*R))))):=h4.eq (by ac_rfl);obtain⟨b',e,hb,hc,_⟩:=Has.rowGet (e:=3) (size:=1) h6 (i:=j) (u:=I M m[j]) (by simp[hj]);subst e;refine⟨b',rfl,hb,?_,hc⟩;have h7:(ct 3 1 (.slice (N (Y b' 0 H)) m.length c) m.length (m.map (I M))*(aa Bs #[.slice (N (Y b' 0 H)) m.length c] 45*(aa X #[.pointer (N (Y b 0 H))] 222*(aa b #[.pointer (N (Y f 0 H)),.slice (N (Y b' 0 H)) m.length c] 224*R)))) x:=by
      have e:(aa Bs #[.slice (N (Y b' 0 H)) m.length c] 45*(aa X #[.pointer (N (Y b 0 H))] 222*(aa b #[.pointer (N (Y f 0 H)),.slice (N (Y b' 0 H)) m.length c] 224*(ct 3 1 (.slice (N (Y b' 0 H)) m.length c) m.length (m.map (I M))*R))))=(ct 3 1 (.slice (N (Y b' 0 H)) m.length c) m.length (m.map (I M))*(aa Bs #[.slice (N (Y b' 0 H)) m.length c] 45*(aa X #[.pointer (N (Y b 0 H))] 222*(aa b #[.pointer (N (Y f 0 H)),.slice (N (Y b' 0 H)) m.length c] 224*R)))):=by ac_rfl
      exact e▸hx
     exact uy h7
    have hG:=U (fun(s':Ms) (hs':s'.Ok) (k:Int) (w':ag) (h:ax w' (ai f s'*fM x))=>qX (P:=prog) (fn:=111) (args:= #[.pointer (N (Y f 0 H)),I M k]) (v:=V (s'.has k)) (B:=ai f (s'.giveS k)) (jC f s') h (fun R h=>xJ f s' k R w' h hs') w5.heap.size);clear h4;refine(wpIn_wide (n:=6)).1 ?_;apply wpIn_rangeFunc_ownG (F:=Fence.wide) (n:=6) rfl (by omega) (gf:=194) (lb:= #[.pointer (N (Y Bs 0 H))]) rfl trivial (enters_of func194 (by kernel_rfl) rfl) (qU 5 (by omega) Bs c A m (by omega) (fun b=>(x b).isSome =af) hT1 w5 (hxlt _ hT1) ((hbk.out _ _ h5).right.cell 0) hcell) (fun h k=>h.trans k) (fun W l o o' hl hW ho hw=>⟨fun b hb=>World.putObj_heap_other (by have:=hxlt b hb;omega)⟩) (Below.refl _ _) (fun _=>rfl)
     (fun pre W=>ax W (ai f (bv s1 (pre.map Prod.snd))*fM x)∧bz w W) (fun _ _ _=>False)
     (fun pre W W' ct hs hg hr=>⟨lJ hs.1 (jC _ _) hg (fun r e=>⟨by
      cases hxr:x r with
      |none=>rfl
      |some o=>have:=hxlt r (by rw[hxr];rfl);have:=(hr r e).1;omega,(hr r e).2⟩),hs.2.grown hg⟩)
     (fun _ _ _ _ _ hs _ _=>hs)
     ⟨h5,x5⟩
    case hassign=>
     intro l x W K hK;gi_wp2
     exact hK
    case hbody=>
     rintro l pre y W ⟨hW,hE⟩ _;have h6:=hbk.out W _ hW;have c0:=h6.right.right.cell 0;have cl:=h6.right.right.lt;obtain⟨b0,b1⟩:=h6.r3.cells2;have bl:=h6.r3.lt;have HGk:=U (hG.out _ (HOK.out _) y.2 W hW);gi_wp2_with (refine⟨trivial,?_⟩;gi_at_call 111;refine(CallsIn.inRound l (callsIn_wide.2 HGk.out)).mono ?_;rintro e W2 ⟨rfl,hW2,hE2,hKF,hKT⟩)
     exact⟨hKF,hKT,by rw[List.map_append,List.map_singleton,kH];exact hW2,hE.trans hE2⟩
    case hdone=>
     rintro D ys W hD rfl ⟨hW,hE⟩ hK;rw[sO] at hW;go_wp2_with fail
     refine⟨by simp,.inl ⟨_,_,rfl,run_takeDeferred hK,?_⟩⟩;have hxD:x D=H:=by
      cases hxr:x D with
      |none=>rfl
      |some o=>have:=hxlt D (by rw[hxr];rfl);omega
     have hW2:=lJ hW (jC _ _) (grownBy_putObj' W D (.deferred H)) (fun r e=>by cases e;exact⟨hxD,_,hK,rfl⟩);have hE2:=hE.grown (grownBy_putObj' W D (.deferred H));refine⟨_,results_tmp rfl _ _ _,.inr ⟨HLT.out,_,HOK.out _,HAG.out,rfl,?_,hE2⟩⟩;have h6:=hbk.out _ _ hW2;exact(h6.eq (show _=(aa Bs #[.slice A m.length c] 45*(aa X #[.pointer (N (Y b 0 H))] 222*(aa b #[.pointer (N (Y f 0 H)),.slice A m.length c] 224*ct 3 1 (.slice A m.length c) m.length (m.map (I M)))))*(ai f (bv s1 m.reverse)*R) by ac_rfl)).right
    case hstop=>
     intro D c pre W _ _ h;exact h.elim
   ·have hif':i<s.frees.length:=by
     have:i≠s.frees.length:=fun e=>hneg (htop.2 e);omega
    have HTS:=U hts;have HNS:=U hns;clear hr hts hns htop;generalize (a8 s i).topV =k at*
    generalize hS:(a8 s i).takeS =s2 at*
    generalize a8 s i=s1 at*
    clear hS;go_wp2_with fail
    refine(HT.out _ _ h2).mono ?_;rintro e w3 ⟨rfl,h3,x3⟩;have x4:=hx.trans x3;have h4:ax w3 (ct 3 1 (.slice A i c) i ((eZ s i).map (I M))*(aa X #[.pointer (N (Y b 0 H))] 222*(aa b #[.pointer (N (Y f 0 H)),.slice A i c] 224*(ai f s2*R)))):=h3.eq (by ac_rfl);clear c0 cl b0 b1 bl h2 h3 hx x3 HT;have c0:=h4.right.cell 0;have cl:=h4.right.lt;obtain⟨b0,b1⟩:=h4.right.right.cells2;have bl:=h4.right.right.lt;have bf:=h4.right.right.free 1;have h4d:ax w3.drew (ct 3 1 (.slice A i c) i ((eZ s i).map (I M))*(aa X #[.pointer (N (Y b 0 H))] 222*(aa b #[.pointer (N (Y f 0 H)),.slice A i c] 224*(ai f s2*R)))):=h4.drew;go_upto_region 9 with fail;have hS0:(fun(L:Array Bool) (w':ag)=>w'.cell? (Y X 0 H)=N (.pointer (N (Y b 0 H)))∧Till 7 4 (fun w'=>w'.cell? (Y b 1 H)=N (.slice A i c)) L w') (Array.replicate 11 O) w3.drew:=⟨h4d.right.cell 0,Till.start (h4d.right.right.cell 1)⟩;refine wy ?_;refine iV (S:=fun L w'=>w'.cell? (Y X 0 H)=N (.pointer (N (Y b 0 H)))∧Till 7 4 (fun w'=>w'.cell? (Y b 1 H)=N (.slice A i c)) L w') (by kernel_rfl) hS0 (fun hHeld=> ?_);clear c0 b0 b1 bf hS0;refine aO (i:=0) (v:= ?_) rfl (by kernel_rfl) (by kernel_rfl) (by kernel_rfl) (fun _ _ _ h=>h) (b8 b3 (b7 (by decide) ⟨_,⟨4,.data⟩,rfl,by simp,rfl,rfl⟩)) (Or.inl ⟨by kernel_rfl,?_⟩) hHeld (fun hHeld=> ?_);rotate_left;focus (intro wS hSw;obtain⟨Lx,hLx,hs1,hs2⟩:=hSw;have cS:=hs1;go_simp;first|done|with_reducible rfl)
    refine aO (i:=1) (v:= ?_) rfl (by kernel_rfl) (by kernel_rfl) (by kernel_rfl) (fun _ _ _ h=>h) (b8 b3 (b7 (by decide) ⟨_,⟨4,.data⟩,rfl,by simp,rfl,rfl⟩)) (Or.inl ⟨by kernel_rfl,?_⟩) hHeld (fun hHeld=> ?_);rotate_left;focus (intro wS hSw;obtain⟨Lx,hLx,hs1,hs2⟩:=hSw;have cS:=hs1;go_simp;first|done|with_reducible rfl)
    refine aO (i:=2) (v:= ?_) rfl (by kernel_rfl) (by kernel_rfl) (by kernel_rfl) (fun _ _ _ h=>h) (b8 b3 (b7 (by decide) ⟨_,⟨4,.data⟩,rfl,by simp,rfl,rfl⟩)) (Or.inl ⟨by kernel_rfl,?_⟩) hHeld (fun hHeld=> ?_);rotate_left;focus (intro wS hSw;obtain⟨Lx,hLx,hs1,hs2⟩:=hSw;skip;go_simp;first|done|with_reducible rfl)
    refine aO (i:=3) (v:= ?_) rfl (by kernel_rfl) (by kernel_rfl) (by kernel_rfl) (fun _ _ _ h=>h) (b8 b3 (b7 (by decide) ⟨_,⟨4,.data⟩,rfl,by simp,rfl,rfl⟩)) (Or.inl ⟨by kernel_rfl,?_⟩) hHeld (fun hHeld=> ?_);rotate_left;focus (intro wS hSw;obtain⟨Lx,hLx,hs1,hs2⟩:=hSw;skip;go_simp;first|done|with_reducible rfl)
    refine aO (i:=4) (v:= ?_) rfl (by kernel_rfl) (by kernel_rfl) (by kernel_rfl) (fun _ _ _ h=>h) (b8 b3 (b7 (by decide) ⟨_,⟨4,.data⟩,rfl,by simp,rfl,rfl⟩)) (Or.inl ⟨by kernel_rfl,?_⟩) hHeld (fun hHeld=> ?_);rotate_left;focus (intro wS hSw;obtain⟨Lx,hLx,hs1,hs2⟩:=hSw;have cS:=hs2.still hLx;go_simp;first|done|with_reducible rfl)
    refine aO (i:=5) (v:= ?_) rfl (by kernel_rfl) (by kernel_rfl) (by kernel_rfl) (fun _ _ _ h=>h) (b8 b3 (b7 (by decide) ⟨_,⟨4,.data⟩,rfl,by simp,rfl,rfl⟩)) (Or.inl ⟨by kernel_rfl,?_⟩) hHeld (fun hHeld=> ?_);rotate_left;focus (intro wS hSw;obtain⟨Lx,hLx,hs1,hs2⟩:=hSw;skip;go_simp;first|done|with_reducible rfl)
    refine aW (rs:=[6]) (by kernel_rfl) (by simp) ?_;refine OneOf.cons rfl (fun K hK=> ?_) OneOf.nil;have k1:=h4d.build #[I M k] 3;try simp only[bs] at k1
    go_simp;refine hK.out _ _ ⟨k1.right.cell 0,⟨fun _=>by kernel_rfl,fun _=>k1.r3.cell 1⟩⟩ (fun hHeld=> ?_);clear hK K;refine aW (rs:=[7]) (by kernel_rfl) (by simp) ?_;refine OneOf.cons rfl (fun K hK=> ?_) OneOf.nil;refine co rfl (.tmp 35) (.tmp 37) 45 rfl underlying45 fK (.slice A i c) i ((eZ s i).map (I M)) (by simp[Act.eval]) k1 (Y w3.drew.heap.size 0 H) 1 1 [I M k] (by simp[Act.eval]) rfl (fF (k1.right.right.cell 0)) (iC k) (by unfold maxLen;omega) (by omega) ?_;intro A' c' w5 k2 y2;try go_simp
    refine hK.out _ _ ⟨k2.right.cell 0,⟨fun _=>by kernel_rfl,fun h=>aS (by kernel_rfl) h⟩⟩ (fun hHeld=> ?_);clear hK K;refine aO (i:=8) (v:= ?_) rfl (by kernel_rfl) (by kernel_rfl) (by kernel_rfl) (fun _ _ _ h=>h) (b8 b3 (b7 (by decide) ⟨_,⟨4,.data⟩,rfl,by simp,rfl,rfl⟩)) (Or.inl ⟨by kernel_rfl,?_⟩) hHeld (fun hHeld=> ?_);rotate_left;focus (intro wS hSw;obtain⟨Lx,hLx,hs1,hs2⟩:=hSw;skip;go_simp;first|done|with_reducible rfl)
    refine aO (i:=9) (v:= ?_) rfl (by kernel_rfl) (by kernel_rfl) (by kernel_rfl) (fun _ _ _ h=>h) (b8 b3 (b7 (by decide) ⟨_,⟨4,.data⟩,rfl,by simp,rfl,rfl⟩)) (Or.inl ⟨by kernel_rfl,?_⟩) hHeld (fun hHeld=> ?_);rotate_left;focus (intro wS hSw;obtain⟨Lx,hLx,hs1,hs2⟩:=hSw;skip;go_simp;first|done|with_reducible rfl)
    have h6:ax w5 (aa b #[.pointer (N (Y f 0 H)),.slice A i c] 224*(aa X #[.pointer (N (Y b 0 H))] 222*(ct 3 1 (.slice A' (i+1) c') (i+1) ((eZ s i).map (I M)++[I M k])*(ai f s2*R)))):=by
     have:=k2.eq (show _=aa w3.drew.heap.size #[I M k] 3*(aa b #[.pointer (N (Y f 0 H)),.slice A i c] 224*(aa X #[.pointer (N (Y b 0 H))] 222*(ct 3 1 (.slice A' (i+1) c') (i+1) ((eZ s i).map (I M)++[I M k])*(ai f s2*R)))) by ac_rfl);exact this.right
    have g0:=h6.lt;have g1:=h6.free 1;have g2:=h6.cell 1;have h7:=(h6.set 1 (.slice A' (i+1) c')).p2;refine aW (rs:=[10]) (by kernel_rfl) (by simp) ?_;refine OneOf.cons rfl (fun K hK=> ?_) OneOf.nil;go_simp;refine hK.out _ _ ⟨h7.cell 0,⟨fun _=>by kernel_rfl,fun h=>aS (by kernel_rfl) h⟩⟩ (fun hHeld=> ?_);clear hK K;refine fD (by kernel_rfl) ?_;clear hHeld;unfold zp;dsimp only;go_wp2_with fail
    go_roundw
    case rel=>exact⟨i+1,A',c',by omega,by omega,by go_num,by rw[HTS.out,HNS.out,List.map_append];exact h7,((x4.drew.alloc _).trans y2).set _ _⟩
    case measure=>simp[b9];omega
  ·obtain rfl:i=n:=by omega
   go_wp2_with fail
   refine sQ (v:=V af) (by simp[results,results150,go_sem]) rfl ?_;exact .inl ⟨hif,A,c,rfl,hr.right,hx⟩
def mC(e size:Nat)(v:a0)(n:Nat)(xs:List a0):ab:=fun h=>
 xs.length=n*size∧
 ((v= .slice H 0 0∧n=0∧h=Hpm.emp)∨
  ∃g off cap cur,v= .slice (N (Y g off H)) n cap∧n≤cap∧cap≤maxLen∧off+cap*size≤cur.size∧(cur.toList.drop off).take (n*size)=xs∧aa g cur e h)
section
variable {w:ag} {R:ab} {e size:Nat} {v:a0} {A:Option b4} {n c:Nat} {xs:List a0}
theorem Has.rowO(h:ax w (ct e size v n xs*R)):ax w (mC e size v n xs*R):=
 h.imp_left fun _ ⟨hl,hx⟩=>⟨hl,hx.imp id fun⟨g,cap,cur,h1,h2,h3,h4,h5,h6⟩=>⟨g,0,cap,cur,h1,h2,h3,by omega,by simpa using h5,h6⟩⟩
theorem Has.rowOCases(h:ax w (Go.Proofs.YtmfheghbgihdmaaGreat.mC e size v n xs*R)):
  (v= .slice H 0 0∧n=0∧xs=[]∧ax w R)∨
  ∃g off cap cur,v= .slice (N (Y g off H)) n cap∧n≤cap∧cap≤maxLen∧off+cap*size≤cur.size∧(cur.toList.drop off).take (n*size)=xs∧ax w (aa g cur e*R):=by
 have hr:=h.right;obtain⟨_,s,h1,h2,d,rfl,⟨hl,h0|⟨g,off,cap,cur,rfl,hn,hc,hs,ht,hb⟩⟩,q⟩:=h
 ·obtain⟨rfl,rfl,rfl⟩:=h0
  exact .inl ⟨rfl,rfl,by simpa using hl,hr⟩
 ·exact .inr ⟨g,off,cap,cur,rfl,hn,hc,hs,ht,_,s,h1,h2,d,rfl,hb,q⟩
theorem Has.rowOLen(h:ax w (Go.Proofs.YtmfheghbgihdmaaGreat.mC e size v n xs*R)):xs.length=n*size:=by
 obtain⟨_,s,h1,h2,d,rfl,⟨hl,_⟩,q⟩:=h;exact hl
theorem Has.rowOForm(h:ax w (Go.Proofs.YtmfheghbgihdmaaGreat.mC e size v n xs*R)):∃A c,v= .slice A n c:=by
 rcases h.rowOCases with ⟨rfl,rfl,_,_⟩|⟨g,off,cap,cur,rfl,_⟩
 ·exact⟨_,_,rfl⟩
 ·exact⟨_,_,rfl⟩
theorem Has.rowOSmall(h:ax w (Go.Proofs.YtmfheghbgihdmaaGreat.mC e size (.slice A n c) n xs*R)):n≤9223372036854775807∧n≤c:=by
 rcases h.rowOCases with ⟨hv,rfl,_,_⟩|⟨g,off,cap,cur,hv,h1,h2,_⟩
 ·omega
 ·injection hv with a b d
  unfold maxLen at h2;omega
theorem Has.rowONil(h:ax w R):ax w (Go.Proofs.YtmfheghbgihdmaaGreat.mC e size (.slice H 0 0) 0 []*R):=(Has.rowNil h).rowO
theorem Has.rowOGet(h:ax w (Go.Proofs.YtmfheghbgihdmaaGreat.mC e size (.slice A n c) n xs*R)){i:Nat}{u:a0}(hu:xs[i]? =N u):
  ∃g off,A=N (Y g off H)∧g<w.heap.size∧w.cell? ⟨g,off+i,H⟩=N u:=by
 have hi:i<xs.length:=(a4.1 hu).1;have hl:=h.rowOLen;rcases h.rowOCases with ⟨hv,rfl,hx,_⟩|⟨g,off,cap,cur,hv,h1,h2,h3,h4,hb⟩
 ·rw[hx] at hi;simp at hi
 ·injection hv with a b d
  refine⟨g,off,a,hb.lt,?_⟩;rw[hb.cell,←hu,←h4,List.getElem?_take,if_pos (by omega),List.getElem?_drop];simp
theorem Has.rowOTail{g off:Nat}(h:ax w (Go.Proofs.YtmfheghbgihdmaaGreat.mC e size (.slice (N (Y g off H)) (n+1) c) (n+1) xs*R)):
  ax w (Go.Proofs.YtmfheghbgihdmaaGreat.mC e size (.slice (if c=1 then N (Y g off H) else N ⟨g,off+size,H⟩) n (c - 1)) n (xs.drop size)*R):=by
 have hl:=h.rowOLen;rcases h.rowOCases with ⟨hv,h0,_,_⟩|⟨g',off',cap,cur,hv,h1,h2,h3,h4,hb⟩
 ·injection hv with a;cases a
 ·injection hv with a b d
  injection a with a
  injection a with a1 a2
  subst a1;subst a2;subst d;have hm:(n+1)*size=n*size+size:=by rw[Nat.succ_mul]
  refine hb.imp_left fun _ hb=>⟨?_,.inr ?_⟩
  ·rw[List.length_drop,hl,hm];omega
  ·have hx:xs.drop size=(cur.toList.drop (off+size)).take (n*size):=by
    rw[←h4,List.drop_take,List.drop_drop,hm,Nat.add_sub_cancel]
   obtain⟨c',rfl⟩:∃c',c=c'+1:=⟨c - 1,by omega⟩;have hm':(c'+1)*size=c'*size+size:=by rw[Nat.succ_mul]
   by_cases hc:c'+1=1
   ·have hn:n=0:=by omega
    subst hn;rw[if_pos hc];refine⟨g,off,_,cur,rfl,by omega,by omega,?_,by simp[hx],hb⟩;have:c'=0:=by omega
    subst this;omega
   ·rw[if_neg hc]
    exact⟨g,off+size,_,cur,rfl,by omega,by omega,by rw[Nat.add_sub_cancel];omega,hx.symm,hb⟩
end
theorem Has.rowORoom{w:ag}{R:ab}{e size g off n m c:Nat}{xs:List a0}(h:ax w (Go.Proofs.YtmfheghbgihdmaaGreat.mC e size (.slice (N (Y g off H)) n c) n xs*R))(news:List a0)(hl:news.length=m*size)(hm:n+m≤c):
  ax (w.setCells g (off+n*size) news) (Go.Proofs.YtmfheghbgihdmaaGreat.mC e size (.slice (N (Y g off H)) (n+m) c) (n+m) (xs++news)*R):=by
 have hxl:=h.rowOLen;rcases h.rowOCases with ⟨hv,h0,_,_⟩|⟨g',off',cap,cur,hv,h1,h2,h3,h4,hb⟩
 ·injection hv with a;cases a
 ·injection hv with a b d
  injection a with a
  injection a with a1 a2
  subst a1;subst a2;subst d;have hmul:(n+m)*size=n*size+m*size:=Nat.add_mul _ _ _;have hcm:(n+m)*size≤c*size:=Nat.mul_le_mul_right _ hm;have key:∀(vs:List a0) (o:Nat) (w:ag) (cur:Array a0),ax w (aa g cur e*R)→o+vs.length≤cur.size→
    ∃cur',cur'.size=cur.size∧cur'.toList=cur.toList.take o++(vs++cur.toList.drop (o+vs.length))∧ax (w.setCells g o vs) (aa g cur' e*R):=by
   intro vs;induction vs with
   |nil=>exact fun o w cur hw _=>⟨cur,rfl,by simp,hw⟩
   |cons v r ih=>
    intro o w cur hw ho;simp only[List.length_cons] at ho;obtain⟨cur',hs,ht,hw'⟩:=ih (o+1) _ _ (hw.set o v) (by simp;omega);refine⟨cur',by rw[hs];simp,?_,hw'⟩;rw[ht,Array.toList_setIfInBounds,List.drop_set_of_lt (by omega),List.take_succ_eq_append_getElem (by simp;omega),List.getElem_set_self,List.take_set_of_le (Nat.le_refl o),List.append_assoc];simp only[List.length_cons,List.cons_append,List.nil_append];rw[show o+1+r.length=o+(r.length+1) by omega]
  obtain⟨cur',hs,ht,hw'⟩:=key news (off+n*size) w cur hb (by rw[hl];omega);refine hw'.imp_left fun _ hb=>⟨by rw[List.length_append,hxl,hl,hmul],.inr ⟨g,off,c,cur',rfl,hm,h2,by omega,?_,hb⟩⟩;have hcs:cur.toList.length=cur.size:=Array.length_toList;have e1:(cur'.toList.drop off).take (n*size)=xs:=by
   rw[ht,List.drop_append_of_le_length (by rw[List.length_take];omega),List.take_append_of_le_length (by rw[List.length_drop,List.length_take];omega),List.drop_take,←h4,List.take_take];congr 1
   omega
  rw[hmul,List.take_add,e1,List.drop_drop,ht,List.drop_append,List.drop_eq_nil_of_le (by rw[List.length_take];omega),List.nil_append,List.length_take,show off+n*size - min (off+n*size) cur.toList.length=0 by omega,List.drop_zero,
   List.take_append_of_le_length (by omega),List.take_of_length_le (by omega)]
section
variable {P:Program} {w:ag} {R:ab}
theorem ju{t ty e:TypeId}{z:a0}{size bytes:Nat}(hT:P.underlying t=N (.slice e))(hE:jD P e z size bytes)
  (v:a0) (n:Nat) (xs:List a0) (h:ax w (mC e size v n xs*R))
  (ad:b4) (m c:Nat) (news:List a0) (hl:news.length=m*size) (hnews:∀j u,news[j]? =N u→w.cell? (ad.add j)=N u) (h1:∀u∈news,u.oneCell'=af)
  (h63:n+m≤maxLen) (hbytes:(n+m)*bytes≤140737488355328):
  ∃A c' w',(Builtin.append_ #[t,t] ty #[v,.slice (N ad) m c]).run P w= .ok (.slice A (n+m) c') w'∧ax w' (mC e size (.slice A (n+m) c') (n+m) (xs++news)*R)∧bz w w':=by
 obtain⟨i,hi,hz,hs,hb⟩:=info_parts hE.info;have grown:∀{v' w'},w'.ownsRow w.heap.size e size v' (n+m) (xs++news)→w.grownBy w' H→∃A c',v'= .slice A (n+m) c'∧ax w' (mC e size (.slice A (n+m) c') (n+m) (xs++news)*R)∧bz w w':=by
  intro v' w' r1 r2;have hge:∀k,v'.ownBlock=N k→w.heap.size≤k:=by
   intro k hk;rcases r1.2 with ⟨rfl,_⟩|⟨g,cap,cur,rfl,hg,_⟩
   ·simp[Value.ownBlock] at hk
   ·simp[Value.ownBlock] at hk;omega
  have h2:=(Has.rowNil (e:=e) (size:=size) h.right).rowGrown r1 r2 (.inr hge);obtain⟨A,c',rfl⟩:∃A c',v'= .slice A (n+m) c':=by
   rcases h2.rowCases with ⟨hv,hn,_,_⟩|⟨g,cap,cur,hv,_⟩
   ·exact⟨H,0,by rw[hv,hn]⟩
   ·exact⟨_,_,hv⟩
  exact⟨A,c',rfl,h2.rowO,(bd w).grown r2⟩
 rcases h.rowOCases with ⟨rfl,rfl,rfl,hR⟩|⟨g,off,cap,cur,rfl,hn,hc,hsz,ht,hB⟩
 ·obtain⟨v',w',hrun,r1,r2,_⟩:=run_append_own (P:=P) w w.heap.size t ty e i z size bytes hT hi hz hs hb hE.cells hE.pos (.slice H 0 0) 0 [] (World.ownsRow_nil w _ e size) ad m c news hl hnews h1 h63 hbytes (Nat.le_refl _)
  obtain⟨A,c',rfl,h2,h3⟩:=grown r1 r2;exact⟨A,c',w',hrun,h2,h3⟩
 ·have hxl:=h.rowOLen
  have hget:∀j u,xs[j]? =N u→w.cell? ⟨g,off+j,H⟩=N u:=fun j u hu=>by
   obtain⟨g',off',hA,_,hc⟩:=h.rowOGet hu;injection hA with hA
   injection hA with a1 a2
   subst a1;subst a2;exact hc
  by_cases hroom:n+m≤cap
  ·have hcm:(n+m)*size≤cap*size:=Nat.mul_le_mul_right _ hroom
   have hmul:(n+m)*size=n*size+m*size:=Nat.add_mul _ _ _;have hrun:=run_append_room_cells (P:=P) w t ty e i hT hi g off n cap ad m c news (by rw[hs];exact hl) hnews h1 hroom
    (fun j hj=>by rw[hs,hB.cell,Array.getElem?_eq_getElem (by omega)];rfl) (fun j _=>hB.free _)
   rw[hs] at hrun;refine⟨_,_,_,hrun,h.rowORoom news hl hroom,?_⟩;have:∀(vs:List a0) (o:Nat) {w':ag},bz w w'→bz w (w'.setCells g o vs):=by
    intro vs;induction vs with
    |nil=>exact fun _ _ h=>h
    |cons v r ih=>exact fun o _ h=>ih (o+1) (h.set _ _)
   exact this _ _ (bd w)
  ·obtain⟨v',w',hrun,r1,r2⟩:=run_append_arg_grows (P:=P) w t ty e i z size bytes hT hi hz hs hb hE.cells hE.pos (Y g off H) n cap xs hxl (fun j u hj=>by rw[Addr.add_lit];exact hget j u hj) ad m c news hl hnews (by omega) h63 hbytes
   obtain⟨A,c',rfl,h2,h3⟩:=grown r1 r2;exact⟨A,c',w',hrun,h2,h3⟩
theorem iW{ops:Array Oper}{o:Oper}{a:Act}{K:Act→ag→Prop}{Q:Exit→Act→ag→Prop}{E:Prop}
  (hg:o.guard=H) (s x:Operand) (t:TypeId) (hop:o.op=Op.call {callee:=Callee.builtin Builtin.append,args:= #[s,x],argTypes:= #[t,t]})
  {e:TypeId} {z:a0} {size bytes:Nat} (hT:P.underlying t=N (.slice e)) (hE:jD P e z size bytes)
  (v:a0) (n:Nat) (xs:List a0) (hs:a.eval s=v) (h:ax w (mC e size v n xs*R))
  (ad:b4) (m c:Nat) (news:List a0) (hx:a.eval x= .slice (N ad) m c) (hl:news.length=m*size) (hnews:∀j u,news[j]? =N u→w.cell? (ad.add j)=N u) (h1:∀u∈news,u.oneCell'=af)
  (h63:n+m≤maxLen) (hbytes:(n+m)*bytes≤140737488355328)
  (hK:∀A c w',ax w' (mC e size (.slice A (n+m) c) (n+m) (xs++news)*R)→bz w w'→K (a.put o.dst (.slice A (n+m) c)) w'):
  if Region.wanted o (yielded ops a.tmps)=af then Oper.wp P o a w K Q else E:=by
 have hw:Region.wanted o (yielded ops a.tmps)=af:=by simp[Region.wanted,hg]
 rw[if_pos hw];obtain⟨A,c',w',hrun,h2,h3⟩:=ju (ty:=o.type) hT hE v n xs h ad m c news hl hnews h1 h63 hbytes;unfold Oper.wp;simp[execOp,hop,resolve,invoke,builtin,hs,hx,hrun,Result.andThen];exact hK A c' w' h2 h3
theorem kC{ops:Array Oper}{rest:List Oper}{o:Oper}{a:Act}{Q:Exit→Act→ag→Prop}(hgd:o.guard=H)(s x:Operand)(t:TypeId)
  (ho:o.op= .call {callee:= .builtin .append,args:= #[s,x],argTypes:= #[t,t]}) {e:TypeId} {z:a0} {size bytes:Nat} (hT:P.underlying t=N (.slice e)) (hE:jD P e z size bytes)
  (v:a0) (n:Nat) (xs:List a0) (hs:a.eval s=v) (h:ax w (mC e size v n xs*R))
  (ad:b4) (m c:Nat) (news:List a0) (hx:a.eval x= .slice (N ad) m c) (hl:news.length=m*size) (hnews:∀j u,news[j]? =N u→w.cell? (ad.add j)=N u) (h1:∀u∈news,u.oneCell'=af)
  (h63:n+m≤maxLen) (hbytes:(n+m)*bytes≤140737488355328)
  (hk:∀A c w',ax w' (mC e size (.slice A (n+m) c) (n+m) (xs++news)*R)→bz w w'→wpList P ops Q rest (a.put o.dst (.slice A (n+m) c)) w'):wpList P ops Q (o::rest) a w:=
 wpList_plain hgd fun _ hK=>by
  obtain⟨A,c',w',hr,h2,h3⟩:=ju (ty:=o.type) hT hE v n xs h ad m c news hl hnews h1 h63 hbytes;unfold Oper.wp execOp;simp only[ho,resolve,invoke,builtin,Sem.run_bind,Sem.run_pure,Result.andThen_ok,List.map_toArray,List.map_cons,List.map_nil,hs,hx,hr];exact hK _ _ (hk A c' w' h2 h3)
end
theorem mD{P:Program}{w:ag}{R:ab}{t ty e:TypeId}{z:a0}{size bytes:Nat}(hT:P.underlying t=N (.slice e))(hE:jD P e z size bytes)
  (v:a0) (n:Nat) (xs:List a0) (u:a0) (m:Nat) (ys:List a0) (h:ax w (ct e size v n xs*(ct e size u m ys*R))) (h1:∀y∈ys,y.oneCell'=af)
  (h63:n+m≤maxLen) (hbytes:(n+m)*bytes≤140737488355328):
  ∃A c w',(Builtin.append_ #[t,t] ty #[v,u]).run P w= .ok (.slice A (n+m) c) w'∧ax w' (ct e size (.slice A (n+m) c) (n+m) (xs++ys)*(ct e size u m ys*R))∧bz w w':=by
 rcases h.p2.rowCases with ⟨rfl,rfl,rfl,_⟩|⟨g,cap,cur,rfl,_⟩
 ·obtain⟨i,hi,_,hsz,_⟩:=info_parts hE.info
  obtain⟨A,c,rfl⟩:=h.rowForm;exact⟨A,c,w,run_append_owned_none (P:=P) (w:=w) 0 t ty e i size hT hi (.slice A n c) n xs h.ownsRow,by simpa using h,bd w⟩
 ·have hget:=fun j y (hy:ys[j]? =N y)=>h.p2.rowGet hy
  have hl:=h.p2.rowLens.1;obtain⟨v',w',hr,h2,x2⟩:=io (ty:=ty) hT hE v n xs h (Y g 0 H) m cap ys hl (fun j y hy=>by
   obtain⟨g',hg',_,hc,_⟩:=hget j y hy;injection hg' with hg'
   injection hg' with hg'
   subst hg';rw[Addr.add_lit,Nat.zero_add];exact hc) h1 h63 hbytes
  have hf:∃A c,v'= .slice A (n+m) c:=by
   rcases h2.rowCases with ⟨hv,hn,_,_⟩|⟨g,cap,cur,hv,_⟩
   ·exact⟨H,0,by rw[hv,hn]⟩
   ·exact⟨_,_,hv⟩
  obtain⟨A,c,rfl⟩:=hf;exact⟨A,c,w',hr,h2,x2⟩
theorem lR{P:Program}{ops:Array Oper}{o:Oper}{a:Act}{w:ag}{R:ab}{K:Act→ag→Prop}{Q:Exit→Act→ag→Prop}{E:Prop}
  (hg:o.guard=H) (s x:Operand) (t:TypeId) (hop:o.op=Op.call {callee:=Callee.builtin Builtin.append,args:= #[s,x],argTypes:= #[t,t]})
  {e:TypeId} {z:a0} {size bytes:Nat} (hT:P.underlying t=N (.slice e)) (hE:jD P e z size bytes)
  (v:a0) (n:Nat) (xs:List a0) (hs:a.eval s=v) (u:a0) (m:Nat) (ys:List a0) (hx:a.eval x=u) (h:ax w (ct e size v n xs*(ct e size u m ys*R))) (h1:∀y∈ys,y.oneCell'=af)
  (h63:n+m≤maxLen) (hbytes:(n+m)*bytes≤140737488355328)
  (hK:∀A c w',ax w' (ct e size (.slice A (n+m) c) (n+m) (xs++ys)*(ct e size u m ys*R))→bz w w'→K (a.put o.dst (.slice A (n+m) c)) w'):
  if Region.wanted o (yielded ops a.tmps)=af then Oper.wp P o a w K Q else E:=by
 have hw:Region.wanted o (yielded ops a.tmps)=af:=by simp[Region.wanted,hg]
 rw[if_pos hw];obtain⟨A,c,w',hrun,h2,h3⟩:=mD (ty:=o.type) hT hE v n xs u m ys h h1 h63 hbytes;unfold Oper.wp;simp[execOp,hop,resolve,invoke,builtin,hs,hx,hrun,Result.andThen];exact hK A c w' h2 h3
theorem pN(l:List Int):∀u∈l.map (I M),u.oneCell'=af:=by
 intro u hu;obtain⟨x,_,rfl⟩:=List.mem_map.1 hu;rfl
def wA(l:List Int)(w:ag)(e:Ending)(w':ag):Prop:=∃A n c,e= .returned (.slice A n c)∧ax w' (ao (.slice A n c) l*bE w w.heap.size)∧bz w w'
theorem nS(l:List Int)(A:Option b4)(n c:Nat)(R:ab)(w:ag)(hs:l.length≤1000000)(h:ax w (ao (.slice A n c) l*R)):
  bk prog 151 #[.slice A n c] w (wA l w):=by
 have q22:∀(w:ag) (a:Option b4) (n c n' c':Nat),(binOp .eql 45 (.slice a n c) (.slice H n' c')).run prog w= .ok (.bool a.isNone) w:=fun w a n c n' c'=>Lib.run_eql_slice_nil w _ _ a n c n' c' underlying45;have hl0:=cT h;subst hl0;cases A with
 |none=>
  have h0:l=[]∧c=0:=by
   rcases Has.rowCases (e:=3) (size:=1) h with ⟨hv,h0,_⟩|⟨g,cap,cur,hv,_⟩
   ·injection hv with a b d
    exact⟨List.eq_nil_of_length_eq_zero h0,d⟩
   ·injection hv with a
    cases a
  obtain⟨rfl,rfl⟩:=h0;go_enter func151,ntmps151;go_wp2_with fail
  go_ret;exact⟨H,0,0,rfl,Has.rowNil (aT w),bd _⟩
 |some a=>
  have h0:∃g,a=(Y g 0 H):=by
   rcases Has.rowCases (e:=3) (size:=1) h with ⟨hv,h0,_⟩|⟨g,cap,cur,hv,_⟩
   ·injection hv with a b d
    cases a
   ·injection hv with a
    injection a with a
    exact⟨g,a⟩
  obtain⟨g,rfl⟩:=h0;have h1:=(aT w).new #[] 3;have hrow:ax (w.alloc (.cells #[] 3)) (ct 3 1 (.slice (N (Y w.heap.size 0 H)) 0 0) 0 []*bE w w.heap.size):=h1.rowOf rfl (Nat.le_refl _) (by unfold maxLen;omega) rfl rfl;have hn:=fun k (hk:k<l.length)=>da (h.alloc (.cells #[] 3)) hk;have hne:Hid (∀j u,(l.map (I M))[j]? =N u→(w.alloc (.cells #[] 3)).cell? (((Y g 0 H):b4).add j)=N u):=fun j u hu=>by
   rw[Addr.add_lit,Nat.zero_add];obtain⟨hj,e⟩:=a4.1 hu;have hj':j<l.length:=by simpa using hj
   obtain⟨b,e1,_,hc⟩:=hn j hj';injection e1 with e1
   injection e1 with e1
   subst e1;rw[hc,←e];simp
  have x1:=(bd w).alloc (.cells #[] 3);have hml:Hid ((l.map (I M)).length =l.length*1):=U (by simp);clear hn h1 h;go_enter func151,ntmps151;go_wp2_with(at_builtin;refine aV rfl _ _ 45 rfl underlying45 fK _ _ _ rfl hrow (Y g 0 H) l.length c (l.map (I M)) rfl hml.out hne.out (pN l) ?c2 ?c3 ?_)
  case c2=>unfold maxLen;omega
  case c3=>omega
  intro v' w2 h' x';obtain⟨A',c',rfl⟩:=h'.rowForm;have h2:ax w2 (ao (.slice A' l.length c') l*bE w w.heap.size):=h';go_wp2_with fail
  go_ret;exact⟨A',_,c',rfl,h2,x1.trans x'⟩
def ia(f:Nat)(s:Ms)(r:Int)(x:Mp)(R:ab)(w:ag)(e:Ending)(w':ag):Prop:=
 ∃s',s'.Ok∧b6 s' (dR s r x)∧cR (I M (cU s r x)) (ai f s'*R) w e w'
theorem lV{s:Ms}{r:Int}{x:Mp}(h:cU s r x≠0):dR s r x=s:=by unfold dR;rw[if_neg h]
set_option maxHeartbeats 8000000 in
theorem Av(f:Nat)(s:Ms)(root:Int)(x:Mp)(R:ab)(w:ag)(hs:s.Ok)(h:ax w (ai f s*R)):
  bk prog 97 #[.pointer (N (Y f 0 H)),I M root,.agg #[I M x.page,I M x.size,I M x.frame,I M x.rights]] w (ia f s root x R w):=by
 have h0:=h.new #[I M x.page,I M x.size,I M x.frame,I M x.rights] 39;have x0:=(bd w).alloc (.cells #[I M x.page,I M x.size,I M x.frame,I M x.rights] 39);have HC:=U (j3 x);by_cases hck:bc x=0
 case neg=>
  have hic:cU s root x=bc x:=by unfold cU;rw[if_pos hck]
  have HI:=U (And.intro hic (lV (s:=s) (r:=root) (x:=x) (by rw[hic];exact hck)));have hn:(bc x !=0)=af:=by simpa using hck
  unfold ia;rw[HI.out.1,HI.out.2];generalize bc x=cx at*
  clear hck h hic;obtain⟨c0,c1,c2,c3⟩:=h0.cells4;go_enter func97,ntmps97;go_wp2_with fail
  refine(HC.out _).mono ?_;rintro e w2 ⟨rfl,b2⟩;go_wp2_with fail
  go_ret;exact⟨s,hs,Agree.refl s,rfl,(h0.right.below b2),x0.below b2⟩
 obtain⟨hp,z,hz0,hz2⟩:=nA hck;have HZ:=U hz0;clear hz0;have W1:=U (fun w' (h:ax w' (ai f s*(aa w.heap.size #[I M x.page,I M x.size,I M x.frame,I M x.rights] 39*R)))=>pI f s root x.page _ w' hs h);rw[hck] at HC;by_cases hcode:(bi s root x.page).code =0
 case neg=>
  have hic:cU s root x=(bi s root x.page).code :=by unfold cU;rw[if_neg (by rw[hck];simp),if_pos hcode]
  have HI:=U (And.intro hic (lV (s:=s) (r:=root) (x:=x) (by rw[hic];exact hcode)));unfold ia;rw[HI.out.1,HI.out.2];clear hic hck h;generalize bi s root x.page=y at*
  have hn:(y.code !=0)=af:=by simpa using hcode
  clear hcode;obtain⟨c0,c1,c2,c3⟩:=h0.cells4;have cl:=h0.lt;go_enter func97,ntmps97;go_wp2_with fail
  refine(HC.out _).mono ?_;rintro e w2 ⟨rfl,b2⟩;have h2:=h0.below b2;have x2:=x0.below b2;clear h0 x0 b2 c0 c1 c2 c3 cl;obtain⟨c0,c1,c2,c3⟩:=h2.cells4;have cl:=h2.lt;go_wp2_with fail
  refine(W1.out _ h2.p2).mono ?_;rintro e w3 hF;obtain⟨A,B,c,d,rfl,h3,x3⟩:∃(A B:Option b4) (c d:Nat),e= .returned (.tuple #[.agg #[I M y.lev,V y.e.there,V y.e.leaf,I M y.e.rights,V y.e.used,V y.e.dirty,I M y.e.frame,.slice A y.tabs.length c,.slice B y.tabs.length d],I M y.code])∧ax w3 (ao (.slice A y.tabs.length c) y.tabs*(ao (.slice B y.tabs.length d) (aH x.page y.tabs.length)*bE w2 w2.heap.size))∧bz w2 w3:=hF;have h4:=((h2.onto' (h3.a2)).a1).right.right.right;go_wp2_with fail
  go_ret;exact⟨s,hs,Agree.refl s,rfl,h4.alloc _,(x2.trans x3).alloc _⟩
 by_cases hbad:(bi s root x.page).e.there =af∨(bi s root x.page).lev <x.size
 case pos=>
  have hic:cU s root x=4:=by unfold cU;rw[if_neg (by rw[hck];simp),if_neg (by rw[hcode];simp),if_pos hbad]
  have HI:=U (And.intro hic (lV (s:=s) (r:=root) (x:=x) (by rw[hic];decide)));unfold ia;rw[HI.out.1,HI.out.2];clear hic hck h;generalize bi s root x.page=y at*
  obtain⟨code,tabs,a7,th,lf,rg,us,di,fr⟩:=y;dsimp only at*
  subst hcode;cases th with
  |true=>
   clear hbad;obtain⟨c0,c1,c2,c3⟩:=h0.cells4;have cl:=h0.lt;go_enter func97,ntmps97;go_wp2_with fail
   refine(HC.out _).mono ?_;rintro e w2 ⟨rfl,b2⟩;have h2:=h0.below b2;have x2:=x0.below b2;clear h0 x0 b2 c0 c1 c2 c3 cl;obtain⟨c0,c1,c2,c3⟩:=h2.cells4;have cl:=h2.lt;go_wp2_with fail
   refine(W1.out _ h2.p2).mono ?_;rintro e w3 hF;obtain⟨A,B,c,d,rfl,h3,x3⟩:∃(A B:Option b4) (c d:Nat),e= .returned (.tuple #[.agg #[I M a7,V af,V lf,I M rg,V us,V di,I M fr,.slice A tabs.length c,.slice B tabs.length d],I M 0])∧ax w3 (ao (.slice A tabs.length c) tabs*(ao (.slice B tabs.length d) (aH x.page tabs.length)*bE w2 w2.heap.size))∧bz w2 w3:=hF;have h5:ax _ (aa w3.heap.size #[I M a7,V af,V lf,I M rg,V us,V di,I M fr,.slice A tabs.length c,.slice B tabs.length d] 206*(ao (.slice A tabs.length c) tabs*(ao (.slice B tabs.length d) (aH x.page tabs.length)*(aa w.heap.size #[I M x.page,I M x.size,I M x.frame,I M x.rights] 39*(ai f s*R))))):=((h2.onto' (h3.a2)).a1).new #[I M a7,V af,V lf,I M rg,V us,V di,I M fr,.slice A tabs.length c,.slice B tabs.length d] 206;have x5:=(x2.trans x3).alloc (.cells #[I M a7,V af,V lf,I M rg,V us,V di,I M fr,.slice A tabs.length c,.slice B tabs.length d] 206);clear h2 x2 h3 x3 c0 c1 c2 c3 cl W1 HC;go_upto_region 5 with fail;generalize w3.alloc _=w5 at*
   generalize w3.heap.size=X1 at*
   generalize w.heap.size=X0 at*
   obtain⟨c0,c1,c2,c3⟩:=h5.r3.cells4;have cl:=h5.r3.lt;obtain⟨k0,k1,k2,k3,k4,k5,k6,k7,k8⟩:=h5.cells9;have kl:=h5.lt;go_wp2_with fail
   go_ret;exact⟨s,hs,Agree.refl s,rfl,h5.right.r3,x5⟩
  |false=>
   have hlt:a7<x.size:=by rcases hbad with h|h;· cases h
                          ·exact h
   clear hbad;obtain⟨c0,c1,c2,c3⟩:=h0.cells4;have cl:=h0.lt;go_enter func97,ntmps97;go_wp2_with fail
   refine(HC.out _).mono ?_;rintro e w2 ⟨rfl,b2⟩;have h2:=h0.below b2;have x2:=x0.below b2;clear h0 x0 b2 c0 c1 c2 c3 cl;obtain⟨c0,c1,c2,c3⟩:=h2.cells4;have cl:=h2.lt;go_wp2_with fail
   refine(W1.out _ h2.p2).mono ?_;rintro e w3 hF;obtain⟨A,B,c,d,rfl,h3,x3⟩:∃(A B:Option b4) (c d:Nat),e= .returned (.tuple #[.agg #[I M a7,V O,V lf,I M rg,V us,V di,I M fr,.slice A tabs.length c,.slice B tabs.length d],I M 0])∧ax w3 (ao (.slice A tabs.length c) tabs*(ao (.slice B tabs.length d) (aH x.page tabs.length)*bE w2 w2.heap.size))∧bz w2 w3:=hF;have h5:ax _ (aa w3.heap.size #[I M a7,V O,V lf,I M rg,V us,V di,I M fr,.slice A tabs.length c,.slice B tabs.length d] 206*(ao (.slice A tabs.length c) tabs*(ao (.slice B tabs.length d) (aH x.page tabs.length)*(aa w.heap.size #[I M x.page,I M x.size,I M x.frame,I M x.rights] 39*(ai f s*R))))):=((h2.onto' (h3.a2)).a1).new #[I M a7,V O,V lf,I M rg,V us,V di,I M fr,.slice A tabs.length c,.slice B tabs.length d] 206;have x5:=(x2.trans x3).alloc (.cells #[I M a7,V O,V lf,I M rg,V us,V di,I M fr,.slice A tabs.length c,.slice B tabs.length d] 206);clear h2 x2 h3 x3 c0 c1 c2 c3 cl W1 HC;go_upto_region 5 with fail;generalize w3.alloc _=w5 at*
   generalize w3.heap.size=X1 at*
   generalize w.heap.size=X0 at*
   obtain⟨c0,c1,c2,c3⟩:=h5.r3.cells4;have cl:=h5.r3.lt;obtain⟨k0,k1,k2,k3,k4,k5,k6,k7,k8⟩:=h5.cells9;have kl:=h5.lt;go_wp2_with fail
   go_ret;exact⟨s,hs,Agree.refl s,rfl,h5.right.r3,x5⟩
 obtain⟨_,n,hn,hn3,hl,hu⟩:=fb hcode
 have hth:(bi s root x.page).e.there =O:=by cases h:(bi s root x.page).e.there;· rfl
                                            ·exact absurd (.inl h) hbad
 have hls:¬((bi s root x.page).lev <x.size):=fun h=>hbad (.inr h);obtain⟨m,hm⟩:∃m:Nat,n+m+z=3:=⟨3 - n - z,by have:=HZ.out;omega⟩;have HT:=U (fun b R w h=>zr b f s hs m (by omega) R w h);unfold zq at HT;by_cases hfull:s.frees.length<m
 case pos=>
  have hic:cU s root x=6:=by
   unfold cU;rw[if_neg (by rw[hck];simp),if_neg (by rw[hcode];simp),if_neg hbad,if_pos (by have:=HZ.out;omega)]
  have HI:=U (And.intro hic (lV (s:=s) (r:=root) (x:=x) (by rw[hic];decide)));unfold ia;rw[HI.out.1,HI.out.2];have hmm:(bi s root x.page).lev - x.size=(m:Int):=by have:=HZ.out;omega
  have HN:=U hn;clear hic hck h hu hn hl;generalize bi s root x.page=y at*
  obtain⟨code,tabs,a7,th,lf,rg,us,di,fr⟩:=y;dsimp only at*
  subst hcode hth;clear hbad;obtain⟨c0,c1,c2,c3⟩:=h0.cells4;have cl:=h0.lt;go_enter func97,ntmps97;go_wp2_with fail
  refine(HC.out _).mono ?_;rintro e w2 ⟨rfl,b2⟩;have h2:=h0.below b2;have x2:=x0.below b2;clear h0 x0 b2 c0 c1 c2 c3 cl;obtain⟨c0,c1,c2,c3⟩:=h2.cells4;have cl:=h2.lt;go_wp2_with fail
  refine(W1.out _ h2.p2).mono ?_;rintro e w3 hF;obtain⟨A,B,c,d,rfl,h3,x3⟩:∃(A B:Option b4) (c d:Nat),e= .returned (.tuple #[.agg #[I M a7,V O,V lf,I M rg,V us,V di,I M fr,.slice A tabs.length c,.slice B tabs.length d],I M 0])∧ax w3 (ao (.slice A tabs.length c) tabs*(ao (.slice B tabs.length d) (aH x.page tabs.length)*bE w2 w2.heap.size))∧bz w2 w3:=hF;have h5:ax _ (aa w3.heap.size #[I M a7,V O,V lf,I M rg,V us,V di,I M fr,.slice A tabs.length c,.slice B tabs.length d] 206*(ao (.slice A tabs.length c) tabs*(ao (.slice B tabs.length d) (aH x.page tabs.length)*(aa w.heap.size #[I M x.page,I M x.size,I M x.frame,I M x.rights] 39*(ai f s*R))))):=((h2.onto' (h3.a2)).a1).new #[I M a7,V O,V lf,I M rg,V us,V di,I M fr,.slice A tabs.length c,.slice B tabs.length d] 206;have x5:=(x2.trans x3).alloc (.cells #[I M a7,V O,V lf,I M rg,V us,V di,I M fr,.slice A tabs.length c,.slice B tabs.length d] 206);clear h2 x2 h3 x3 c0 c1 c2 c3 cl W1 HC;go_upto_region 5 with fail;generalize w3.alloc _=w5 at*
  generalize w3.heap.size=X1 at*
  generalize w.heap.size=X0 at*
  obtain⟨c0,c1,c2,c3⟩:=h5.r3.cells4;have cl:=h5.r3.lt;obtain⟨k0,k1,k2,k3,k4,k5,k6,k7,k8⟩:=h5.cells9;have kl:=h5.lt;have h6:=h5.new #[.pointer (N (Y f 0 H)),.slice H 0 0] 224;have x6:=x5.alloc (.cells #[.pointer (N (Y f 0 H)),.slice H 0 0] 224);go_upto_region 10 with fail;generalize w5.alloc _=w6 at*
  generalize w5.heap.size=Xb at*
  clear h5 x5 c0 c1 c2 c3 cl k0 k1 k2 k3 k4 k5 k6 k7 k8 kl;obtain⟨k0,k1,k2,k3,k4,k5,k6,k7,k8⟩:=h6.right.cells9;have kl:=h6.right.lt;obtain⟨c0,c1,c2,c3⟩:=h6.right.r3.cells4;have cl:=h6.right.r3.lt;have hmw:IntKind.i64.wrap (m:Int)=(m:Int):=by rw[a6];omega
  have hmw2:IntKind.i64.wrap (a7 - x.size)=(m:Int):=by rw[hmm];exact hmw
  have h7:ax w6 (aa Xb #[.pointer (N (Y f 0 H)),.slice H 0 0] 224*(ai f s*(aa X1 #[I M a7,V O,V lf,I M rg,V us,V di,I M fr,.slice A tabs.length c,.slice B tabs.length d] 206*(ao (.slice A tabs.length c) tabs*(ao (.slice B tabs.length d) (aH x.page tabs.length)*(aa X0 #[I M x.page,I M x.size,I M x.frame,I M x.rights] 39*R)))))):=h6.eq (by ac_rfl);go_wp2_with fail
  refine(HT.out _ _ _ h7).mono ?_;rintro e w7 hF;rcases hF with ⟨hle,_⟩|⟨_,s',hs',hag,rfl,h8,x8⟩
  ·exact absurd hle (by omega)
  ·go_wp2_with fail
   go_ret;exact⟨s',hs',hag,rfl,h8.eq (show _=aa X1 #[I M a7,V O,V lf,I M rg,V us,V di,I M fr,.slice A tabs.length c,.slice B tabs.length d] 206*(ao (.slice A tabs.length c) tabs*(ao (.slice B tabs.length d) (aH x.page tabs.length)*(aa X0 #[I M x.page,I M x.size,I M x.frame,I M x.rights] 39*(ai f s'*R)))) by ac_rfl) |>.right.right.right.right,x6.trans x8⟩
 have hic:cU s root x=0:=by
  unfold cU;rw[if_neg (by rw[hck];simp),if_neg (by rw[hcode];simp),if_neg hbad,if_neg (by have:=HZ.out;omega)]
 have HAT:InsAt s root x n m z:=⟨hcode,hp,hn,hl,HZ.out,hm,by omega⟩;have HFIN:=U (HAT.fin hs hic);have HLAST:=U (fun t ht σ lw=>HAT.last (t:=t) ht σ lw);have HSTEP:=U (fun j t k ht hk σ lw=>HAT.step (j:=j) (t:=t) (k:=k) ht hk σ lw);have HSTO:=U (fun σ hσ j t hj v=>HAT.store hs (σ:=σ) hσ (j:=j) (t:=t) hj v);have HALN:=U HAT.all_len;have HAL:=U (show iB s root x m=(bi s root x.page).tabs ++eZ s m from rfl);have HOKF:=U (fun(l:List Int)=>vQ (gG hs m) x.page (iy (dq x) x.size) z l);have HHAS:=U (fun(l:List Int) (u:Int)=>se (a8 s m) x.page (bq (dq x) x.size) z u l);have HIC:=U hic;have HN:=U hn;have hmm:(bi s root x.page).lev - x.size=(m:Int):=by have:=HZ.out;omega
 have htl:=jQ s m;unfold ia;rw[HIC.out];generalize dR s root x=sF at*
 generalize iB s root x m=al at*
 generalize eZ s m=tp at*
 clear HAT hic hck h hu hn HIC;generalize bi s root x.page=y at*
 obtain⟨code,tabs,a7,th,lf,rg,us,di,fr⟩:=y;dsimp only at*
 subst hcode hth;have HLV:=U hl;clear hbad hl;obtain⟨c0,c1,c2,c3⟩:=h0.cells4;have cl:=h0.lt;go_enter func97,ntmps97;go_wp2_with fail
 refine(HC.out _).mono ?_;rintro e w2 ⟨rfl,b2⟩;have h2:=h0.below b2;have x2:=x0.below b2;clear h0 x0 b2 c0 c1 c2 c3 cl;obtain⟨c0,c1,c2,c3⟩:=h2.cells4;have cl:=h2.lt;go_wp2_with fail
 refine(W1.out _ h2.p2).mono ?_;rintro e w3 hF;obtain⟨A,B,c,d,rfl,h3,x3⟩:∃(A B:Option b4) (c d:Nat),e= .returned (.tuple #[.agg #[I M a7,V O,V lf,I M rg,V us,V di,I M fr,.slice A tabs.length c,.slice B tabs.length d],I M 0])∧ax w3 (ao (.slice A tabs.length c) tabs*(ao (.slice B tabs.length d) (aH x.page tabs.length)*bE w2 w2.heap.size))∧bz w2 w3:=hF;have h5:ax _ (aa w3.heap.size #[I M a7,V O,V lf,I M rg,V us,V di,I M fr,.slice A tabs.length c,.slice B tabs.length d] 206*(ao (.slice A tabs.length c) tabs*(ao (.slice B tabs.length d) (aH x.page tabs.length)*(aa w.heap.size #[I M x.page,I M x.size,I M x.frame,I M x.rights] 39*(ai f s*R))))):=((h2.onto' (h3.a2)).a1).new #[I M a7,V O,V lf,I M rg,V us,V di,I M fr,.slice A tabs.length c,.slice B tabs.length d] 206;have x5:=(x2.trans x3).alloc (.cells #[I M a7,V O,V lf,I M rg,V us,V di,I M fr,.slice A tabs.length c,.slice B tabs.length d] 206);clear h2 x2 h3 x3 c0 c1 c2 c3 cl W1 HC;go_upto_region 5 with fail;generalize w3.alloc _=w5 at*
 generalize w3.heap.size=X1 at*
 generalize w.heap.size=X0 at*
 obtain⟨c0,c1,c2,c3⟩:=h5.r3.cells4;have cl:=h5.r3.lt;obtain⟨k0,k1,k2,k3,k4,k5,k6,k7,k8⟩:=h5.cells9;have kl:=h5.lt;have h6:=h5.new #[.pointer (N (Y f 0 H)),.slice H 0 0] 224;have x6:=x5.alloc (.cells #[.pointer (N (Y f 0 H)),.slice H 0 0] 224);go_upto_region 10 with fail;generalize w5.alloc _=w6 at*
 generalize w5.heap.size=Xb at*
 clear h5 x5 c0 c1 c2 c3 cl k0 k1 k2 k3 k4 k5 k6 k7 k8 kl;obtain⟨k0,k1,k2,k3,k4,k5,k6,k7,k8⟩:=h6.right.cells9;have kl:=h6.right.lt;obtain⟨c0,c1,c2,c3⟩:=h6.right.r3.cells4;have cl:=h6.right.r3.lt;have hmw:IntKind.i64.wrap (m:Int)=(m:Int):=by rw[a6];omega
 have hmw2:IntKind.i64.wrap (a7 - x.size)=(m:Int):=by rw[hmm];exact hmw
 have h7:ax w6 (aa Xb #[.pointer (N (Y f 0 H)),.slice H 0 0] 224*(ai f s*(aa X1 #[I M a7,V O,V lf,I M rg,V us,V di,I M fr,.slice A tabs.length c,.slice B tabs.length d] 206*(ao (.slice A tabs.length c) tabs*(ao (.slice B tabs.length d) (aH x.page tabs.length)*(aa X0 #[I M x.page,I M x.size,I M x.frame,I M x.rights] 39*R)))))):=h6.eq (by ac_rfl);clear h6;go_wp2_with fail
 refine(HT.out _ _ _ h7).mono ?_;rintro e w7 hF;rcases hF with ⟨_,G,gc,rfl,h8,x8⟩|⟨hle,_⟩
 case inr=>exact absurd hle (by omega)
 have x9:=x6.trans x8;clear h7 x6 x8 HT hmw hmw2 hmm k0 k1 k2 k3 k4 k5 k6 k7 k8 kl c0 c1 c2 c3 cl;have h9:ax w7 (ao (.slice A tabs.length c) tabs*(ct 3 1 (.slice G m gc) m (tp.map (I M))*(aa X1 #[I M a7,V O,V lf,I M rg,V us,V di,I M fr,.slice A tabs.length c,.slice B tabs.length d] 206*(aa Xb #[.pointer (N (Y f 0 H)),.slice G m gc] 224*(ao (.slice B tabs.length d) (aH x.page tabs.length)*(ai f (a8 s m)*(aa X0 #[I M x.page,I M x.size,I M x.frame,I M x.rights] 39*R))))))):=h8.eq (by ac_rfl);clear h8;have hlen1:((tabs.length:Nat):Int) - 1=(n:Int):=by have:=HN.out;omega
 have k7:=h9.right.right.cell 7;have kl:=h9.right.right.lt;have HLN:=U hlen1;clear hlen1;go_upto_region 12 with fail;go_cut [11] from 55 to 59 (fun s11 wx=>s11=I M n∧wx=w7)
 case first=>
  have hlen1:=HLN.out;go_wp2_with fail
  go_meet
  case rel=>exact⟨by first|rfl|(rw[←hlen1];done)|(rw[←hlen1];go_num),rfl⟩
 case rest=>
 obtain⟨rfl,hwr⟩:=hcut;replace hwr:=hwr.symm;subst hwr;have HS:=U (fun(w':ag) (P Q:ab) (h:ax w' (P*(Q*(aa X1 #[I M a7,V O,V lf,I M rg,V us,V di,I M fr,.slice A tabs.length c,.slice B tabs.length d] 206*(aa Xb #[.pointer (N (Y f 0 H)),.slice G m gc] 224*(ao (.slice B tabs.length d) (aH x.page tabs.length)*(ai f (a8 s m)*(aa X0 #[I M x.page,I M x.size,I M x.frame,I M x.rights] 39*R))))))))=>(⟨h.right.right.cell 7,h.r3.cell 1⟩:w'.cell? (Y X1 7 H)=N (.slice A tabs.length c)∧w'.cell? (Y Xb 1 H)=N (.slice G m gc)));have hbl:=h9.r3.lt;have hnt:tabs.length=n+1:=HN.out;have hnt4:tabs.length≤1000000:=by omega
 have hntm:tabs.length+m≤1000000:=by omega
 clear hnt;go_upto_region 13 with fail;go_cut [12] from 59 to 67 (fun s12 wx=>∃(D:Option b4) (dc:Nat),s12= .slice D (tabs.length+m) dc∧ax wx (ct 3 1 (.slice D (tabs.length+m) dc) (tabs.length+m) (tabs.map (I M)++tp.map (I M))*(ao (.slice A tabs.length c) tabs*(ct 3 1 (.slice G m gc) m (tp.map (I M))*(aa X1 #[I M a7,V O,V lf,I M rg,V us,V di,I M fr,.slice A tabs.length c,.slice B tabs.length d] 206*(aa Xb #[.pointer (N (Y f 0 H)),.slice G m gc] 224*(ao (.slice B tabs.length d) (aH x.page tabs.length)*(ai f (a8 s m)*(aa X0 #[I M x.page,I M x.size,I M x.frame,I M x.rights] 39*R))))))))∧bz w wx)
 case first=>
  refine wp_region_held_drew (S:=fun w'=>w'.cell? (Y X1 7 H)=N (.slice A tabs.length c)∧w'.cell? (Y Xb 1 H)=N (.slice G m gc)) (by kernel_rfl) (HS.out _ _ _ h9) (fun hHeld=> ?_);refine wpAnyH_take (i:=0) (v:= ?_) rfl (by kernel_rfl) (by kernel_rfl) (by kernel_rfl) (fun _ _ _ h=>h) (Or.inl ⟨by kernel_rfl,?_⟩) hHeld ?_;rotate_left;focus (intro wS hSw;(try dsimp only at hSw);go_simp;first|done|with_reducible rfl)
  try go_simp
  refine wpAnyH_take (i:=1) (v:= ?_) rfl (by kernel_rfl) (by kernel_rfl) (by kernel_rfl) (fun _ _ _ h=>h) (Or.inl ⟨by kernel_rfl,?_⟩) hHeld ?_;rotate_left;focus (intro wS hSw;(try dsimp only at hSw);go_simp;first|done|with_reducible rfl)
  try go_simp
  refine wpAnyH_take (i:=3) (v:= ?_) rfl (by kernel_rfl) (by kernel_rfl) (by kernel_rfl) (fun _ _ _ h=>h) (Or.inl ⟨by kernel_rfl,?_⟩) hHeld ?_;rotate_left;focus (intro wS hSw;(try dsimp only at hSw);go_simp;first|done|with_reducible rfl)
  try go_simp
  refine wpAnyH_take (i:=4) (v:= ?_) rfl (by kernel_rfl) (by kernel_rfl) (by kernel_rfl) (fun _ _ _ h=>h) (Or.inl ⟨by kernel_rfl,?_⟩) hHeld ?_;rotate_left;focus (intro wS hSw;(try dsimp only at hSw);go_simp;first|done|with_reducible rfl)
  try go_simp
  refine wpAnyH_take (i:=5) (v:= ?_) rfl (by kernel_rfl) (by kernel_rfl) (by kernel_rfl) (fun _ _ _ h=>h) (Or.inl ⟨by kernel_rfl,?_⟩) hHeld ?_;rotate_left;focus (intro wS hSw;(try dsimp only at hSw);go_simp;first|done|with_reducible rfl)
  try go_simp
  refine wpAnyH_take (i:=6) (v:= ?_) rfl (by kernel_rfl) (by kernel_rfl) (by kernel_rfl) (fun _ _ _ h=>h) (Or.inl ⟨by kernel_rfl,?_⟩) hHeld ?_;rotate_left;focus (intro wS hSw;(try dsimp only at hSw);go_simp;first|done|with_reducible rfl)
  try go_simp
  refine wpAnyH_ready (rs:=[2]) (by kernel_rfl) (by simp) (AllReadyH.cons rfl (fun K hK=> ?_) AllReadyH.nil);go_simp;go_wp2_with((go_at_call 151;refine(nS tabs A _ c _ _ hnt4 h9.drew).mono ?_;rintro e w10 ⟨C,cn,cc,rfl,h10,x10⟩;have h11:=h9.drew.onto' h10;obtain rfl:=cT h11))
  refine hK.out _ _ (HS.out _ _ _ h11.right) (fun hHeld=> ?_);clear hK K;have h12:ax w10 (ct 3 1 (.slice C tabs.length cc) tabs.length (tabs.map (I M))*(ct 3 1 (.slice G m gc) m (tp.map (I M))*(ao (.slice A tabs.length c) tabs*(aa X1 #[I M a7,V O,V lf,I M rg,V us,V di,I M fr,.slice A tabs.length c,.slice B tabs.length d] 206*(aa Xb #[.pointer (N (Y f 0 H)),.slice G m gc] 224*(ao (.slice B tabs.length d) (aH x.page tabs.length)*(ai f (a8 s m)*(aa X0 #[I M x.page,I M x.size,I M x.frame,I M x.rights] 39*R)))))))):=h11.eq (by unfold ao;ac_rfl);refine wpAnyH_ready (rs:=[7]) (by kernel_rfl) (by simp) (AllReadyH.cons rfl (fun K hK=> ?_) AllReadyH.nil);refine lR rfl (.tmp 61) (.tmp 65) 45 rfl underlying45 fK (.slice C tabs.length cc) tabs.length (tabs.map (I M)) (by simp[Act.eval]) (.slice G m gc) m (tp.map (I M)) (by simp[Act.eval]) h12 (pN _) (by unfold maxLen;omega) (by omega) ?_;intro D dc w13 h13 x13;have h14:ax w13 (ct 3 1 (.slice D (tabs.length+m) dc) (tabs.length+m) (tabs.map (I M)++tp.map (I M))*(ao (.slice A tabs.length c) tabs*(ct 3 1 (.slice G m gc) m (tp.map (I M))*(aa X1 #[I M a7,V O,V lf,I M rg,V us,V di,I M fr,.slice A tabs.length c,.slice B tabs.length d] 206*(aa Xb #[.pointer (N (Y f 0 H)),.slice G m gc] 224*(ao (.slice B tabs.length d) (aH x.page tabs.length)*(ai f (a8 s m)*(aa X0 #[I M x.page,I M x.size,I M x.frame,I M x.rights] 39*R)))))))):=h13.eq (by ac_rfl);try go_simp
  refine hK.out _ _ (HS.out _ _ _ h14.right) (fun hHeld=> ?_);clear hK K;refine wpAnyH_take (i:=8) (v:= ?_) rfl (by kernel_rfl) (by kernel_rfl) (by kernel_rfl) (fun _ _ _ h=>h) (Or.inl ⟨by kernel_rfl,?_⟩) hHeld ?_;rotate_left;focus (intro wS hSw;(try dsimp only at hSw);go_simp;first|done|with_reducible rfl)
  try go_simp
  refine wpAnyH_done (by kernel_rfl) ?_ _;go_wp2_with fail
  go_meet
  case rel=>exact⟨D,dc,rfl,h14,(x9.drew.trans x10).trans x13⟩
 case rest=>
 clear h9 x9 k7 kl hbl HS;obtain⟨D,dc,rfl,h10,x10⟩:=hcut;rw[←List.map_append,←HAL.out] at h10;have HPL:=U (gS x.page tabs.length);have h11:ax wc (ao (.slice B tabs.length d) (aH x.page tabs.length)*(aa X1 #[I M a7,V O,V lf,I M rg,V us,V di,I M fr,.slice A tabs.length c,.slice B tabs.length d] 206*(ct 3 1 (.slice D (tabs.length+m) dc) (tabs.length+m) (al.map (I M))*(ai f (a8 s m)*(aa Xb #[.pointer (N (Y f 0 H)),.slice G m gc] 224*(aa X0 #[I M x.page,I M x.size,I M x.frame,I M x.rights] 39*(ao (.slice A tabs.length c) tabs*(ct 3 1 (.slice G m gc) m (tp.map (I M))*R)))))))):=h10.eq (by ac_rfl);have k8:=h11.right.cell 8;have kl:=h11.right.lt;go_wp2_with fail
 refine(nS (aH x.page tabs.length) B _ d _ _ (by rw[HPL.out];exact hnt4) h11).mono ?_;rintro e w12 ⟨P0,pn,pc,rfl,h12,x12⟩;have h13:=h11.onto' h12;have hpn:=(cT h13).trans HPL.out;obtain rfl:=hpn;have x13:=x10.trans x12;obtain⟨QQ,hQQ⟩:∃Q:ab,Q=(ao (.slice A tabs.length c) tabs*(ct 3 1 (.slice G m gc) m (tp.map (I M))*(ao (.slice B tabs.length d) (aH x.page tabs.length)*aa X1 #[I M a7,V O,V lf,I M rg,V us,V di,I M fr,.slice A tabs.length c,.slice B tabs.length d] 206))):=⟨_,rfl⟩;obtain⟨N1,hN1⟩:∃N1,N1=tabs.length+m:=⟨_,rfl⟩;have h14:ax w12 (ct 3 1 (.slice P0 tabs.length pc) tabs.length ((aH x.page tabs.length).map (I M))*(ct 3 1 (.slice D N1 dc) N1 (al.map (I M))*(ai f (a8 s m)*(aa Xb #[.pointer (N (Y f 0 H)),.slice G m gc] 224*(aa X0 #[I M x.page,I M x.size,I M x.frame,I M x.rights] 39*(QQ*R)))))):=by
  rw[hQQ,hN1];have:=h13;unfold ao at this⊢;rw[HPL.out] at this⊢;exact this.eq (by ac_rfl)
 have k0:w12.cell? (Y X1 0 H)=N (I M a7):=h13.right.right.cell 0;have kl2:=h13.right.right.lt;have HN1:=U (show N1=n+1+m by have:=HN.out;omega);have HQQ:=U hQQ;have hw15:IntKind.i64.wrap (a7 - 1)=3 - ((n+1:Nat):Int):=by rw[a6,HLV.out];omega
 have hN1c:Value.slice D (tabs.length+m) dc=Value.slice D N1 dc:=by rw[hN1]
 rw[hN1c];have HNT:=U HN.out;clear h10 x10 h11 x12 h12 h13 hQQ hN1 hN1c kl k8;go_upto_region 15 with fail;go_cut [14] from 70 to 73 (fun s14 wx=>s14=I M (3 - ((n+1:Nat):Int))∧wx=w12)
 case first=>
  go_wp2_with fail
  go_meet
  case rel=>exact⟨by first|rfl|(rw[←hw15];done)|(rw[←hw15];go_num),rfl⟩
 case rest=>
 obtain⟨rfl,hwr⟩:=hcut;replace hwr:=hwr.symm;subst hwr;clear k0 kl2 hw15 hnt4 hntm;generalize hT:tabs.length=T at*
 have HTT:=U (show T=n+1 from HNT.out);have h15:ax w12 (ct 3 1 (.slice P0 T pc) T ((aH x.page T).map (I M))*(ct 3 1 (.slice D N1 dc) N1 (al.map (I M))*(ai f (a8 s m)*(aa Xb #[.pointer (N (Y f 0 H)),.slice G m gc] 224*(aa X0 #[I M x.page,I M x.size,I M x.frame,I M x.rights] 39*(QQ*R)))))):=h14;clear h14;have hnT:n+1=T:=HTT.out.symm;have HnT:=U hnT;clear hnT hT;go_upto_region 16 with fail;go_loopw [13,14] (fun t13 t14 wr=>∃(q:Nat) (P:Option b4) (pc:Nat),n+1≤q∧q≤N1∧t14=I M (3 - (q:Int))∧t13= .slice P q pc∧ax wr (ct 3 1 (.slice P q pc) q ((aH x.page q).map (I M))*(ct 3 1 (.slice D N1 dc) N1 (al.map (I M))*(ai f (a8 s m)*(aa Xb #[.pointer (N (Y f 0 H)),.slice G m gc] 224*(aa X0 #[I M x.page,I M x.size,I M x.frame,I M x.rights] 39*(QQ*R))))))∧bz w wr) (fun _ t14 _=>(b9 t14+5).toNat)
 case atStart=>exact⟨T,P0,pc,by have:=HTT.out;omega,by have:=HTT.out;have:=HN1.out;omega,by rw[HTT.out],rfl,h15,x13⟩
 case round=>
  clear h15 x13;obtain⟨q,P,pc',hq1,hq2,rfl,rfl,hr,hx⟩:=hrel;have hN1o:=HN1.out;have hZo:=HZ.out;obtain⟨c0,c1,c2,c3⟩:=hr.right.r3.cells4;have cl:=hr.right.r3.lt;by_cases hlt:q<N1
  ·have hge:x.size≤3 - (q:Int):=by omega
   have hw14:IntKind.i64.wrap (3 - (q:Int) - 1)=3 - ((q+1:Nat):Int):=by rw[a6];omega
   have hq4:q≤4:=by omega
   have HIX:=U (fun W=>j4 x.page (3 - (q:Int)) W);have HPS:=U (kc x.page q);have HQ1:=U (And.intro hq1 hq2);have HLT:=U hlt;clear hN1o hZo hq1 hq2 hlt;generalize ap x.page (3 - (q:Int))=ix at*
   have hrow:=hr.alloc (.cells #[I M ix] 3);go_wp2_with(first|(go_at_call 152;refine(HIX.out _).mono ?_;rintro e w15 ⟨rfl,rfl⟩)|(at_builtin;refine aV rfl _ _ 45 rfl underlying45 fK _ _ _ rfl hrow (Y _ 0 H) 1 1 [I M ix] rfl rfl (dU _ (I M ix) 3) ?c1 ?c2 ?c3 ?_))
   case c1=>intro u hu;simp at hu;subst hu;rfl
   case c2=>unfold maxLen;omega
   case c3=>omega
   intro v' w16 h16 x16;obtain⟨P',pc2,rfl⟩:=h16.rowForm;go_wp2_with fail
   go_roundw
   case rel=>exact⟨q+1,P',pc2,by have:=HQ1.out;omega,by have:=HLT.out;omega,by first|rfl|exact congrArg (I M) hw14|(rw[hw14]),rfl,by rw[HPS.out,List.map_append];exact h16,(hx.alloc _).trans x16⟩
   case measure=>simp[b9];omega
  ·obtain rfl:q=N1:=by omega
   have hge:¬(x.size≤3 - (q:Int)):=by omega
   obtain⟨e,he⟩:∃e,e=n+m:=⟨_,rfl⟩;have haln:al.length=q:=by have:=HALN.out;omega
   have hpln:(aH x.page q).length =q:=gS x.page q;have hqe:q=e+1:=by omega
   obtain⟨bP,hP1,-,-,-⟩:=Has.rowGet (e:=3) (size:=1) hr (i:=e) (u:=I M ((aH x.page q)[e]'(by omega))) (by simp);obtain⟨bD,hD1,-,-,-⟩:=Has.rowGet (e:=3) (size:=1) hr.right (i:=e) (u:=I M (al[e]'(by omega))) (by simp);subst hP1;subst hD1;have HRW:=U (fun(j:Nat) (t:Int) (hj:al[j]? =N t) (w':ag) (Z:ab) (h:ax w' (ct 3 1 (.slice (N (Y bP 0 H)) q pc') q ((aH x.page q).map (I M))*(ct 3 1 (.slice (N (Y bD 0 H)) q dc) q (al.map (I M))*Z)))=>(by
    obtain⟨hjl,hje⟩:=a4.1 hj;obtain⟨b1,e1,l1,q1,_⟩:=Has.rowGet (e:=3) (size:=1) h (i:=j) (u:=I M (ap x.page (3 - (j:Int)))) (by rw[List.getElem?_map,jf x.page (by omega)];rfl);obtain⟨b2,e2,l2,q2,_⟩:=Has.rowGet (e:=3) (size:=1) h.right (i:=j) (u:=I M t) (by rw[List.getElem?_map,hj];rfl);injection e1 with e1;injection e1 with e1
    injection e2 with e2;injection e2 with e2
    subst e1;subst e2;exact⟨q2,q1,l2,l1⟩:w'.cell? (Y bD j H)=N (I M t)∧w'.cell? (Y bP j H)=N (I M (ap x.page (3 - (j:Int))))∧bD<w'.heap.size∧bP<w'.heap.size))
   have hAlj:=U (fun(j:Nat) (hj:j<q)=>(⟨_,bb (by omega)⟩:∃t,al[j]? =N t));obtain⟨te,hte⟩:=hAlj.out e (by omega);have hHp:∀u,(a8 s m).has u=(a8 s m).has u:=fun _=>rfl;have hst1:=HSTO.out (a8 s m) hHp e te hte (bq (dq x) x.size);have hla1:=HLAST.out te (by rw[←he];exact hte) (a8 s m) (bq (dq x) x.size);rw[←he] at hla1;rw[←hla1] at hst1;have HP1:=U (fun R w h=>zn Xb f te (ap x.page (3 - (e:Int))) x.size (.slice G m gc) (dq x) (a8 s m) R w h);rw[hst1] at HP1;generalize hU:nM (a8 s m) x.page (bq (dq x) x.size) z (al.drop e)=σ1 at HP1;have HU:=U hU;clear hU;unfold dq at HP1;dsimp only at HP1;have HTE:=U (HRW.out e te hte);have hq1':(q:Int) - 1=(e:Int):=by omega
   have hq2':(q:Int) - 2=(e:Int) - 1:=by omega
   have hwe:IntKind.i64.wrap (e:Int)=(e:Int):=by rw[a6];omega
   have hwe1:IntKind.i64.wrap ((e:Int) - 1)=(e:Int) - 1:=by rw[a6];omega
   have hwq:IntKind.i64.wrap ((q:Int) - 1)=(e:Int):=by rw[hq1'];exact hwe
   have hwq2:IntKind.i64.wrap ((q:Int) - 2)=(e:Int) - 1:=by rw[hq2'];exact hwe1
   have heq:(e:Int)< (q:Int):=by omega
   have he0:¬((e:Int)<0):=by omega
   have he00:(0:Int)≤(e:Int):=by omega
   have HEE:=U (And.intro he hqe);have HNN:=U (show n≤e by omega);have HN3:=U (show e≤3 by omega);clear hst1 hla1 hHp haln hpln hqe he hN1o hZo hq1 hq2 hlt;have HIXE:=U (show ap x.page (3 - (e:Int))=ap x.page (3 - (e:Int)) from rfl);generalize hie:ap x.page (3 - (e:Int))=ie at HP1 HTE;clear HIXE hie;have h17:ax _ (aa Xb #[.pointer (N (Y f 0 H)),.slice G m gc] 224*(ai f (a8 s m)*(ct 3 1 (.slice (N (Y bP 0 H)) q pc') q ((aH x.page q).map (I M))*(ct 3 1 (.slice (N (Y bD 0 H)) q dc) q (al.map (I M))*(aa X0 #[I M x.page,I M x.size,I M x.frame,I M x.rights] 39*(QQ*R)))))):=(hr.eq (by ac_rfl)).drew;have x17:=hx.drew;obtain⟨tA,tB,_,_⟩:=HTE.out _ _ hr;have HKK:=U (fun(w':ag) (P' Q':ab) (h:ax w' (P'*(Q'*(ct 3 1 (.slice (N (Y bP 0 H)) q pc') q ((aH x.page q).map (I M))*(ct 3 1 (.slice (N (Y bD 0 H)) q dc) q (al.map (I M))*(aa X0 #[I M x.page,I M x.size,I M x.frame,I M x.rights] 39*(QQ*R)))))))=>(by
    obtain⟨a1,a2,_,_⟩:=HTE.out _ _ h.right.right;obtain⟨m0,m1,m2,m3⟩:=h.right.r3.cells4;exact⟨a1,a2,m1,m2,m3⟩:w'.cell? (Y bD e H)=N (I M te)∧w'.cell? (Y bP e H)=N (I M ie)∧w'.cell? (Y X0 1 H)=N (I M x.size)∧w'.cell? (Y X0 2 H)=N (I M x.frame)∧w'.cell? (Y X0 3 H)=N (I M x.rights)))
   go_upto_region 19 with fail;go_region_held3 (fun w'=>w'.cell? (Y bD e H)=N (I M te)∧w'.cell? (Y bP e H)=N (I M ie)∧w'.cell? (Y X0 1 H)=N (I M x.size)∧w'.cell? (Y X0 2 H)=N (I M x.frame)∧w'.cell? (Y X0 3 H)=N (I M x.rights)) (first|(with_reducible exact HKK.out _ _ _ h17)|(with_reducible exact HKK.out _ _ _ h18)|go_keep) (first|(go_at_call 153;(with_reducible refine(HP1.out _ _ h17).mono ?_);rintro e9 w18 ⟨rfl,h18,x18⟩))
   have x19:=x17.trans x18;rw[←HU.out] at h18;clear h17 x17 x18 HP1 HTE HKK tA tB hr hx c0 c1 c2 c3 cl;clear HU;go_upto_region 20 with fail;go_cut [15] from 107 to 110 (fun s15 wx=>s15=I M ((e:Int) - 1)∧wx=w18)
   case first=>
    go_wp2_with fail
    go_meet
    case rel=>exact⟨by first|rfl|(rw[←hwq2];done)|(rw[←hwq2];go_num),rfl⟩
   case rest=>
   obtain⟨rfl,hwr⟩:=hcut;replace hwr:=hwr.symm;subst hwr;clear hq1' hq2' hwe hwe1 hwq hwq2 heq he0 he00 hge;go_upto_region 21 with fail;go_loopw [15] (fun t15 wr=>∃g:Nat,n≤g∧g≤e∧t15=I M ((g:Int) - 1)∧ax wr (aa Xb #[.pointer (N (Y f 0 H)),.slice G m gc] 224*(ai f (nM (a8 s m) x.page (bq (dq x) x.size) z (al.drop g))*(ct 3 1 (.slice (N (Y bP 0 H)) q pc') q ((aH x.page q).map (I M))*(ct 3 1 (.slice (N (Y bD 0 H)) q dc) q (al.map (I M))*(aa X0 #[I M x.page,I M x.size,I M x.frame,I M x.rights] 39*(QQ*R))))))∧bz w wr) (fun t15 _=>(b9 t15+1).toNat)
   case atStart=>exact⟨e,HNN.out,Nat.le_refl _,rfl,h18,x19⟩
   case round=>
    clear h18 x19;obtain⟨g,hg1,hg2,rfl,hr,hx⟩:=hrel;by_cases hgn:g=n
    ·have hnge:¬((n:Int)≤(g:Int) - 1):=by omega
     have hfin:nM (a8 s m) x.page (bq (dq x) x.size) z (al.drop g)=sF:=by rw[hgn];exact HFIN.out
     have hok2:=HOKF.out (al.drop g);rw[hfin] at hr hok2;have HGN:=U hgn;have hend:ax _ (ai f sF*(QQ*R)):=(hr.eq (show _=aa Xb #[.pointer (N (Y f 0 H)),.slice G m gc] 224*(ct 3 1 (.slice (N (Y bP 0 H)) q pc') q ((aH x.page q).map (I M))*(ct 3 1 (.slice (N (Y bD 0 H)) q dc) q (al.map (I M))*(aa X0 #[I M x.page,I M x.size,I M x.frame,I M x.rights] 39*(ai f sF*(QQ*R))))) by ac_rfl)).r4;clear hgn hfin;go_wp2_with fail
     go_ret;exact⟨sF,hok2,Agree.refl sF,rfl,hend.p2.right,hx⟩
    ·obtain⟨j,hj⟩:∃j,g=j+1:=⟨g - 1,by omega⟩
     have hge:(n:Int)≤(g:Int) - 1:=by omega
     have hgj:(g:Int) - 1=(j:Int):=by omega
     have hjg:(j:Int)+1=(g:Int):=by omega
     have hqe:=HEE.out.2;have hn3e:=HN3.out;have hjq:(j:Int)< (q:Int):=by omega
     have hgq:(g:Int)< (q:Int):=by omega
     have hj0:¬((j:Int)<0):=by omega
     have hj00:(0:Int)≤(j:Int):=by omega
     have hg0:¬((g:Int)<0):=by omega
     have hg00:(0:Int)≤(g:Int):=by omega
     have hw1:IntKind.i64.wrap (j:Int)=(j:Int):=by rw[a6];omega
     have hw2:IntKind.i64.wrap (g:Int)=(g:Int):=by rw[a6];omega
     have hw3:IntKind.i64.wrap (3 - (j:Int))=3 - (j:Int):=by rw[a6];omega
     have hw4:IntKind.i64.wrap ((j:Int) - 1)=(j:Int) - 1:=by rw[a6];omega
     obtain⟨t,ht⟩:=hAlj.out j (by omega);obtain⟨k,hk⟩:=hAlj.out (j+1) (by omega);have hstep:=HSTEP.out j t k ht hk (a8 s m) (bq (dq x) x.size);have hsto:=HSTO.out (nM (a8 s m) x.page (bq (dq x) x.size) z (al.drop (j+1))) (HHAS.out _) j t ht (bq ⟨af,O,7,O,O,k⟩ (3 - (j:Int)));rw[←hstep] at hsto;have HPU:=U (fun R w h=>zn Xb f t (ap x.page (3 - (j:Int))) (3 - (j:Int)) (.slice G m gc) ⟨af,O,7,O,O,k⟩ (nM (a8 s m) x.page (bq (dq x) x.size) z (al.drop (j+1))) R w h);rw[hsto] at HPU;dsimp only at HPU;rw[←hj] at HPU hk;have HTJ:=U (HRW.out j t ht);have HTG:=U (HRW.out g k hk);have HGG:=U (And.intro hg1 (And.intro hg2 hj));clear hstep hsto hj ht hk hqe hn3e hg1 hg2 hgn;generalize ap x.page (3 - (j:Int))=ij at HPU HTJ;generalize ap x.page (3 - (g:Int))=ig at HTG;have h17:ax _ (aa Xb #[.pointer (N (Y f 0 H)),.slice G m gc] 224*(ai f (nM (a8 s m) x.page (bq (dq x) x.size) z (al.drop g))*(ct 3 1 (.slice (N (Y bP 0 H)) q pc') q ((aH x.page q).map (I M))*(ct 3 1 (.slice (N (Y bD 0 H)) q dc) q (al.map (I M))*(aa X0 #[I M x.page,I M x.size,I M x.frame,I M x.rights] 39*(QQ*R)))))):=hr.drew;have x17:=hx.drew;obtain⟨tA,tB,lD,lP⟩:=HTJ.out _ _ hr.right.right;obtain⟨gA,gB,_,_⟩:=HTG.out _ _ hr.right.right;have HKK:=U (fun(w':ag) (P' Q':ab) (h:ax w' (P'*(Q'*(ct 3 1 (.slice (N (Y bP 0 H)) q pc') q ((aH x.page q).map (I M))*(ct 3 1 (.slice (N (Y bD 0 H)) q dc) q (al.map (I M))*(aa X0 #[I M x.page,I M x.size,I M x.frame,I M x.rights] 39*(QQ*R)))))))=>(by
      obtain⟨a1,a2,_,_⟩:=HTJ.out _ _ h.right.right;obtain⟨a3,_,_,_⟩:=HTG.out _ _ h.right.right;exact⟨a1,a2,a3⟩:w'.cell? (Y bD j H)=N (I M t)∧w'.cell? (Y bP j H)=N (I M ij)∧w'.cell? (Y bD g H)=N (I M k)))
     generalize nM (a8 s m) x.page (bq (dq x) x.size) z (al.drop g)=σg at*
     go_upto_region 23 with fail;go_region_held3 (fun w'=>w'.cell? (Y bD j H)=N (I M t)∧w'.cell? (Y bP j H)=N (I M ij)∧w'.cell? (Y bD g H)=N (I M k)) (first|(with_reducible exact HKK.out _ _ _ h17)|(with_reducible exact HKK.out _ _ _ h18)|go_keep) (first|(go_at_call 153;(with_reducible refine(HPU.out _ _ h17).mono ?_);rintro e9 w18 ⟨rfl,h18,x18⟩))
     have x19:=x17.trans x18;go_wp2_with fail
     go_roundw
     case rel=>exact⟨j,by have:=HGG.out.2.2;omega,by have:=HGG.out.2.2;have:=HGG.out.2.1;omega,rfl,h18,x19⟩
     case measure=>simp[b9];omega
def uz:a0:= .agg #[I M 0,V O,V O,I M 0,V O,V O,I M 0,.slice H 0 0,.slice H 0 0]
def uA(y:Wy)(A B:Option b4)(c d:Nat):a0:= .agg #[I M y.lev,V y.e.there,V y.e.leaf,I M y.e.rights,V y.e.used,V y.e.dirty,I M y.e.frame,.slice A y.tabs.length c,.slice B y.tabs.length d]
def oM(s:Ms)(r p:Int)(w:ag)(e:Ending)(w':ag):Prop:=
 (bu s r p=0∧∃A B c d,e= .returned (.tuple #[uA (bi s r p) A B c d,(bK s r p).val,I M 0])∧ax w' (ao (.slice A (bi s r p).tabs.length c) (bi s r p).tabs *(ao (.slice B (bi s r p).tabs.length d) (aH p (bi s r p).tabs.length)*bE w w.heap.size))∧bz w w')∨
 (bu s r p≠0∧e= .returned (.tuple #[uz,.agg #[I M 0,I M 0,I M 0,I M 0],I M (bu s r p)])∧Below w.heap.size w w')
theorem Has.drop3'{w:ag}{A B C D:ab}(h:ax w (A*(B*(C*D)))):ax w (A*(B*D)):=h.drop3
set_option maxHeartbeats 4000000 in
theorem xu(f:Nat)(s:Ms)(root p:Int)(R:ab)(w:ag)(hs:s.Ok)(h:ax w (ai f s*R)):
  bk prog 135 #[.pointer (N (Y f 0 H)),I M root,I M p] w (oM s root p w):=by
 have h0:=((aT w).new #[I M 0,V O,V O,I M 0,V O,V O,I M 0,.slice H 0 0,.slice H 0 0] 206).new #[I M 0,I M 0,I M 0,I M 0] 39;have x0:=((bd w).alloc (.cells #[I M 0,V O,V O,I M 0,V O,V O,I M 0,.slice H 0 0,.slice H 0 0] 206)).alloc (.cells #[I M 0,I M 0,I M 0,I M 0] 39);simp only[bs] at h0;have hq:=(h.alloc (.cells #[I M 0,V O,V O,I M 0,V O,V O,I M 0,.slice H 0 0,.slice H 0 0] 206)).alloc (.cells #[I M 0,I M 0,I M 0,I M 0] 39);have W1:=U (pI f s root p R _ hs hq);have hfc:bu s root p=if(bi s root p).code ≠0 then(bi s root p).code else if(bi s root p).e.there =O then 5 else 0:=rfl
 have hfm:bK s root p=if bu s root p=0 then aB (bi s root p).e (bi s root p).lev p else Mp.zero:=rfl
 unfold oM;generalize bu s root p=fc at*
 generalize bK s root p=fm at*
 generalize bi s root p=y at*
 have HFC:=U (And.intro hfc hfm);clear h hq hfc hfm;go_enter func135,ntmps135;go_wp2_with fail
 refine W1.out.mono ?_;rintro e w1 hF;generalize (w.alloc (.cells #[I M 0,V O,V O,I M 0,V O,V O,I M 0,.slice H 0 0,.slice H 0 0] 206)).alloc (.cells #[I M 0,I M 0,I M 0,I M 0] 39)=w0 at*
 obtain⟨A,B,c,d,rfl,h1,x1⟩:∃(A B:Option b4) (c d:Nat),e= .returned (.tuple #[.agg #[I M y.lev,V y.e.there,V y.e.leaf,I M y.e.rights,V y.e.used,V y.e.dirty,I M y.e.frame,.slice A y.tabs.length c,.slice B y.tabs.length d],I M y.code])∧ax w1 (ao (.slice A y.tabs.length c) y.tabs*(ao (.slice B y.tabs.length d) (aH p y.tabs.length)*bE w0 w0.heap.size))∧bz w0 w1:=hF;have h2:=(h0.onto' (h1.a2)).a1;have x2:=x0.trans x1;clear h0 x0 h1 x1 W1;obtain⟨hfc,hfm⟩:=HFC.out;clear HFC;have h3:ax _ (aa w1.heap.size #[I M y.lev,V y.e.there,V y.e.leaf,I M y.e.rights,V y.e.used,V y.e.dirty,I M y.e.frame,.slice A y.tabs.length c,.slice B y.tabs.length d] 206*(ao (.slice A y.tabs.length c) y.tabs*(ao (.slice B y.tabs.length d) (aH p y.tabs.length)*(aa (w.heap.size+1) #[I M 0,I M 0,I M 0,I M 0] 39*(aa w.heap.size #[I M 0,V O,V O,I M 0,V O,V O,I M 0,.slice H 0 0,.slice H 0 0] 206*bE w w.heap.size))))):=h2.new #[I M y.lev,V y.e.there,V y.e.leaf,I M y.e.rights,V y.e.used,V y.e.dirty,I M y.e.frame,.slice A y.tabs.length c,.slice B y.tabs.length d] 206;have x3:=x2.alloc (.cells #[I M y.lev,V y.e.there,V y.e.leaf,I M y.e.rights,V y.e.used,V y.e.dirty,I M y.e.frame,.slice A y.tabs.length c,.slice B y.tabs.length d] 206);clear h2 x2;by_cases hc:y.code=0
 case neg=>
  rw[if_pos hc] at hfc;have HF:=U (show fc=y.code∧fc≠0 from⟨hfc,by rw[hfc];exact hc⟩);have hn':(y.code !=0)=af:=by simpa using hc
  clear hc hfc hfm;go_upto_region 2 with fail;generalize w1.alloc _=w3 at*
  generalize w1.heap.size=X2 at*
  have h4:ax w3 (aa w.heap.size #[I M 0,V O,V O,I M 0,V O,V O,I M 0,.slice H 0 0,.slice H 0 0] 206*(aa (w.heap.size+1) #[I M 0,I M 0,I M 0,I M 0] 39*(aa X2 #[I M y.lev,V y.e.there,V y.e.leaf,I M y.e.rights,V y.e.used,V y.e.dirty,I M y.e.frame,.slice A y.tabs.length c,.slice B y.tabs.length d] 206*bE w w.heap.size))):=by
   have:=h3.eq (show _=ao (.slice A y.tabs.length c) y.tabs*(ao (.slice B y.tabs.length d) (aH p y.tabs.length)*(aa w.heap.size #[I M 0,V O,V O,I M 0,V O,V O,I M 0,.slice H 0 0,.slice H 0 0] 206*(aa (w.heap.size+1) #[I M 0,I M 0,I M 0,I M 0] 39*(aa X2 #[I M y.lev,V y.e.there,V y.e.leaf,I M y.e.rights,V y.e.used,V y.e.dirty,I M y.e.frame,.slice A y.tabs.length c,.slice B y.tabs.length d] 206*bE w w.heap.size)))) by ac_rfl);exact this.right.right
  obtain⟨d0,d1,d2,d3,d4,d5,d6,d7,d8⟩:=h4.cells9;obtain⟨f0,f1,f2,f3,f4,f5,f6,f7,f8⟩:=h4.frees9;have dl:=h4.lt;obtain⟨c0,c1,c2,c3⟩:=h4.right.cells4;obtain⟨g0,g1,g2,g3⟩:=h4.right.frees4;have cl:=h4.right.lt;have n1:=h4.ne;have n2:=n1.symm;obtain⟨v0,v1,v2,v3,v4,v5,v6,v7,v8⟩:=h4.right.right.cells9;have vl:=h4.right.right.lt;go_wp2_with fail
  refine am (fun wz=>ax wz (aa (w.heap.size+1) #[I M 0,I M 0,I M 0,I M 0] 39*(aa w.heap.size #[I M 0,V O,V O,I M 0,V O,V O,I M 0,.slice H 0 0,.slice H 0 0] 206*bE w w.heap.size))∧bz w wz) ⟨(((h4.set9 _ _ _ _ _ _ _ _ _).p2).set4 _ _ _ _).drop3',ah⟩ ?_;rintro wz ⟨hz,xz⟩;exact a5 (fH results135 rfl rfl rfl (fE hz.right) (bh hz)) rfl (.inr ⟨HF.out.2,by rw[HF.out.1];rfl,ar hz.right.right xz⟩)
 case pos=>
  rw[if_neg (by rw[hc];simp)] at hfc;obtain⟨code,tabs,a7,th,lf,rg,us,di,fr⟩:=y;dsimp only at*
  subst hc;cases th with
  |false=>
   rw[if_pos rfl] at hfc;have HF:=U (show fc=5∧fc≠0 from⟨hfc,by rw[hfc];decide⟩);clear hfc hfm;go_upto_region 2 with fail;generalize w1.alloc _=w3 at*
   generalize w1.heap.size=X2 at*
   have h4:ax w3 (aa w.heap.size #[I M 0,V O,V O,I M 0,V O,V O,I M 0,.slice H 0 0,.slice H 0 0] 206*(aa (w.heap.size+1) #[I M 0,I M 0,I M 0,I M 0] 39*(aa X2 #[I M a7,V O,V lf,I M rg,V us,V di,I M fr,.slice A tabs.length c,.slice B tabs.length d] 206*bE w w.heap.size))):=by
    have:=h3.eq (show _=ao (.slice A tabs.length c) tabs*(ao (.slice B tabs.length d) (aH p tabs.length)*(aa w.heap.size #[I M 0,V O,V O,I M 0,V O,V O,I M 0,.slice H 0 0,.slice H 0 0] 206*(aa (w.heap.size+1) #[I M 0,I M 0,I M 0,I M 0] 39*(aa X2 #[I M a7,V O,V lf,I M rg,V us,V di,I M fr,.slice A tabs.length c,.slice B tabs.length d] 206*bE w w.heap.size)))) by ac_rfl);exact this.right.right
   obtain⟨d0,d1,d2,d3,d4,d5,d6,d7,d8⟩:=h4.cells9;obtain⟨f0,f1,f2,f3,f4,f5,f6,f7,f8⟩:=h4.frees9;have dl:=h4.lt;obtain⟨c0,c1,c2,c3⟩:=h4.right.cells4;obtain⟨g0,g1,g2,g3⟩:=h4.right.frees4;have cl:=h4.right.lt;have n1:=h4.ne;have n2:=n1.symm;obtain⟨v0,v1,v2,v3,v4,v5,v6,v7,v8⟩:=h4.right.right.cells9;have vl:=h4.right.right.lt;go_wp2_with fail
   refine am (fun wz=>ax wz (aa (w.heap.size+1) #[I M 0,I M 0,I M 0,I M 0] 39*(aa w.heap.size #[I M 0,V O,V O,I M 0,V O,V O,I M 0,.slice H 0 0,.slice H 0 0] 206*bE w w.heap.size))∧bz w wz) ⟨(((h4.set9 _ _ _ _ _ _ _ _ _).p2).set4 _ _ _ _).drop3',ah⟩ ?_;rintro wz ⟨hz,xz⟩;exact a5 (fH results135 rfl rfl rfl (fE hz.right) (bh hz)) rfl (.inr ⟨HF.out.2,by rw[HF.out.1];rfl,ar hz.right.right xz⟩)
  |true=>
   rw[if_neg (by simp)] at hfc;rw[if_pos hfc] at hfm;have HF:=U (show fc=0∧fm=aB ⟨af,lf,rg,us,di,fr⟩ a7 p from⟨hfc,hfm⟩);have HL:Hid (∀X,bk prog 132 #[.agg #[V af,V lf,I M rg,V us,V di,I M fr],.int .i64 a7,.int .i64 p] X (Pure (aB ⟨af,lf,rg,us,di,fr⟩ a7 p).val X)):=U (fun X=>kv ⟨af,lf,rg,us,di,fr⟩ a7 p X);clear hfc hfm;generalize aB ⟨af,lf,rg,us,di,fr⟩ a7 p=lm at*
   go_upto_region 6 with fail;generalize w1.alloc _=w3 at*
   generalize w1.heap.size=X2 at*
   have h5:ax w3 (aa w.heap.size #[I M 0,V O,V O,I M 0,V O,V O,I M 0,.slice H 0 0,.slice H 0 0] 206*(aa X2 #[I M a7,V af,V lf,I M rg,V us,V di,I M fr,.slice A tabs.length c,.slice B tabs.length d] 206*(aa (w.heap.size+1) #[I M 0,I M 0,I M 0,I M 0] 39*(ao (.slice A tabs.length c) tabs*(ao (.slice B tabs.length d) (aH p tabs.length)*bE w w.heap.size))))):=h3.eq (by ac_rfl);clear h3;have h4:=h5.set9 (I M a7) (V af) (V lf) (I M rg) (V us) (V di) (I M fr) (.slice A tabs.length c) (.slice B tabs.length d);have HK:=U (fun(w':ag) (P:ab) (h:ax w' (aa X2 #[I M a7,V af,V lf,I M rg,V us,V di,I M fr,.slice A tabs.length c,.slice B tabs.length d] 206*P))=>h.cells9);obtain⟨k0,k1,k2,k3,k4,k5,k6,k7,k8⟩:=h5.right.cells9;have kl:=h5.right.lt;obtain⟨d0,d1,d2,d3,d4,d5,d6,d7,d8⟩:=h5.cells9;obtain⟨f0,f1,f2,f3,f4,f5,f6,f7,f8⟩:=h5.frees9;have dl:=h5.lt;have n1:=h5.ne;have n2:=n1.symm;go_cut [8] from 31 to 38 (fun s8 wx=>s8=I M 0∧ax wx (aa w.heap.size #[I M a7,V af,V lf,I M rg,V us,V di,I M fr,.slice A tabs.length c,.slice B tabs.length d] 206*(aa (w.heap.size+1) #[I M lm.page,I M lm.size,I M lm.frame,I M lm.rights] 39*(ao (.slice A tabs.length c) tabs*(ao (.slice B tabs.length d) (aH p tabs.length)*bE w w.heap.size))))∧bz w wx)
   case first=>
    go_region_held3 (fun w'=>w'.cell? (Y X2 0 H)=N (I M a7)∧w'.cell? (Y X2 1 H)=N (V af)∧w'.cell? (Y X2 2 H)=N (V lf)∧w'.cell? (Y X2 3 H)=N (I M rg)∧w'.cell? (Y X2 4 H)=N (V us)∧w'.cell? (Y X2 5 H)=N (V di)∧w'.cell? (Y X2 6 H)=N (I M fr)∧w'.cell? (Y X2 7 H)=N (.slice A tabs.length c)∧w'.cell? (Y X2 8 H)=N (.slice B tabs.length d)) (first|(with_reducible exact HK.out _ _ h6.right)|(with_reducible exact HK.out _ _ g6.right)|(with_reducible exact HK.out _ _ h4.drew.right)|(with_reducible exact HK.out _ _ h5.drew.right)|go_keep) (first|(go_at_call 132;((with_reducible refine(HL.out _).mono ?_);rintro e2 w5 ⟨rfl,b5⟩;first|(have h6:=h5.drew.below b5;have x6:=x3.drew.below b5;obtain⟨y0,y1,y2,y3,y4,y5,y6,y7,y8⟩:=h6.cells9;obtain⟨z0,z1,z2,z3,z4,z5,z6,z7,z8⟩:=h6.frees9;have yl:=h6.lt;obtain⟨c0,c1,c2,c3⟩:=h6.right.right.cells4;obtain⟨g0,g1,g2,g3⟩:=h6.right.right.frees4;have cl:=h6.right.right.lt;have nn:=h6.p2.right.ne;have nn':=nn.symm;have mm:=h6.right.ne;have mm':=mm.symm)|(have g6:=h4.drew.below b5;have y6:=((x3.set9 w.heap.size (I M a7) (V af) (V lf) (I M rg) (V us) (V di) (I M fr) (.slice A tabs.length c) (.slice B tabs.length d)).drew).below b5;obtain⟨c0,c1,c2,c3⟩:=g6.right.right.cells4;obtain⟨g0,g1,g2,g3⟩:=g6.right.right.frees4;have cl:=g6.right.right.lt;have mm:=g6.right.ne;have mm':=mm.symm))))
    all_goals
     go_wp2_with fail
     go_meet
     case rel=>
      first
      |(have h7:=(h6.set9 (I M a7) (V af) (V lf) (I M rg) (V us) (V di) (I M fr) (.slice A tabs.length c) (.slice B tabs.length d)).eq (show _=aa (w.heap.size+1) #[I M 0,I M 0,I M 0,I M 0] 39*(aa w.heap.size #[I M a7,V af,V lf,I M rg,V us,V di,I M fr,.slice A tabs.length c,.slice B tabs.length d] 206*(aa X2 #[I M a7,V af,V lf,I M rg,V us,V di,I M fr,.slice A tabs.length c,.slice B tabs.length d] 206*(ao (.slice A tabs.length c) tabs*(ao (.slice B tabs.length d) (aH p tabs.length)*bE w w.heap.size)))) by ac_rfl)
        exact⟨rfl,(h7.set4 (I M lm.page) (I M lm.size) (I M lm.frame) (I M lm.rights)).p2.eq (show _=aa X2 #[I M a7,V af,V lf,I M rg,V us,V di,I M fr,.slice A tabs.length c,.slice B tabs.length d] 206*(aa w.heap.size #[I M a7,V af,V lf,I M rg,V us,V di,I M fr,.slice A tabs.length c,.slice B tabs.length d] 206*(aa (w.heap.size+1) #[I M lm.page,I M lm.size,I M lm.frame,I M lm.rights] 39*(ao (.slice A tabs.length c) tabs*(ao (.slice B tabs.length d) (aH p tabs.length)*bE w w.heap.size)))) by ac_rfl) |>.right,ah⟩)
      |(have h7:=(h6.eq (show _=aa (w.heap.size+1) #[I M 0,I M 0,I M 0,I M 0] 39*(aa w.heap.size #[I M 0,V O,V O,I M 0,V O,V O,I M 0,.slice H 0 0,.slice H 0 0] 206*(aa X2 #[I M a7,V af,V lf,I M rg,V us,V di,I M fr,.slice A tabs.length c,.slice B tabs.length d] 206*(ao (.slice A tabs.length c) tabs*(ao (.slice B tabs.length d) (aH p tabs.length)*bE w w.heap.size)))) by ac_rfl)).set4 (I M lm.page) (I M lm.size) (I M lm.frame) (I M lm.rights)
        exact⟨rfl,(h7.p2.set9 (I M a7) (V af) (V lf) (I M rg) (V us) (V di) (I M fr) (.slice A tabs.length c) (.slice B tabs.length d)).eq (show _=aa X2 #[I M a7,V af,V lf,I M rg,V us,V di,I M fr,.slice A tabs.length c,.slice B tabs.length d] 206*(aa w.heap.size #[I M a7,V af,V lf,I M rg,V us,V di,I M fr,.slice A tabs.length c,.slice B tabs.length d] 206*(aa (w.heap.size+1) #[I M lm.page,I M lm.size,I M lm.frame,I M lm.rights] 39*(ao (.slice A tabs.length c) tabs*(ao (.slice B tabs.length d) (aH p tabs.length)*bE w w.heap.size)))) by ac_rfl) |>.right,ah⟩)
      |(have h7:=(g6.eq (show _=aa (w.heap.size+1) #[I M 0,I M 0,I M 0,I M 0] 39*(aa w.heap.size #[I M a7,V af,V lf,I M rg,V us,V di,I M fr,.slice A tabs.length c,.slice B tabs.length d] 206*(aa X2 #[I M a7,V af,V lf,I M rg,V us,V di,I M fr,.slice A tabs.length c,.slice B tabs.length d] 206*(ao (.slice A tabs.length c) tabs*(ao (.slice B tabs.length d) (aH p tabs.length)*bE w w.heap.size)))) by ac_rfl)).set4 (I M lm.page) (I M lm.size) (I M lm.frame) (I M lm.rights)
        exact⟨rfl,h7.p2.eq (show _=aa X2 #[I M a7,V af,V lf,I M rg,V us,V di,I M fr,.slice A tabs.length c,.slice B tabs.length d] 206*(aa w.heap.size #[I M a7,V af,V lf,I M rg,V us,V di,I M fr,.slice A tabs.length c,.slice B tabs.length d] 206*(aa (w.heap.size+1) #[I M lm.page,I M lm.size,I M lm.frame,I M lm.rights] 39*(ao (.slice A tabs.length c) tabs*(ao (.slice B tabs.length d) (aH p tabs.length)*bE w w.heap.size)))) by ac_rfl) |>.right,ah⟩)
   case rest=>
    clear h5 h4 x3 HK k0 k1 k2 k3 k4 k5 k6 k7 k8 kl d0 d1 d2 d3 d4 d5 d6 d7 d8 f0 f1 f2 f3 f4 f5 f6 f7 f8 dl n1 n2;obtain⟨rfl,h9,x9⟩:=hcut;go_wp2_with fail
    refine am (fun wz=>ax wz (aa w.heap.size #[I M a7,V af,V lf,I M rg,V us,V di,I M fr,.slice A tabs.length c,.slice B tabs.length d] 206*(aa (w.heap.size+1) #[I M lm.page,I M lm.size,I M lm.frame,I M lm.rights] 39*(ao (.slice A tabs.length c) tabs*(ao (.slice B tabs.length d) (aH p tabs.length)*bE w w.heap.size))))∧bz w wz) ⟨h9,x9⟩ ?_;rintro wz ⟨hz,xz⟩;exact a5 (fH results135 rfl rfl rfl (fE hz) (bh hz.right)) rfl (.inl ⟨HF.out.1,A,B,c,d,by rw[HF.out.2];rfl,hz.right.right,xz⟩)
set_option maxHeartbeats 4000000 in
theorem AT(f:Nat)(s:Ms)(root p ri:Int)(R:ab)(w:ag)(hs:s.Ok)(h:ax w (ai f s*R)):
  bk prog 100 #[.pointer (N (Y f 0 H)),I M root,I M p,I M ri] w (cR (.tuple #[(kU s root p ri).val,I M (iQ s root p ri)]) (ai f (gX s root p ri)*R) w):=by
 have h0:=h.new #[I M 0,I M 0,I M 0,I M 0] 39;have x0:=(bd w).alloc (.cells #[I M 0,I M 0,I M 0,I M 0] 39);by_cases hri:ri<0∨7<ri
 ·have hc:iQ s root p ri=1:=by unfold iQ;rw[if_pos hri]
  have hm:kU s root p ri=Mp.zero:=by unfold kU;rw[if_neg (by rw[hc];decide)]
  have hss:gX s root p ri=s:=by unfold gX;rw[if_neg (by rw[hc];decide)]
  rw[hc,hm,hss];clear hc hm hss h;obtain⟨c0,c1,c2,c3⟩:=h0.cells4;obtain⟨g0,g1,g2,g3⟩:=h0.frees4;have cl:=h0.lt;rcases hri with hri|hri
  ·go_enter func100,ntmps100
   go_wp2_with fail
   refine am (fun wz=>ax wz (aa w.heap.size #[I M 0,I M 0,I M 0,I M 0] 39*(ai f s*R))∧bz w wz) ⟨h0,ah⟩ ?_;rintro wz ⟨hz,xz⟩;exact a5 (aA results100 rfl rfl (bh hz)) rfl ⟨rfl,hz.right,xz⟩
  ·by_cases hr0:ri<0
   ·omega
   go_enter func100,ntmps100;go_wp2_with fail
   refine am (fun wz=>ax wz (aa w.heap.size #[I M 0,I M 0,I M 0,I M 0] 39*(ai f s*R))∧bz w wz) ⟨h0,ah⟩ ?_;rintro wz ⟨hz,xz⟩;exact a5 (aA results100 rfl rfl (bh hz)) rfl ⟨rfl,hz.right,xz⟩
 have hpc:iQ s root p ri=bu s root p:=by unfold iQ;rw[if_neg hri]
 have hr0:¬ri<0:=by omega
 have hr7:¬7<ri:=by omega
 have W1:=U (xu f s root p _ _ hs h0.p2);unfold oM at W1;by_cases hfc:bu s root p=0
 ·have hcode:(bi s root p).code =0:=by
   unfold bu at hfc;split at hfc
   ·rename_i hn;exact absurd hfc hn
   ·rename_i hn;simpa using hn
  obtain⟨hp,n,hn,hn3,hl,hu⟩:=fb hcode;obtain⟨t,ht⟩:∃t,(bi s root p).tabs[n]? =N t:=⟨_,bb (by omega)⟩;have hst:=qP hcode ht (bq {(bi s root p).e with rights:=ri} (bi s root p).lev);have hss:gX s root p ri=fA s t (ap p (3 - (n:Int))) (bq {(bi s root p).e with rights:=ri} (bi s root p).lev):=by
   unfold gX;rw[if_pos (by rw[hpc];exact hfc),hst,jW hn ht,hl]
  have hm:kU s root p ri={bK s root p with rights:=ri}:=by unfold kU;rw[if_pos (by rw[hpc];exact hfc)]
  have HST:=U (fun R w h=>ry f s t (ap p (3 - (n:Int))) (bq {(bi s root p).e with rights:=ri} (bi s root p).lev) R w h);have HE:=U (kq {(bi s root p).e with rights:=ri} (bi s root p).lev);dsimp only at HE;rw[←hss] at HST;rw[hpc,hm,hfc];rw[hfc] at W1;generalize gX s root p ri=s' at*
  generalize s.hasW t (ap p (3 - (n:Int)))=hw at*
  generalize bq {(bi s root p).e with rights:=ri} (bi s root p).lev =wd at*
  generalize aj {(bi s root p).e with rights:=ri} (bi s root p).lev =ef at*
  generalize bK s root p=fm at*
  clear hst hss hm hpc hri h hcode hu hl hfc;have hpl:=jf p (n:=n+1) (k:=n) (by omega);rw[←hn] at hpl;generalize ap p (3 - (n:Int))=ix at*
  generalize bi s root p=y at*
  generalize aH p y.tabs.length=pls at*
  have HN:=U hn;have HT:=U ht;have HPL:=U hpl;clear ht hpl hn;go_enter func100,ntmps100;go_wp2_with fail
  refine W1.out.mono ?_;rintro e w1 hF;rcases hF with ⟨_,A,B,c,d,rfl,h1,x1⟩|⟨hfc,_⟩
  ·have h2:=(h0.onto' (h1.a2)).a1
   have x2:=x0.trans x1;clear h0 x0 h1 x1 W1;have h4:=(h2.new #[I M y.lev,V y.e.there,V y.e.leaf,I M y.e.rights,V y.e.used,V y.e.dirty,I M y.e.frame,.slice A y.tabs.length c,.slice B y.tabs.length d] 206).new #[I M fm.page,I M fm.size,I M fm.frame,I M fm.rights] 39;simp only[bs] at h4;have x4:=(x2.alloc (.cells #[I M y.lev,V y.e.there,V y.e.leaf,I M y.e.rights,V y.e.used,V y.e.dirty,I M y.e.frame,.slice A y.tabs.length c,.slice B y.tabs.length d] 206)).alloc (.cells #[I M fm.page,I M fm.size,I M fm.frame,I M fm.rights] 39);clear h2 x2;unfold uA;go_upto_region 4 with fail;generalize (w1.alloc (.cells #[I M y.lev,V y.e.there,V y.e.leaf,I M y.e.rights,V y.e.used,V y.e.dirty,I M y.e.frame,.slice A y.tabs.length c,.slice B y.tabs.length d] 206)).alloc (.cells #[I M fm.page,I M fm.size,I M fm.frame,I M fm.rights] 39)=w3 at*
   generalize w1.heap.size=X2 at*
   generalize w.heap.size=X0 at*
   have f3:=h4.free 3;have g3:=h4.right.free 3;obtain⟨m0,m1,m2,m3⟩:=h4.cells4;have ml:=h4.lt;obtain⟨k0,k1,k2,k3,k4,k5,k6,k7,k8⟩:=h4.right.cells9;have kl:=h4.right.lt;have nn:=h4.ne;have nn':=nn.symm;have h5:=((h4.p2.set 3 (I M ri)).p2.set 3 (I M ri));have x5:=(x4.set (Y X2 3 H) (I M ri)).set ⟨X2+1,3,H⟩ (I M ri);have h5:ax ((w3.setCell (Y X2 3 H) (I M ri)).setCell ⟨X2+1,3,H⟩ (I M ri)) (aa (X2+1) #[I M fm.page,I M fm.size,I M fm.frame,I M ri] 39*(aa X2 #[I M y.lev,V y.e.there,V y.e.leaf,I M ri,V y.e.used,V y.e.dirty,I M y.e.frame,.slice A y.tabs.length c,.slice B y.tabs.length d] 206*(ao (.slice A y.tabs.length c) y.tabs*(ao (.slice B y.tabs.length d) pls*(aa X0 #[I M 0,I M 0,I M 0,I M 0] 39*(ai f s*R)))))):=h5;go_upto_region 7 with fail;generalize (w3.setCell (Y X2 3 H) (I M ri)).setCell ⟨X2+1,3,H⟩ (I M ri)=w4 at*
   clear h4 x4 f3 g3 m0 m1 m2 m3 ml k0 k1 k2 k3 k4 k5 k6 k7 k8 kl nn nn';obtain⟨k0,k1,k2,k3,k4,k5,k6,k7,k8⟩:=h5.right.cells9;have kl:=h5.right.lt;go_wp2_with fail
   refine(HE.out _).mono ?_;rintro e w5 ⟨rfl,b5⟩;have h6:=h5.below b5;have x6:=x5.below b5;clear h5 x5 b5 HE k0 k1 k2 k3 k4 k5 k6 k7 k8 kl;have hNo:=HN.out;obtain⟨bA,hA1,hA2,hA3⟩:=da (h6.right.right) (k:=n) (by omega);have hpll:pls.length=y.tabs.length:=by
    have:=cT h6.r3;exact this.symm
   obtain⟨bB,hB1,hB2,hB3⟩:=da (h6.r3) (k:=n) (by omega);have hAt:y.tabs[n]'(by omega)=t:=(a4.1 HT.out).2;have hBt:pls[n]'(by omega)=ix:=(a4.1 HPL.out).2;rw[hAt] at hA3;rw[hBt] at hB3;subst hA1;subst hB1;have hni:(n:Int)<y.tabs.length:=by omega
   have hlen1:((y.tabs.length:Nat):Int) - 1=(n:Int):=by omega
   obtain⟨k0,k1,k2,k3,k4,k5,k6,k7,k8⟩:=h6.right.cells9;have kl:=h6.right.lt;have HLN:=U hlen1;clear hpll hAt hBt hlen1 hNo;go_upto_region 8 with fail;go_cut [15] from 48 to 52 (fun s15 wx=>s15=I M n∧wx=w5)
   case first=>
    have hlen1:=HLN.out;go_wp2_with fail
    go_meet
    case rel=>exact⟨by first|rfl|(rw[←hlen1];done)|(rw[←hlen1];go_num),rfl⟩
   case rest=>
   obtain⟨rfl,hwr⟩:=hcut;replace hwr:=hwr.symm;subst hwr;have hn0:¬((n:Int)<0):=by omega
   have h7:ax w5.drew (ai f s*(aa (X2+1) #[I M fm.page,I M fm.size,I M fm.frame,I M ri] 39*(aa X2 #[I M y.lev,V y.e.there,V y.e.leaf,I M ri,V y.e.used,V y.e.dirty,I M y.e.frame,.slice (N (Y bA 0 H)) y.tabs.length c,.slice (N (Y bB 0 H)) y.tabs.length d] 206*(ao (.slice (N (Y bA 0 H)) y.tabs.length c) y.tabs*(ao (.slice (N (Y bB 0 H)) y.tabs.length d) pls*(aa X0 #[I M 0,I M 0,I M 0,I M 0] 39*R)))))):=(h6.eq (show _=ai f s*(aa (X2+1) #[I M fm.page,I M fm.size,I M fm.frame,I M ri] 39*(aa X2 #[I M y.lev,V y.e.there,V y.e.leaf,I M ri,V y.e.used,V y.e.dirty,I M y.e.frame,.slice (N (Y bA 0 H)) y.tabs.length c,.slice (N (Y bB 0 H)) y.tabs.length d] 206*(ao (.slice (N (Y bA 0 H)) y.tabs.length c) y.tabs*(ao (.slice (N (Y bB 0 H)) y.tabs.length d) pls*(aa X0 #[I M 0,I M 0,I M 0,I M 0] 39*R))))) by ac_rfl)).drew;have x7:=x6.drew;have HK:=U (fun(w':ag) (P Q:ab) (h:ax w' (P*(Q*(aa X2 #[I M y.lev,V y.e.there,V y.e.leaf,I M ri,V y.e.used,V y.e.dirty,I M y.e.frame,.slice (N (Y bA 0 H)) y.tabs.length c,.slice (N (Y bB 0 H)) y.tabs.length d] 206*(ao (.slice (N (Y bA 0 H)) y.tabs.length c) y.tabs*(ao (.slice (N (Y bB 0 H)) y.tabs.length d) pls*(aa X0 #[I M 0,I M 0,I M 0,I M 0] 39*R)))))))=>(by
    obtain⟨b1,e1,_,q1⟩:=da (h.r3) (k:=n) (by have:=HN.out;omega);have hpll:pls.length=y.tabs.length:=(cT h.right.r3).symm;obtain⟨b2,e2,_,q2⟩:=da (h.right.r3) (k:=n) (by have:=HN.out;omega);injection e1 with e1;injection e1 with e1
    injection e2 with e2;injection e2 with e2
    subst e1;subst e2;rw[(a4.1 HT.out).2] at q1;rw[(a4.1 HPL.out).2] at q2;exact⟨h.right.right.cell 7,h.right.right.cell 8,q1,q2⟩:w'.cell? (Y X2 7 H)=N (.slice (N (Y bA 0 H)) y.tabs.length c)∧w'.cell? (Y X2 8 H)=N (.slice (N (Y bB 0 H)) y.tabs.length d)∧w'.cell? (Y bA n H)=N (I M t)∧w'.cell? (Y bB n H)=N (I M ix)))
   clear k0 k1 k2 k3 k4 k5 k6;go_upto_region 9 with fail;go_region_held3 (fun w'=>w'.cell? (Y X2 7 H)=N (.slice (N (Y bA 0 H)) y.tabs.length c)∧w'.cell? (Y X2 8 H)=N (.slice (N (Y bB 0 H)) y.tabs.length d)∧w'.cell? (Y bA n H)=N (I M t)∧w'.cell? (Y bB n H)=N (I M ix)) (first|(with_reducible exact HK.out _ _ _ h7)|(with_reducible exact HK.out _ _ _ h8)|go_keep) (first|(go_at_call 154;(with_reducible refine(HST.out _ _ h7).mono ?_);rintro e w8 ⟨rfl,h8,x8⟩))
   have x9:=x7.trans x8;have h9:ax w8 (aa X0 #[I M 0,I M 0,I M 0,I M 0] 39*(aa (X2+1) #[I M fm.page,I M fm.size,I M fm.frame,I M ri] 39*(aa X2 #[I M y.lev,V y.e.there,V y.e.leaf,I M ri,V y.e.used,V y.e.dirty,I M y.e.frame,.slice (N (Y bA 0 H)) y.tabs.length c,.slice (N (Y bB 0 H)) y.tabs.length d] 206*(ao (.slice (N (Y bA 0 H)) y.tabs.length c) y.tabs*(ao (.slice (N (Y bB 0 H)) y.tabs.length d) pls*(ai f s'*R)))))):=h8.eq (by ac_rfl);clear h6 x6 h7 x7 h8 x8 HK HST k7 k8 kl;obtain⟨m0,m1,m2,m3⟩:=h9.right.cells4;have ml:=h9.right.lt;obtain⟨r0,r1,r2,r3⟩:=h9.cells4;obtain⟨q0,q1,q2,q3⟩:=h9.frees4;have rl:=h9.lt;go_wp2_with fail
   refine am (fun wz=>ax wz (aa X0 #[I M fm.page,I M fm.size,I M fm.frame,I M ri] 39*(aa (X2+1) #[I M fm.page,I M fm.size,I M fm.frame,I M ri] 39*(aa X2 #[I M y.lev,V y.e.there,V y.e.leaf,I M ri,V y.e.used,V y.e.dirty,I M y.e.frame,.slice (N (Y bA 0 H)) y.tabs.length c,.slice (N (Y bB 0 H)) y.tabs.length d] 206*(ao (.slice (N (Y bA 0 H)) y.tabs.length c) y.tabs*(ao (.slice (N (Y bB 0 H)) y.tabs.length d) pls*(ai f s'*R))))))∧bz w wz) ⟨h9.set4 _ _ _ _,ah⟩ ?_;rintro wz ⟨hz,xz⟩;exact a5 (aA results100 rfl rfl (bh hz)) rfl ⟨rfl,hz.right.right.r3,xz⟩
  ·exact absurd rfl hfc
 ·have hss:gX s root p ri=s:=by unfold gX;rw[if_neg (by rw[hpc];exact hfc)]
  have hm:kU s root p ri=Mp.zero:=by unfold kU;rw[if_neg (by rw[hpc];exact hfc)]
  rw[hss,hm,hpc];have hn:(bu s root p !=0)=af:=by simpa using hfc
  generalize bu s root p=fc at*
  clear hss hm hpc h hri;go_enter func100,ntmps100;go_wp2_with fail
  refine W1.out.mono ?_;rintro e w1 hF;rcases hF with ⟨h0',_⟩|⟨_,rfl,b1⟩
  ·exact absurd h0' hfc
  ·have h1:=h0.below b1
   have x1:=x0.below b1;clear h0 x0 b1 W1 hfc;have h4:ax _ (aa w.heap.size #[I M 0,I M 0,I M 0,I M 0] 39*(ai f s*(aa (w1.heap.size+1) #[I M 0,I M 0,I M 0,I M 0] 39*(aa w1.heap.size #[I M 0,V O,V O,I M 0,V O,V O,I M 0,.slice H 0 0,.slice H 0 0] 206*R)))):=((h1.new #[I M 0,V O,V O,I M 0,V O,V O,I M 0,.slice H 0 0,.slice H 0 0] 206).new #[I M 0,I M 0,I M 0,I M 0] 39).eq (by simp only[bs];ac_rfl);have x4:=(x1.alloc (.cells #[I M 0,V O,V O,I M 0,V O,V O,I M 0,.slice H 0 0,.slice H 0 0] 206)).alloc (.cells #[I M 0,I M 0,I M 0,I M 0] 39);clear h1 x1;unfold uz;go_upto_region 4 with fail;generalize (w1.alloc (.cells #[I M 0,V O,V O,I M 0,V O,V O,I M 0,.slice H 0 0,.slice H 0 0] 206)).alloc (.cells #[I M 0,I M 0,I M 0,I M 0] 39)=w3 at*
   generalize w1.heap.size=X2 at*
   generalize w.heap.size=X0 at*
   obtain⟨r0,r1,r2,r3⟩:=h4.cells4;obtain⟨q0,q1,q2,q3⟩:=h4.frees4;have rl:=h4.lt;go_wp2_with fail
   refine am (fun wz=>ax wz (aa X0 #[I M 0,I M 0,I M 0,I M 0] 39*(ai f s*(aa (X2+1) #[I M 0,I M 0,I M 0,I M 0] 39*(aa X2 #[I M 0,V O,V O,I M 0,V O,V O,I M 0,.slice H 0 0,.slice H 0 0] 206*R))))∧bz w wz) ⟨h4.set4 _ _ _ _,ah⟩ ?_;rintro wz ⟨hz,xz⟩;exact a5 (aA results100 rfl rfl (bh hz)) rfl ⟨rfl,hz.right.eq (show _=aa (X2+1) #[I M 0,I M 0,I M 0,I M 0] 39*(aa X2 #[I M 0,V O,V O,I M 0,V O,V O,I M 0,.slice H 0 0,.slice H 0 0] 206*(ai f s*R)) by ac_rfl) |>.right.right,xz⟩
end Go.Proofs.YtmfheghbgihdmaaGreat
