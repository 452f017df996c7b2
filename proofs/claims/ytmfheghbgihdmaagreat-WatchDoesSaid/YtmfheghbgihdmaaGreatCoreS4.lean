/- The document's Core.Step, where it marks a leaf. -/
import Derived.Test.YtmfheghbgihdmaaGreatRspA
namespace Go.Proofs.YtmfheghbgihdmaaGreat
open Go.IntKind renaming u64→vU
open Bool renaming true→b,false→g
open Go.Value renaming int→d,bool→u
open Go.IntKind renaming i64→f,wrap_i64→M
open Go.Lib renaming hid→o
open Option renaming none→p,some→x
open Go.Addr renaming mk→y
open Go.Proofs.YtmfheghbgihdmaaGreat.Pure renaming via→z
open Go renaming bodyPost_ret→B,World→I,Calls→J
open Go.Proofs.YtmfheghbgihdmaaGreat.Good renaming const→C,till→E,and→F
open Go.Proofs.YtmfheghbgihdmaaGreat renaming Has→D,Ext→H
open Int renaming eq_ofNat_of_zero_le→G
open Tryz
open Go.RowKit
set_option maxRecDepth 100000
set_option maxHeartbeats 8000000 in
theorem pi(q m X:Nat)(root:Int)(l:List Ln)(k:Ck)(s:Ms)(R:ab)(W:I)(A:Option Addr)(c:Nat)
  (h1:D (W.alloc (.cells #[d f 0,d f 0,d f 0] 34)) (aa W.heap.size #[d f 0,d f 0,d f 0] 34*aM q A c l k (az m s*(aa X #[d f 0,d f 0,d f 0,d f 0,u g] 129*R))))
  (x1:H W (W.alloc (.cells #[d f 0,d f 0,d f 0] 34))) (hon:k.on=b) (t j:Nat) (HTT:Hid (k.t=(t:Int))) (hj8:j<8) (htn:t<s.n) (_:s.n≤128)
  (hj:am k.a.page k.level=(j:Int)) (ht:s.has (t:Int)=b) (v:Int) (HV:Hid (s.wd t j=v)) (hvb:0≤v∧v<18446744073709551616) (hcond:(k.mark&&v !=k.w)=g)
  (rg:Int) (us di:Bool) (fr:Int) (hE:eZ v k.level= .tuple #[.agg #[u b,u b,d f rg,u us,u di,d f fr],d f 0]) (hmay:may rg k.a=b) (HMK:Hid (k.mark=b)) (hr:dX ⟨b,b,rg,us,di,fr⟩ k.a=g) (hstep:aR s root k=k.leafEnd (s.setW t j (bt (ch ⟨b,b,rg,us,di,fr⟩ k.a) k.level)) (ch ⟨b,b,rg,us,di,fr⟩ k.a)):
  J prog 67 #[.pointer (x (y q 0 p)),.pointer (x (y m 0 p)),d f root,.pointer (x (y X 0 p))] W
   (cI (.tuple #[.agg #[d f (aR s root k).r.an.fin,d f (aR s root k).r.an.frame,d f (aR s root k).r.an.rights],u (aR s root k).r.fin,d f (aR s root k).code])
    (aQ q l (aR s root k).c *(az m (aR s root k).s *(aa X #[d f (aR s root k).r.ln.m.page,d f (aR s root k).r.ln.m.size,d f (aR s root k).r.ln.m.frame,d f (aR s root k).r.ln.m.rights,u (aR s root k).r.ln.dirty] 129*R))) W):=by
 have HT:=o (fun R X h=>nv m s (t:Int) R X h);rw[ht] at HT;have HI:=o (fun Y=>dP k.a.page k.level Y);rw[hj] at HI;have HD:=o (fun Y=>ii v k.level Y hvb.1 hvb.2);rw[hE] at HD;have HY:=o (fun Y=>jt rg k.a.page k.a.kind k.a.user Y);rw[show(⟨k.a.page,k.a.kind,k.a.user⟩:Ac)=k.a from rfl,hmay] at HY;have htnz:(t:Int)< (s.n:Int):=by omega
 have hj8z:(j:Int)<8:=by omega
 clear ht hj hE hmay hvb;have hy:=o (hstep.trans (show _=k.leafEnd (s.setW t j (bt ⟨b,b,rg,b,di||k.a.kind==1,fr⟩ k.level)) ⟨b,b,rg,b,di||k.a.kind==1,fr⟩ from rfl));clear hstep;have HWD:Hid (∀Y,J prog 124 #[.agg #[u b,u b,d f rg,u b,u (di||k.a.kind==1),d f fr],.int .i64 k.level] Y (Pure (.tuple #[d vU (bt ⟨b,b,rg,b,di||k.a.kind==1,fr⟩ k.level),d f (aj ⟨b,b,rg,b,di||k.a.kind==1,fr⟩ k.level)]) Y)):=o (fun Y=>iY ⟨b,b,rg,b,di||k.a.kind==1,fr⟩ k.level Y);generalize aj ⟨b,b,rg,b,di||k.a.kind==1,fr⟩ k.level=cf at*
 generalize bt ⟨b,b,rg,b,di||k.a.kind==1,fr⟩ k.level=nw at*
 have HYR:=o (hy.out.trans (show k.leafEnd (s.setW t j nw) ⟨b,b,rg,b,di||k.a.kind==1,fr⟩=⟨k.idle,(s.setW t j nw),⟨b,bJ (aA ⟨b,b,rg,b,di||k.a.kind==1,fr⟩ k.level k.a.page) k.a,⟨aA ⟨b,b,rg,b,di||k.a.kind==1,fr⟩ k.level k.a.page,di||k.a.kind==1⟩⟩,0⟩ from rfl));have HLM:Hid (∀Y,J prog 80 #[.agg #[u b,u b,d f rg,u b,u (di||k.a.kind==1),d f fr],.int .i64 k.level,.int .i64 k.a.page] Y (Pure (.agg #[d f (aA ⟨b,b,rg,b,di||k.a.kind==1,fr⟩ k.level k.a.page).page,d f (aA ⟨b,b,rg,b,di||k.a.kind==1,fr⟩ k.level k.a.page).size,d f (aA ⟨b,b,rg,b,di||k.a.kind==1,fr⟩ k.level k.a.page).frame,d f (aA ⟨b,b,rg,b,di||k.a.kind==1,fr⟩ k.level k.a.page).rights]) Y)):=o (fun Y=>gU ⟨b,b,rg,b,di||k.a.kind==1,fr⟩ k.level k.a.page Y);have HAN:Hid (∀Y,J prog 92 #[.agg #[d f (aA ⟨b,b,rg,b,di||k.a.kind==1,fr⟩ k.level k.a.page).page,d f (aA ⟨b,b,rg,b,di||k.a.kind==1,fr⟩ k.level k.a.page).size,d f (aA ⟨b,b,rg,b,di||k.a.kind==1,fr⟩ k.level k.a.page).frame,d f (aA ⟨b,b,rg,b,di||k.a.kind==1,fr⟩ k.level k.a.page).rights],.agg #[d f k.a.page,d f k.a.kind,u k.a.user]] Y (Pure (.agg #[d f (bJ (aA ⟨b,b,rg,b,di||k.a.kind==1,fr⟩ k.level k.a.page) k.a).fin,d f (bJ (aA ⟨b,b,rg,b,di||k.a.kind==1,fr⟩ k.level k.a.page) k.a).frame,d f (bJ (aA ⟨b,b,rg,b,di||k.a.kind==1,fr⟩ k.level k.a.page) k.a).rights]) Y)):=o (fun Y=>iX (aA ⟨b,b,rg,b,di||k.a.kind==1,fr⟩ k.level k.a.page) k.a.page k.a.kind k.a.user Y);clear hy;generalize bJ (aA ⟨b,b,rg,b,di||k.a.kind==1,fr⟩ k.level k.a.page) k.a=an at*
 generalize aA ⟨b,b,rg,b,di||k.a.kind==1,fr⟩ k.level k.a.page=lm at*
 have HI2:=o HI.out;go_enter func67,ntmps67;go_upto_region 1 with fail;generalize W.alloc _=W1 at*
 generalize W.heap.size=X0 at*
 obtain⟨q1,q2,q3,q4,q5,q6,q7,q8,ql⟩:=aJ h1.right;rw[hon] at q1;rw[HTT.out] at q5;go_wp2_with fail
 refine(HT.out _ _ h1.r3).mono ?_;rintro e2 w2 ⟨rfl,rfl⟩;obtain⟨gw,gi,vk,hq⟩:=cm h1.r3;have d0:=ae (Has.cell hq 0);have dw:=bX hq htn hj8;rw[HV.out] at dw;have dw:=ae dw;have v2:=ae q2;have v5:=ae q5;have v6:=ae q6;clear hq q1 q2 q3 q4 q5 q6 q7 q8 ql HT;go_upto_region 5 with fail;refine ap (by kernel_rfl) (by kernel_rfl) ?_;repeat(first|go_big_quiet_step ((go_at_call 120;exact z (HI.out _)))|quiet_step ((go_at_call 120;exact z (HI.out _))))
 refine wpQuiet_nil ?_;intro _ hw';obtain⟨uq,hw''⟩:=hw';subst hw'';have h2:=h1.via uq;have x2:=x1.below (aB _ uq);generalize fJ W1 uq=W2 at*
 clear h1 x1 d0 dw v2 v5 v6 HI;obtain⟨q1,q2,q3,q4,q5,q6,q7,q8,ql⟩:=aJ h2.right;go_upto_region 6 with fail;go_cut [62] from 51 to 62 (fun s62 wx=>s62=u g∧D wx (aa X0 #[d f 0,d f 0,d f 0] 34*aM q A c l k (az m s*(aa X #[d f 0,d f 0,d f 0,d f 0,u g] 129*R)))∧H W wx)
 case first=>
  cases hmk:k.mark with
  |false=>
   rw[hmk] at q7;clear hmk hcond;go_wp2_with fail
   go_meet
   case rel=>exact⟨rfl,h2,x2⟩
  |true=>
   rw[hmk] at q7 hcond;have hcond':(v !=k.w)=g:=hcond;clear hmk hcond;go_wp2_with fail
   go_meet
   case rel=>exact⟨rfl,h2,x2⟩
 case rest=>
  clear h2 x2 q1 q2 q3 q4 q5 q6 q7 q8 ql hcond;obtain⟨rfl,h2,x2⟩:=hcut;obtain⟨q1,q2,q3,q4,q5,q6,q7,q8,ql⟩:=aJ h2.right;go_wp2_with fail
  refine(HD.out _).mono ?_;rintro e2 w3 ⟨rfl,b3⟩;have h3:=h2.below b3;have x3:=x2.below b3;clear h2 x2 b3 HD q1 q2 q3 q4 q5 q6 q7 q8 ql;have h4:=h3.new #[u b,u b,d f rg,u us,u di,d f fr] 70;have x4:=x3.alloc (.cells #[u b,u b,d f rg,u us,u di,d f fr] 70);clear h3 x3;go_upto_region 18 with fail;generalize w3.alloc _=w4 at*
  generalize w3.heap.size=EB at*
  obtain⟨e0',e1',e2',e3',e4',e5'⟩:=h4.cells6;have el:=h4.lt;obtain⟨q1,q2,q3,q4,q5,q6,q7,q8,ql⟩:=aJ h4.right.right;have v2:=ae q2;have v3:=ae q3;have v4:=ae q4;have ve2:=ae e2';clear e0' e1' e2' e3' e4' e5' el q1 q2 q3 q4 q5 q6 q7 q8 ql;refine ap (by kernel_rfl) (by kernel_rfl) ?_;repeat(first|go_big_quiet_step ((go_at_call 123;exact z (HY.out _)))|quiet_step ((go_at_call 123;exact z (HY.out _))))
  refine wpQuiet_nil ?_;intro _ hw';obtain⟨uq,hw''⟩:=hw';subst hw'';have h5:=h4.via uq;have x5:=x4.below (aB _ uq);generalize fJ w4 uq=w5 at*
  clear h4 x4 v2 v3 v4 ve2 HY;obtain⟨q1,q2,q3,q4,q5,q6,q7,q8,ql⟩:=aJ h5.right.right;obtain⟨e0',e1',e2',e3',e4',e5'⟩:=h5.cells6;have el:=h5.lt;go_upto_region 20 with fail;go_cut [14] from 119 to 132 (fun s14 wx=>s14=u g∧D wx (aa EB #[u b,u b,d f rg,u us,u di,d f fr] 70*(aa X0 #[d f 0,d f 0,d f 0] 34*aM q A c l k (az m s*(aa X #[d f 0,d f 0,d f 0,d f 0,u g] 129*R))))∧H W wx)
  case first=>
   have HRR:=o hr;clear hr;cases us with
   |false=>
    go_wp2_with fail
    go_meet
    case rel=>exact⟨by rw[←HRR.out];first|done|rfl,h5,x5⟩
   |true=>
    cases di with
    |true=>
     go_wp2_with fail
     go_meet
     case rel=>exact⟨by rw[←HRR.out];first|done|rfl,h5,x5⟩
    |false=>
     go_wp2_with fail
     go_meet
     case rel=>exact⟨by rw[←HRR.out];first|done|rfl,h5,x5⟩
  case rest=>
   clear h5 x5 q1 q2 q3 q4 q5 q6 q7 q8 ql e0' e1' e2' e3' e4' e5' el hr;obtain⟨rfl,h6,x6⟩:=hcut;obtain⟨q1,q2,q3,q4,q5,q6,q7,q8,ql⟩:=aJ h6.right.right;rw[HMK.out] at q7;obtain⟨e0',e1',e2',e3',e4',e5'⟩:=h6.cells6;have el:=h6.lt;have f3:=h6.free 3;go_upto_region 26 with fail;have h7:D (wc.setCell (y EB 3 p) (u b)) (aa EB #[u b,u b,d f rg,u b,u di,d f fr] 70*(aa X0 #[d f 0,d f 0,d f 0] 34*aM q A c l k (az m s*(aa X #[d f 0,d f 0,d f 0,d f 0,u g] 129*R)))):=h6.set 3 (u b);have x7:=x6.set (y EB 3 p) (u b);generalize wc.setCell (y EB 3 p) (u b)=w7 at*
   clear h6 x6 e0' e1' e2' e3' e4' e5' el q1 q2 q3 q4 q5 q6 q7 q8 ql f3;go_cut [] from 155 to 165 (fun wx=>D wx (aa EB #[u b,u b,d f rg,u b,u (di||k.a.kind==1),d f fr] 70*(aa X0 #[d f 0,d f 0,d f 0] 34*aM q A c l k (az m s*(aa X #[d f 0,d f 0,d f 0,d f 0,u g] 129*R))))∧H W wx)
   case first=>
    have e4':=h7.cell 4;have f4:=h7.free 4;have el:=h7.lt;obtain⟨q1,q2,q3,q4,q5,q6,q7,q8,ql⟩:=aJ h7.right.right;clear q1 q2 q4 q5 q6 q7 q8;cases di with
    |false=>
     go_wp2_with fail
     go_meet
     case rel=>exact⟨h7.set 4 (u (k.a.kind==1)),x7.set _ _⟩
    |true=>
     go_wp2_with fail
     go_meet
     case rel=>exact⟨h7.set 4 (u b),x7.set _ _⟩
   case rest=>
    clear h7 x7;obtain⟨h8,x8⟩:=hcut;go_upto_region 27 with fail;have hm5:D wc (az m s*(aa EB #[u b,u b,d f rg,u b,u (di||k.a.kind==1),d f fr] 70*(aa X0 #[d f 0,d f 0,d f 0] 34*aM q A c l k (aa X #[d f 0,d f 0,d f 0,d f 0,u g] 129*R)))):=h8.eq (by unfold aM;ac_rfl);obtain⟨gw,gi,vk,hq⟩:=cm hm5;clear hm5 h8;have HK:=o (fun(w':I) (sx:Ms) (h:D w' (da m gw gi vk sx (aa EB #[u b,u b,d f rg,u b,u (di||k.a.kind==1),d f fr] 70*(aa X0 #[d f 0,d f 0,d f 0] 34*aM q A c l k (aa X #[d f 0,d f 0,d f 0,d f 0,u g] 129*R)))))=>(by
     have hR:=h.right.r3;obtain⟨t1,t2,t3,t4,t5,t6,t7,t8,_⟩:=aJ hR.right.right;exact⟨Has.cell h 0,hR.cell 0,hR.cell 1,hR.cell 2,hR.cell 3,hR.cell 4,hR.cell 5,t2,t5.trans (by rw[HTT.out]),t6⟩:w'.cell? (y m 0 p)=x (.slice (x (y gw 0 p)) sx.n sx.n)∧w'.cell? (y EB 0 p)=x (u b)∧w'.cell? (y EB 1 p)=x (u b)∧w'.cell? (y EB 2 p)=x (d f rg)∧w'.cell? (y EB 3 p)=x (u b)∧w'.cell? (y EB 4 p)=x (u (di||k.a.kind==1))∧w'.cell? (y EB 5 p)=x (d f fr)∧w'.cell? (y q 2 p)=x (d f k.a.page)∧w'.cell? (y q 5 p)=x (d f (t:Int))∧w'.cell? (y q 6 p)=x (d f k.level)))
    go_cut [] from 166 to 194 (fun wx=>D wx (aa EB #[u b,u b,d f rg,u b,u (di||k.a.kind==1),d f fr] 70*(aa X0 #[d f 0,d f 0,d f 0] 34*aM q A c l k (az m (s.setW t j nw)*(aa X #[d f 0,d f 0,d f 0,d f 0,u g] 129*R))))∧H W wx)
    case first=>
     have hq0:=hq.drew;have xq0:=x8.drew;go_region_held3 (fun w'=>w'.cell? (y m 0 p)=x (.slice (x (y gw 0 p)) s.n s.n)∧w'.cell? (y EB 0 p)=x (u b)∧w'.cell? (y EB 1 p)=x (u b)∧w'.cell? (y EB 2 p)=x (d f rg)∧w'.cell? (y EB 3 p)=x (u b)∧w'.cell? (y EB 4 p)=x (u (di||k.a.kind==1))∧w'.cell? (y EB 5 p)=x (d f fr)∧w'.cell? (y q 2 p)=x (d f k.a.page)∧w'.cell? (y q 5 p)=x (d f (t:Int))∧w'.cell? (y q 6 p)=x (d f k.level)) (first|(with_reducible exact HK.out _ s hq0)|(with_reducible exact HK.out _ s hi5)|(with_reducible exact HK.out _ s hw6)|(exact HK.out _ (s.setW t j nw) (df (k:=t) (i:=j) hw6 hj8 nw))|go_keep) (first|(go_at_call 120;(with_reducible refine(HI2.out _).mono ?_);rintro e2 w5 ⟨rfl,b5⟩;first|(have hi5:=hw6.below b5;have xi5:=xw6.below b5;have y0:=bX hi5 htn hj8;have y1:=hi5.right.free (t*8+j);have y2:=hi5.right.lt)|(have hi5:=hq0.below b5;have xi5:=xq0.below b5))|(go_at_call 124;(with_reducible refine(HWD.out _).mono ?_);rintro e2 w6 ⟨rfl,b6⟩;first|(have hw6:=hi5.below b6;have xw6:=xi5.below b6;have y0:=bX hw6 htn hj8;have y1:=hw6.right.free (t*8+j);have y2:=hw6.right.lt)|(have hw6:=hq0.below b6;have xw6:=xq0.below b6)))
     all_goals
      go_wp2_with fail
      go_meet
      case rel=>
       have h7:=cR (df (k:=t) (i:=j) hw6 hj8 nw);exact⟨h7.eq (by unfold aM;ac_rfl),xw6.set _ _⟩
    case rest=>
     clear hq x8 HK;obtain⟨h9,x9⟩:=hcut;obtain⟨e0',e1',e2',e3',e4',e5'⟩:=h9.cells6;have el:=h9.lt;obtain⟨q1,q2,q3,q4,q5,q6,q7,q8,ql⟩:=aJ h9.right.right;go_upto_region 28 with fail;have HK:=o (fun(w':I) (P:ab) (h:D w' (aa EB #[u b,u b,d f rg,u b,u (di||k.a.kind==1),d f fr] 70*(aa X0 #[d f 0,d f 0,d f 0] 34*aM q A c l k P)))=>(by
      obtain⟨t1,t2,t3,t4,t5,t6,t7,t8,_⟩:=aJ h.right.right;obtain⟨b0,b1,b2,b3,b4,b5⟩:=h.cells6;exact⟨b0,b1,b2,b3,b4,b5,t2,t6⟩:w'.cell? (y EB 0 p)=x (u b)∧w'.cell? (y EB 1 p)=x (u b)∧w'.cell? (y EB 2 p)=x (d f rg)∧w'.cell? (y EB 3 p)=x (u b)∧w'.cell? (y EB 4 p)=x (u (di||k.a.kind==1))∧w'.cell? (y EB 5 p)=x (d f fr)∧w'.cell? (y q 2 p)=x (d f k.a.page)∧w'.cell? (y q 6 p)=x (d f k.level)))
     go_cut [15] from 195 to 205 (fun s15 wx=>∃XM:Nat,s15= .pointer (x (y XM 0 p))∧D wx (aa XM #[d f lm.page,d f lm.size,d f lm.frame,d f lm.rights] 39*(aa EB #[u b,u b,d f rg,u b,u (di||k.a.kind==1),d f fr] 70*(aa X0 #[d f 0,d f 0,d f 0] 34*aM q A c l k (az m (s.setW t j nw)*(aa X #[d f 0,d f 0,d f 0,d f 0,u g] 129*R)))))∧H W wx)
     case first=>
      go_region_held3 (fun w'=>w'.cell? (y EB 0 p)=x (u b)∧w'.cell? (y EB 1 p)=x (u b)∧w'.cell? (y EB 2 p)=x (d f rg)∧w'.cell? (y EB 3 p)=x (u b)∧w'.cell? (y EB 4 p)=x (u (di||k.a.kind==1))∧w'.cell? (y EB 5 p)=x (d f fr)∧w'.cell? (y q 2 p)=x (d f k.a.page)∧w'.cell? (y q 6 p)=x (d f k.level)) (first|(with_reducible exact HK.out _ _ (h9).drew)|(with_reducible exact HK.out _ _ hL)|(with_reducible exact HK.out _ _ (hL.alloc _))|(with_reducible exact HK.out _ _ gL.right)|(with_reducible exact HK.out _ _ ((h9).drew.alloc _))|(with_reducible exact HK.out _ _ (gL.set4 _ _ _ _).right)|go_keep) (first|(go_at_call 80;(with_reducible refine(HLM.out _).mono ?_);rintro e2 wL ⟨rfl,bL⟩;first|(have hL:=(h9).drew.below bL;have xL:=(x9).drew.below bL)|(have gL:D wL (aa (wc).heap.size #[d f 0,d f 0,d f 0,d f 0] 39*(aa EB #[u b,u b,d f rg,u b,u (di||k.a.kind==1),d f fr] 70*(aa X0 #[d f 0,d f 0,d f 0] 34*aM q A c l k (az m (s.setW t j nw)*(aa X #[d f 0,d f 0,d f 0,d f 0,u g] 129*R))))):=((h9).drew.new #[d f 0,d f 0,d f 0,d f 0] 39).below bL;have yL:=((x9).drew.alloc _).below bL;obtain⟨y0,y1,y2,y3⟩:=gL.frees4;obtain⟨z0,z1,z2,z3⟩:=gL.cells4;have zl:=gL.lt)))
      all_goals
       go_wp2_with fail
       go_meet
       case rel=>first|exact⟨_,rfl,hL.new #[d f lm.page,d f lm.size,d f lm.frame,d f lm.rights] 39,xL.alloc _⟩|exact⟨_,rfl,gL.set4 _ _ _ _,(((yL.set _ _).set _ _).set _ _).set _ _⟩
     case rest=>
      obtain⟨XM,rfl,hM,xM⟩:=hcut;clear HK HLM e0' e1' e2' e3' e4' e5' el q1 q2 q3 q4 q5 q6 q7 q8 ql;have hX:D wc (aa X #[d f 0,d f 0,d f 0,d f 0,u g] 129*(aa XM #[d f lm.page,d f lm.size,d f lm.frame,d f lm.rights] 39*(aa EB #[u b,u b,d f rg,u b,u (di||k.a.kind==1),d f fr] 70*(aa X0 #[d f 0,d f 0,d f 0] 34*aM q A c l k (az m (s.setW t j nw)*R))))):=hM.eq (by unfold aM;ac_rfl);obtain⟨m0,m1,m2,m3⟩:=hX.right.cells4;have ml:=hX.right.lt;have e4':=hX.right.right.cell 4;have el:=hX.right.right.lt;obtain⟨s0,s1,s2,s3,s4⟩:=hX.cells5;have sl:=hX.lt;have f0:=hX.free 0;have f1:=hX.free 1;have f2:=hX.free 2;have f3:=hX.free 3;have f4:=hX.free 4;have hX2:=hX.set5 (d f lm.page) (d f lm.size) (d f lm.frame) (d f lm.rights) (u (di||k.a.kind==1));have xX2:=((((xM.set (y X 0 p) (d f lm.page)).set (y X 1 p) (d f lm.size)).set (y X 2 p) (d f lm.frame)).set (y X 3 p) (d f lm.rights)).set (y X 4 p) (u (di||k.a.kind==1));go_upto_region 30 with fail;generalize ((((wc.setCell (y X 0 p) (d f lm.page)).setCell (y X 1 p) (d f lm.size)).setCell (y X 2 p) (d f lm.frame)).setCell (y X 3 p) (d f lm.rights)).setCell (y X 4 p) (u (di||k.a.kind==1))=w12 at*
      clear hM xM hX m0 m1 m2 m3 ml e4' el s0 s1 s2 s3 s4 sl f0 f1 f2 f3 f4;have hB:D w12 (aa XM #[d f lm.page,d f lm.size,d f lm.frame,d f lm.rights] 39*aM q A c l k (aa X0 #[d f 0,d f 0,d f 0] 34*(aa EB #[u b,u b,d f rg,u b,u (di||k.a.kind==1),d f fr] 70*(az m (s.setW t j nw)*(aa X #[d f lm.page,d f lm.size,d f lm.frame,d f lm.rights,u (di||k.a.kind==1)] 129*R))))):=hX2.eq (by unfold aM;ac_rfl);clear hX2;obtain⟨q1,q2,q3,q4,q5,q6,q7,q8,ql⟩:=aJ hB.right;obtain⟨m0,m1,m2,m3⟩:=hB.cells4;have ml:=hB.lt;have HN:=o (fun R X h=>qk q l k an R X h);have HKX:=o (fun(w':I) (P:ab) (h:D w' (aa XM #[d f lm.page,d f lm.size,d f lm.frame,d f lm.rights] 39*P))=>h.cells4);have hBd:=hB.drew;obtain⟨n1',n2',n3',n4',n5',n6',n7',n8',nl'⟩:=aJ hBd.right;have hS0:(fun(L:Array Bool) (w':I)=>(w'.cell? (y XM 0 p)=x (d f lm.page)∧w'.cell? (y XM 1 p)=x (d f lm.size)∧w'.cell? (y XM 2 p)=x (d f lm.frame)∧w'.cell? (y XM 3 p)=x (d f lm.rights))∧Till 6 5 (fun w'=>w'.cell? (y q 2 p)=x (d f k.a.page)∧w'.cell? (y q 3 p)=x (d f k.a.kind)∧w'.cell? (y q 4 p)=x (u k.a.user)) L w') (Array.replicate 14 g) w12.drew:=⟨hBd.cells4,Till.start ⟨n2',n3',n4'⟩⟩;clear n1' n2' n3' n4' n5' n6' n7' n8' nl';refine iE (S:=fun L w'=>(w'.cell? (y XM 0 p)=x (d f lm.page)∧w'.cell? (y XM 1 p)=x (d f lm.size)∧w'.cell? (y XM 2 p)=x (d f lm.frame)∧w'.cell? (y XM 3 p)=x (d f lm.rights))∧Till 6 5 (fun w'=>w'.cell? (y q 2 p)=x (d f k.a.page)∧w'.cell? (y q 3 p)=x (d f k.a.kind)∧w'.cell? (y q 4 p)=x (u k.a.user)) L w') (by kernel_rfl) hS0 (fun hHeld=> ?_);clear q1 q2 q3 q4 q5 q6 q7 q8 ql m0 m1 m2 m3 ml;refine aO (i:=0) (v:= ?_) rfl (by kernel_rfl) (by kernel_rfl) (by kernel_rfl) (fun _ _ _ h=>h) (F C (E (by decide) ⟨_,⟨5,.data⟩,rfl,by simp,rfl,rfl⟩)) (Or.inl ⟨by kernel_rfl,?_⟩) hHeld (fun hHeld=> ?_);rotate_left;focus (intro wS hSw;obtain⟨Lx,hLx,hs1,hs2⟩:=hSw;skip;go_simp;first|done|with_reducible rfl)
      refine aO (i:=1) (v:= ?_) rfl (by kernel_rfl) (by kernel_rfl) (by kernel_rfl) (fun _ _ _ h=>h) (F C (E (by decide) ⟨_,⟨5,.data⟩,rfl,by simp,rfl,rfl⟩)) (Or.inl ⟨by kernel_rfl,?_⟩) hHeld (fun hHeld=> ?_);rotate_left;focus (intro wS hSw;obtain⟨Lx,hLx,hs1,hs2⟩:=hSw;obtain⟨s0,s1,s2,s3⟩:=hs1;go_simp;first|done|with_reducible rfl)
      refine aO (i:=2) (v:= ?_) rfl (by kernel_rfl) (by kernel_rfl) (by kernel_rfl) (fun _ _ _ h=>h) (F C (E (by decide) ⟨_,⟨5,.data⟩,rfl,by simp,rfl,rfl⟩)) (Or.inl ⟨by kernel_rfl,?_⟩) hHeld (fun hHeld=> ?_);rotate_left;focus (intro wS hSw;obtain⟨Lx,hLx,hs1,hs2⟩:=hSw;skip;go_simp;first|done|with_reducible rfl)
      refine aO (i:=3) (v:= ?_) rfl (by kernel_rfl) (by kernel_rfl) (by kernel_rfl) (fun _ _ _ h=>h) (F C (E (by decide) ⟨_,⟨5,.data⟩,rfl,by simp,rfl,rfl⟩)) (Or.inl ⟨by kernel_rfl,?_⟩) hHeld (fun hHeld=> ?_);rotate_left;focus (intro wS hSw;obtain⟨Lx,hLx,hs1,hs2⟩:=hSw;skip;go_simp;first|done|with_reducible rfl)
      refine aO (i:=4) (v:= ?_) rfl (by kernel_rfl) (by kernel_rfl) (by kernel_rfl) (fun _ _ _ h=>h) (F C (E (by decide) ⟨_,⟨5,.data⟩,rfl,by simp,rfl,rfl⟩)) (Or.inl ⟨by kernel_rfl,?_⟩) hHeld (fun hHeld=> ?_);rotate_left;focus (intro wS hSw;obtain⟨Lx,hLx,hs1,hs2⟩:=hSw;skip;go_simp;first|done|with_reducible rfl)
      refine aO (i:=5) (v:= ?_) rfl (by kernel_rfl) (by kernel_rfl) (by kernel_rfl) (fun _ _ _ h=>h) (F C (E (by decide) ⟨_,⟨5,.data⟩,rfl,by simp,rfl,rfl⟩)) (Or.inl ⟨by kernel_rfl,?_⟩) hHeld (fun hHeld=> ?_);rotate_left;focus (intro wS hSw;obtain⟨Lx,hLx,hs1,hs2⟩:=hSw;obtain⟨s0,s1,s2⟩:=hs2.still hLx;go_simp;first|done|with_reducible rfl)
      refine aX (rs:=[6]) (by kernel_rfl) (by simp) ?_;refine OneOf.cons rfl (fun K hK=> ?_) OneOf.nil;go_simp;go_wp2_with(refine(HAN.out _).mono ?_;rintro e2 w13 ⟨rfl,b13⟩)
      have h13:=hBd.below b13;have x13:=xX2.drew.below b13;refine hK.out _ _ ⟨HKX.out _ _ h13,⟨fun _=>by kernel_rfl,fun h=>aS (by kernel_rfl) h⟩⟩ (fun hHeld=> ?_);clear hK K hB hBd hS0 xX2 b13 HAN;refine aX (rs:=[7]) (by kernel_rfl) (by simp) ?_;refine OneOf.cons rfl (fun K hK=> ?_) OneOf.nil;go_simp;go_wp2_with(refine(HN.out _ _ (bE (nH h13))).mono ?_;rintro e2 w14 ⟨rfl,h14,x14⟩)
      have x15:=x13.trans x14;have hA:D w14 (aa X0 #[d f 0,d f 0,d f 0] 34*(aa XM #[d f lm.page,d f lm.size,d f lm.frame,d f lm.rights] 39*(aQ q l k.idle*(aa EB #[u b,u b,d f rg,u b,u (di||k.a.kind==1),d f fr] 70*(az m (s.setW t j nw)*(aa X #[d f lm.page,d f lm.size,d f lm.frame,d f lm.rights,u (di||k.a.kind==1)] 129*R)))))):=h14.eq (by ac_rfl);refine hK.out _ _ ⟨HKX.out _ _ hA.right,⟨fun _=>by kernel_rfl,fun h=>aS (by kernel_rfl) h⟩⟩ (fun hHeld=> ?_);clear hK K h13 x13 h14 x14 HN;refine aO (i:=8) (v:= ?_) rfl (by kernel_rfl) (by kernel_rfl) (by kernel_rfl) (fun _ _ _ h=>h) (F C (E (by decide) ⟨_,⟨5,.data⟩,rfl,by simp,rfl,rfl⟩)) (Or.inl ⟨by kernel_rfl,?_⟩) hHeld (fun hHeld=> ?_);rotate_left;focus (intro wS hSw;obtain⟨Lx,hLx,hs1,hs2⟩:=hSw;skip;go_simp;first|done|with_reducible rfl)
      refine aO (i:=9) (v:= ?_) rfl (by kernel_rfl) (by kernel_rfl) (by kernel_rfl) (fun _ _ _ h=>h) (F C (E (by decide) ⟨_,⟨5,.data⟩,rfl,by simp,rfl,rfl⟩)) (Or.inl ⟨by kernel_rfl,?_⟩) hHeld (fun hHeld=> ?_);rotate_left;focus (intro wS hSw;obtain⟨Lx,hLx,hs1,hs2⟩:=hSw;skip;go_simp;first|done|with_reducible rfl)
      refine aO (i:=10) (v:= ?_) rfl (by kernel_rfl) (by kernel_rfl) (by kernel_rfl) (fun _ _ _ h=>h) (F C (E (by decide) ⟨_,⟨5,.data⟩,rfl,by simp,rfl,rfl⟩)) (Or.inl ⟨by kernel_rfl,?_⟩) hHeld (fun hHeld=> ?_);rotate_left;focus (intro wS hSw;obtain⟨Lx,hLx,hs1,hs2⟩:=hSw;skip;go_simp;first|done|with_reducible rfl)
      obtain⟨r0,r1,r2⟩:=hA.cells3;obtain⟨g0,g1,g2⟩:=hA.frees3;have rl:=hA.lt;have hF:=hA.set3 (d f an.fin) (d f an.frame) (d f an.rights);refine aX (rs:=[11]) (by kernel_rfl) (by simp) ?_;refine OneOf.cons rfl (fun K hK=> ?_) OneOf.nil;go_simp;refine hK.out _ _ ⟨HKX.out _ _ hF.right,⟨fun _=>by kernel_rfl,fun h=>aS (by kernel_rfl) h⟩⟩ (fun hHeld=> ?_);clear hK K;refine aX (rs:=[12]) (by kernel_rfl) (by simp) ?_;refine OneOf.cons rfl (fun K hK=> ?_) OneOf.nil;go_simp;refine hK.out _ _ ⟨HKX.out _ _ hF.right,⟨fun _=>by kernel_rfl,fun h=>aS (by kernel_rfl) h⟩⟩ (fun hHeld=> ?_);clear hK K;refine aX (rs:=[13]) (by kernel_rfl) (by simp) ?_;refine OneOf.cons rfl (fun K hK=> ?_) OneOf.nil;go_simp;refine hK.out _ _ ⟨HKX.out _ _ hF.right,⟨fun _=>by kernel_rfl,fun h=>aS (by kernel_rfl) h⟩⟩ (fun hHeld=> ?_);clear hK K;refine fj (by kernel_rfl) ?_;clear hHeld;go_wp2_with fail
      refine ak (fun wz=>D wz (aa X0 #[d f an.fin,d f an.frame,d f an.rights] 34*(aa XM #[d f lm.page,d f lm.size,d f lm.frame,d f lm.rights] 39*(aQ q l k.idle*(aa EB #[u b,u b,d f rg,u b,u (di||k.a.kind==1),d f fr] 70*(az m (s.setW t j nw)*(aa X #[d f lm.page,d f lm.size,d f lm.frame,d f lm.rights,u (di||k.a.kind==1)] 129*R))))))∧H W wz) ⟨hF,ah⟩ ?_;rintro wz ⟨hz,xz⟩;exact B (be results67 rfl rfl rfl (br hz)) rfl ⟨by rw[HYR.out];rfl,by rw[HYR.out];exact hz.right.right.p2.right.p2.eq (by ac_rfl),xz⟩
set_option maxHeartbeats 8000000 in
theorem wm(q m X:Nat)(root:Int)(l:List Ln)(k:Ck)(s:Ms)(hs:s.Ok)(hk:k.Ok)(R:ab)(W:I)(h:D W (aQ q l k*(az m s*(aa X #[d f 0,d f 0,d f 0,d f 0,u g] 129*R)))):
  J prog 67 #[.pointer (x (y q 0 p)),.pointer (x (y m 0 p)),d f root,.pointer (x (y X 0 p))] W
   (cI (.tuple #[.agg #[d f (aR s root k).r.an.fin,d f (aR s root k).r.an.frame,d f (aR s root k).r.an.rights],u (aR s root k).r.fin,d f (aR s root k).code])
    (aQ q l (aR s root k).c *(az m (aR s root k).s *(aa X #[d f (aR s root k).r.ln.m.page,d f (aR s root k).r.ln.m.size,d f (aR s root k).r.ln.m.frame,d f (aR s root k).r.ln.m.rights,u (aR s root k).r.ln.dirty] 129*R))) W):=by
 obtain⟨A,c,h⟩:=cY h;have h1:=h.new #[d f 0,d f 0,d f 0] 34;have x1:=(Ext.refl W).alloc (.cells #[d f 0,d f 0,d f 0] 34);clear h;cases hon:k.on with
 |false=>
  have hy:=o (show aR s root k=⟨k,s,Rs.zero,9⟩ by unfold aR;rw[if_pos hon]);obtain⟨q1,q2,q3,q4,q5,q6,q7,q8,ql⟩:=aJ h1.right;rw[hon] at q1;obtain⟨r0,r1,r2⟩:=h1.cells3;obtain⟨g0,g1,g2⟩:=h1.frees3;have rl:=h1.lt;clear hon hk hs;go_enter func67,ntmps67;go_wp2_with fail
  refine ak (fun wz=>D wz (aa W.heap.size #[d f 0,d f 0,d f 0] 34*aM q A c l k (az m s*(aa X #[d f 0,d f 0,d f 0,d f 0,u g] 129*R)))∧H W wz) ⟨h1,ah⟩ ?_;rintro wz ⟨hz,xz⟩;exact B (be results67 rfl rfl rfl (br hz)) rfl ⟨by rw[hy.out];rfl,by rw[hy.out];exact bE hz.right,xz⟩
 |true=>
  have HT:=o (fun R X h=>nv m s k.t R X h);cases ht:s.has k.t with
  |false=>
   have hy:=o (show aR s root k=⟨k,s,Rs.zero,12⟩ by unfold aR;rw[if_neg (by rw[hon];simp),if_pos ht]);rw[ht] at HT;clear ht hk hs;go_enter func67,ntmps67;go_upto_region 1 with fail;generalize W.alloc _=W1 at*
   generalize W.heap.size=X0 at*
   obtain⟨q1,q2,q3,q4,q5,q6,q7,q8,ql⟩:=aJ h1.right;rw[hon] at q1;skip;go_wp2_with fail
   refine(HT.out _ _ h1.r3).mono ?_;rintro e2 w2 ⟨rfl,rfl⟩;clear hon HT;obtain⟨r0,r1,r2⟩:=(h1).cells3;obtain⟨g0,g1,g2⟩:=(h1).frees3;have rl:=(h1).lt;go_wp2_with fail
   refine ak (fun wz=>D wz (aa X0 #[d f 0,d f 0,d f 0] 34*aM q A c l k (az m s*(aa X #[d f 0,d f 0,d f 0,d f 0,u g] 129*R)))∧H W wz) ⟨h1.set3 _ _ _,ah⟩ ?_;rintro wz ⟨hz,xz⟩;exact B (be results67 rfl rfl rfl (br hz)) rfl ⟨by rw[hy.out];rfl,by rw[hy.out];exact bE hz.right,xz⟩
  |true=>
   rw[ht] at HT;have hp:=iK (hk.acc hon);obtain⟨u0,un,_⟩:=Ms.has_iff.1 ht;obtain⟨t,htt⟩:=G u0;rw[htt] at HT;have HTT:=o htt;obtain⟨j,hj⟩:=G (gQ hp (hk.l0 hon) (hk.l3 hon)).1;have hj8:j<8:=by have:=(gQ hp (hk.l0 hon) (hk.l3 hon)).2;omega
   have htn:t<s.n:=by omega
   have hsn:=hs.small;have hword:k.word s=s.wd t j:=by unfold Ck.word ay;rw[htt,hj];rfl
   have HI:=o (fun Y=>dP k.a.page k.level Y);rw[hj] at HI;have hwb:=hs.inv.wok t j;have HD:=o (fun Y=>ii (s.wd t j) k.level Y hwb.1 hwb.2);have hstep:aR s root k=if k.mark=b∧s.wd t j≠k.w then⟨k.again root,s,Rs.zero,0⟩
     else if bu (s.wd t j) k.level≠0 then⟨k,s,Rs.zero,bu (s.wd t j) k.level⟩
     else if(aE (s.wd t j) k.level).there =g then k.endWith s 1
     else if(aE (s.wd t j) k.level).leaf =g then⟨{k with t:=(aE (s.wd t j) k.level).frame,level:=k.level - 1},s,Rs.zero,0⟩
     else if may (aE (s.wd t j) k.level).rights k.a=g then k.endWith s 2
     else if k.mark=b then k.leafEnd (s.setW t j (bt (ch (aE (s.wd t j) k.level) k.a) k.level)) (ch (aE (s.wd t j) k.level) k.a)
     else if dX (aE (s.wd t j) k.level) k.a=b then k.leafEnd s (aE (s.wd t j) k.level)
     else⟨{k with mark:=b,w:=s.wd t j},s,Rs.zero,0⟩:=by
    unfold aR;rw[if_neg (by rw[hon];simp),if_neg (by rw[ht];simp),hword,htt,hj];rfl
   have hlw:k.mark=b→s.wd t j=k.w→dX (aE (s.wd t j) k.level) k.a=g:=fun h1 h2=>by rw[h2];exact hk.need h1
   have hwr:0≤k.level∧k.level≤3:=⟨hk.l0 hon,hk.l3 hon⟩;have htnz:(t:Int)< (s.n:Int):=by omega
   have hj8z:(j:Int)<8:=by omega
   have hjx:=hj;have htx:s.has (t:Int)=b:=by rw[←htt];exact ht
   have hX1:=h1;have hXx:=x1;have HJX:=o (And.intro hjx htx);have HWB:=o hwb;clear hwb hj u0 un ht hp hk hs hword htt hjx htx hX1 hXx;generalize hv:s.wd t j=v at*
   have HV:=o hv;clear hv;by_cases htr:k.mark=b∧v≠k.w
   ·rw[if_pos htr] at hstep
    have hy:=o hstep;obtain⟨hmk,hne⟩:=htr;have hne':(v !=k.w)=b:=by simpa using hne
    have HAG:=o (fun R X h=>nL q root l k R X h);clear hstep hne hlw HD;as_aux_lemma=>
     go_enter func67,ntmps67;go_upto_region 1 with fail;generalize W.alloc _=W1 at*
     generalize W.heap.size=X0 at*
     obtain⟨q1,q2,q3,q4,q5,q6,q7,q8,ql⟩:=aJ h1.right;rw[hon] at q1;rw[HTT.out] at q5;go_wp2_with fail
     refine(HT.out _ _ h1.r3).mono ?_;rintro e2 w2 ⟨rfl,rfl⟩;obtain⟨gw,gi,vk,hq⟩:=cm h1.r3;have d0:=ae (Has.cell hq 0);have dw:=bX hq htn hj8;rw[HV.out] at dw;have dw:=ae dw;have v2:=ae q2;have v5:=ae q5;have v6:=ae q6;clear hq q1 q2 q3 q4 q5 q6 q7 q8 ql HT;go_upto_region 5 with fail;refine ap (by kernel_rfl) (by kernel_rfl) ?_;repeat(first|go_big_quiet_step ((go_at_call 120;exact z (HI.out _)))|quiet_step ((go_at_call 120;exact z (HI.out _))))
     refine wpQuiet_nil ?_;intro _ hw';obtain⟨uq,hw''⟩:=hw';subst hw'';have h2:=h1.via uq;have x2:=x1.below (aB _ uq);generalize fJ W1 uq=W2 at*
     clear h1 x1 d0 dw v2 v5 v6 HI;obtain⟨q1,q2,q3,q4,q5,q6,q7,q8,ql⟩:=aJ h2.right;rw[hmk] at q7;clear hmk hon;go_wp2_with fail
     refine(HAG.out _ _ (bE (nH h2))).mono ?_;rintro e2 w3 ⟨rfl,h3,x3⟩;have hA:=h3.p2;have xA:=x2.trans x3;obtain⟨r0,r1,r2⟩:=hA.cells3;obtain⟨g0,g1,g2⟩:=hA.frees3;have rl:=hA.lt;clear h2 x2 h3 x3 HAG q1 q2 q3 q4 q5 q6 q7 q8 ql;go_wp2_with fail
     refine ak (fun wz=>D wz (aa X0 #[d f 0,d f 0,d f 0] 34*(aQ q l (k.again root)*(az m s*(aa X #[d f 0,d f 0,d f 0,d f 0,u g] 129*R))))∧H W wz) ⟨hA.set3 _ _ _,ah⟩ ?_;rintro wz ⟨hz,xz⟩;exact B (be results67 rfl rfl rfl (br hz)) rfl ⟨by rw[hy.out];rfl,by rw[hy.out];exact hz.right,xz⟩
   ·rw[if_neg htr] at hstep
    have hmw:k.mark=b→v=k.w:=fun h=>Decidable.byContradiction fun hn=>htr ⟨h,hn⟩;have hcond:(k.mark&&v !=k.w)=g:=by
     cases hmk:k.mark with
     |false=>rfl
     |true=>simp[hmw hmk]
    have HLW:=o (fun h=>hlw h (hmw h));clear hmw hlw htr;by_cases hd:bu v k.level=0
    case neg=>
     rw[if_pos hd] at hstep;have hy:=o hstep;have hv:=o (dd (w:=v) (l:=k.level) rfl (.inl hd));rw[hv.out] at HD;have hn:(bu v k.level !=0)=b:=by simpa using hd
     clear hv hstep hd;generalize bu v k.level=code at*
     as_aux_lemma=>
      go_enter func67,ntmps67;go_upto_region 1 with fail;generalize W.alloc _=W1 at*
      generalize W.heap.size=X0 at*
      obtain⟨q1,q2,q3,q4,q5,q6,q7,q8,ql⟩:=aJ h1.right;rw[hon] at q1;rw[HTT.out] at q5;go_wp2_with fail
      refine(HT.out _ _ h1.r3).mono ?_;rintro e2 w2 ⟨rfl,rfl⟩;obtain⟨gw,gi,vk,hq⟩:=cm h1.r3;have d0:=ae (Has.cell hq 0);have dw:=bX hq htn hj8;rw[HV.out] at dw;have dw:=ae dw;have v2:=ae q2;have v5:=ae q5;have v6:=ae q6;clear hq q1 q2 q3 q4 q5 q6 q7 q8 ql HT;go_upto_region 5 with fail;refine ap (by kernel_rfl) (by kernel_rfl) ?_;repeat(first|go_big_quiet_step ((go_at_call 120;exact z (HI.out _)))|quiet_step ((go_at_call 120;exact z (HI.out _))))
      refine wpQuiet_nil ?_;intro _ hw';obtain⟨uq,hw''⟩:=hw';subst hw'';have h2:=h1.via uq;have x2:=x1.below (aB _ uq);generalize fJ W1 uq=W2 at*
      clear h1 x1 d0 dw v2 v5 v6 HI;obtain⟨q1,q2,q3,q4,q5,q6,q7,q8,ql⟩:=aJ h2.right;go_upto_region 6 with fail;go_cut [62] from 51 to 62 (fun s62 wx=>s62=u g∧D wx (aa X0 #[d f 0,d f 0,d f 0] 34*aM q A c l k (az m s*(aa X #[d f 0,d f 0,d f 0,d f 0,u g] 129*R)))∧H W wx)
      case first=>
       cases hmk:k.mark with
       |false=>
        rw[hmk] at q7;clear hmk hcond;go_wp2_with fail
        go_meet
        case rel=>exact⟨rfl,h2,x2⟩
       |true=>
        rw[hmk] at q7 hcond;have hcond':(v !=k.w)=g:=hcond;clear hmk hcond;go_wp2_with fail
        go_meet
        case rel=>exact⟨rfl,h2,x2⟩
      case rest=>
       clear h2 x2 q1 q2 q3 q4 q5 q6 q7 q8 ql hcond;obtain⟨rfl,h2,x2⟩:=hcut;obtain⟨q1,q2,q3,q4,q5,q6,q7,q8,ql⟩:=aJ h2.right;go_wp2_with fail
       refine(HD.out _).mono ?_;rintro e2 w3 ⟨rfl,b3⟩;have h3:=h2.below b3;have x3:=x2.below b3;clear h2 x2 b3 HD q1 q2 q3 q4 q5 q6 q7 q8 ql;obtain⟨r0,r1,r2⟩:=h3.cells3;obtain⟨g0,g1,g2⟩:=h3.frees3;have rl:=h3.lt;go_wp2_with fail
       refine ak (fun wz=>D wz (aa X0 #[d f 0,d f 0,d f 0] 34*(aM q A c l k (az m s*(aa X #[d f 0,d f 0,d f 0,d f 0,u g] 129*R))))∧H W wz) ⟨(h3.set3 _ _ _).alloc _,ah⟩ ?_;rintro wz ⟨hz,xz⟩;exact B (be results67 rfl rfl rfl (br hz)) rfl ⟨by rw[hy.out];rfl,by rw[hy.out];exact bE hz.right,xz⟩
    case pos=>
     rw[if_neg (by rw[hd];simp)] at hstep;have hvv:eZ v k.level= .tuple #[.agg #[u (aE v k.level).there,u (aE v k.level).leaf,d f (aE v k.level).rights,u (aE v k.level).used,u (aE v k.level).dirty,d f (aE v k.level).frame],d f 0]:=by unfold eZ;rw[hd]
     rw[hvv] at HD;generalize hE:aE v k.level=e at*
     obtain⟨th,lf,rg,us,di,fr⟩:=e;dsimp only at hstep;have HVV:=o hvv;clear hvv hE hd;cases th with
     |false=>
      rw[if_pos rfl] at hstep;have hy:=o hstep;clear hstep HLW;as_aux_lemma=>
       go_enter func67,ntmps67;go_upto_region 1 with fail;generalize W.alloc _=W1 at*
       generalize W.heap.size=X0 at*
       obtain⟨q1,q2,q3,q4,q5,q6,q7,q8,ql⟩:=aJ h1.right;rw[hon] at q1;rw[HTT.out] at q5;go_wp2_with fail
       refine(HT.out _ _ h1.r3).mono ?_;rintro e2 w2 ⟨rfl,rfl⟩;obtain⟨gw,gi,vk,hq⟩:=cm h1.r3;have d0:=ae (Has.cell hq 0);have dw:=bX hq htn hj8;rw[HV.out] at dw;have dw:=ae dw;have v2:=ae q2;have v5:=ae q5;have v6:=ae q6;clear hq q1 q2 q3 q4 q5 q6 q7 q8 ql HT;go_upto_region 5 with fail;refine ap (by kernel_rfl) (by kernel_rfl) ?_;repeat(first|go_big_quiet_step ((go_at_call 120;exact z (HI.out _)))|quiet_step ((go_at_call 120;exact z (HI.out _))))
       refine wpQuiet_nil ?_;intro _ hw';obtain⟨uq,hw''⟩:=hw';subst hw'';have h2:=h1.via uq;have x2:=x1.below (aB _ uq);generalize fJ W1 uq=W2 at*
       clear h1 x1 d0 dw v2 v5 v6 HI;obtain⟨q1,q2,q3,q4,q5,q6,q7,q8,ql⟩:=aJ h2.right;go_upto_region 6 with fail;go_cut [62] from 51 to 62 (fun s62 wx=>s62=u g∧D wx (aa X0 #[d f 0,d f 0,d f 0] 34*aM q A c l k (az m s*(aa X #[d f 0,d f 0,d f 0,d f 0,u g] 129*R)))∧H W wx)
       case first=>
        cases hmk:k.mark with
        |false=>
         rw[hmk] at q7;clear hmk hcond;go_wp2_with fail
         go_meet
         case rel=>exact⟨rfl,h2,x2⟩
        |true=>
         rw[hmk] at q7 hcond;have hcond':(v !=k.w)=g:=hcond;clear hmk hcond;go_wp2_with fail
         go_meet
         case rel=>exact⟨rfl,h2,x2⟩
       case rest=>
        clear h2 x2 q1 q2 q3 q4 q5 q6 q7 q8 ql hcond;obtain⟨rfl,h2,x2⟩:=hcut;obtain⟨q1,q2,q3,q4,q5,q6,q7,q8,ql⟩:=aJ h2.right;go_wp2_with fail
        refine(HD.out _).mono ?_;rintro e2 w3 ⟨rfl,b3⟩;have h3:=h2.below b3;have x3:=x2.below b3;clear h2 x2 b3 HD q1 q2 q3 q4 q5 q6 q7 q8 ql;have h4:=h3.new #[u g,u lf,d f rg,u us,u di,d f fr] 70;have x4:=x3.alloc (.cells #[u g,u lf,d f rg,u us,u di,d f fr] 70);clear h3 x3;go_upto_region 13 with fail;generalize w3.alloc _=w4 at*
        generalize w3.heap.size=EB at*
        obtain⟨e0',e1',e2',e3',e4',e5'⟩:=h4.cells6;have el:=h4.lt;obtain⟨q1,q2,q3,q4,q5,q6,q7,q8,ql⟩:=aJ h4.right.right;have h8:D w4 (aM q A c l k (aa X0 #[d f 0,d f 0,d f 0] 34*(aa EB #[u g,u lf,d f rg,u us,u di,d f fr] 70*(az m s*(aa X #[d f 0,d f 0,d f 0,d f 0,u g] 129*R))))):=(h4).eq (by unfold aM;ac_rfl);have HE:=o (fun R X h=>qk q l k ⟨1,0,0⟩ R X h);go_wp2_with fail
        refine(HE.out _ _ (bE h8)).mono ?_;rintro e2 w9 ⟨rfl,h9,x9⟩;have hA:=h9.p2;obtain⟨r0,r1,r2⟩:=hA.cells3;obtain⟨g0,g1,g2⟩:=hA.frees3;have rl:=hA.lt;have xA:=(x4).trans x9;clear h8 h9 HE x9;go_wp2_with fail
        refine ak (fun wz=>D wz (aa X0 #[d f 1,d f 0,d f 0] 34*(aQ q l k.idle*(aa EB #[u g,u lf,d f rg,u us,u di,d f fr] 70*(az m s*(aa X #[d f 0,d f 0,d f 0,d f 0,u g] 129*R)))))∧H W wz) ⟨hA.set3 _ _ _,ah⟩ ?_;rintro wz ⟨hz,xz⟩;exact B (be results67 rfl rfl rfl (br hz)) rfl ⟨by rw[hy.out];rfl,by rw[hy.out];exact hz.right.p2.right,xz⟩
     |true=>
      rw[if_neg (by simp)] at hstep;cases lf with
      |false=>
       rw[if_pos rfl] at hstep;have hy:=o hstep;have hwr':IntKind.i64.wrap (k.level - 1)=k.level - 1:=by rw[M];omega
       clear hstep HLW hwr;as_aux_lemma=>
        go_enter func67,ntmps67;go_upto_region 1 with fail;generalize W.alloc _=W1 at*
        generalize W.heap.size=X0 at*
        obtain⟨q1,q2,q3,q4,q5,q6,q7,q8,ql⟩:=aJ h1.right;rw[hon] at q1;rw[HTT.out] at q5;go_wp2_with fail
        refine(HT.out _ _ h1.r3).mono ?_;rintro e2 w2 ⟨rfl,rfl⟩;obtain⟨gw,gi,vk,hq⟩:=cm h1.r3;have d0:=ae (Has.cell hq 0);have dw:=bX hq htn hj8;rw[HV.out] at dw;have dw:=ae dw;have v2:=ae q2;have v5:=ae q5;have v6:=ae q6;clear hq q1 q2 q3 q4 q5 q6 q7 q8 ql HT;go_upto_region 5 with fail;refine ap (by kernel_rfl) (by kernel_rfl) ?_;repeat(first|go_big_quiet_step ((go_at_call 120;exact z (HI.out _)))|quiet_step ((go_at_call 120;exact z (HI.out _))))
        refine wpQuiet_nil ?_;intro _ hw';obtain⟨uq,hw''⟩:=hw';subst hw'';have h2:=h1.via uq;have x2:=x1.below (aB _ uq);generalize fJ W1 uq=W2 at*
        clear h1 x1 d0 dw v2 v5 v6 HI;obtain⟨q1,q2,q3,q4,q5,q6,q7,q8,ql⟩:=aJ h2.right;go_upto_region 6 with fail;go_cut [62] from 51 to 62 (fun s62 wx=>s62=u g∧D wx (aa X0 #[d f 0,d f 0,d f 0] 34*aM q A c l k (az m s*(aa X #[d f 0,d f 0,d f 0,d f 0,u g] 129*R)))∧H W wx)
        case first=>
         cases hmk:k.mark with
         |false=>
          rw[hmk] at q7;clear hmk hcond;go_wp2_with fail
          go_meet
          case rel=>exact⟨rfl,h2,x2⟩
         |true=>
          rw[hmk] at q7 hcond;have hcond':(v !=k.w)=g:=hcond;clear hmk hcond;go_wp2_with fail
          go_meet
          case rel=>exact⟨rfl,h2,x2⟩
        case rest=>
         clear h2 x2 q1 q2 q3 q4 q5 q6 q7 q8 ql hcond;obtain⟨rfl,h2,x2⟩:=hcut;obtain⟨q1,q2,q3,q4,q5,q6,q7,q8,ql⟩:=aJ h2.right;go_wp2_with fail
         refine(HD.out _).mono ?_;rintro e2 w3 ⟨rfl,b3⟩;have h3:=h2.below b3;have x3:=x2.below b3;clear h2 x2 b3 HD q1 q2 q3 q4 q5 q6 q7 q8 ql;have h4:=h3.new #[u b,u g,d f rg,u us,u di,d f fr] 70;have x4:=x3.alloc (.cells #[u b,u g,d f rg,u us,u di,d f fr] 70);clear h3 x3;go_upto_region 15 with fail;generalize w3.alloc _=w4 at*
         generalize w3.heap.size=EB at*
         obtain⟨e0',e1',e2',e3',e4',e5'⟩:=h4.cells6;have el:=h4.lt;obtain⟨q1,q2,q3,q4,q5,q6,q7,q8,ql⟩:=aJ h4.right.right;have h5:D w4 (cv q (.slice A l.length c) k*(aa EB #[u b,u g,d f rg,u us,u di,d f fr] 70*(aa X0 #[d f 0,d f 0,d f 0] 34*(gk (.slice A l.length c) l*(az m s*(aa X #[d f 0,d f 0,d f 0,d f 0,u g] 129*R)))))):=h4.eq (by unfold aM;ac_rfl);have h6:D w4 (cv q (.slice A l.length c) k*(aa X0 #[d f 0,d f 0,d f 0] 34*(aa EB #[u b,u g,d f rg,u us,u di,d f fr] 70*(gk (.slice A l.length c) l*(az m s*(aa X #[d f 0,d f 0,d f 0,d f 0,u g] 129*R)))))):=h4.eq (by unfold aM;ac_rfl);unfold cv at h5 h6;have n1:=h5.ne;have n2:=n1.symm;have n3:=h6.ne;have n4:=n3.symm;have f5:=h5.free 5;have f6:=h5.free 6;have h7:D ((w4.setCell (y q 5 p) (d f fr)).setCell (y q 6 p) (d f (k.level - 1))) (cv q (.slice A l.length c) {k with t:=fr,level:=k.level - 1}*(aa X0 #[d f 0,d f 0,d f 0] 34*(aa EB #[u b,u g,d f rg,u us,u di,d f fr] 70*(gk (.slice A l.length c) l*(az m s*(aa X #[d f 0,d f 0,d f 0,d f 0,u g] 129*R)))))):=(h6.set 5 _).set 6 _;obtain⟨r0,r1,r2⟩:=h6.right.cells3;obtain⟨g0,g1,g2⟩:=h6.right.frees3;have rl:=h6.right.lt;clear h4 h5 h6;go_wp2_with fail
         refine ak (fun wz=>D wz (aa X0 #[d f 0,d f 0,d f 0] 34*(cv q (.slice A l.length c) {k with t:=fr,level:=k.level - 1}*(aa EB #[u b,u g,d f rg,u us,u di,d f fr] 70*(gk (.slice A l.length c) l*(az m s*(aa X #[d f 0,d f 0,d f 0,d f 0,u g] 129*R))))))∧H W wz) ⟨h7.p2.set3 _ _ _,ah⟩ ?_;rintro wz ⟨hz,xz⟩;exact B (be results67 rfl rfl rfl (br hz)) rfl ⟨by rw[hy.out];rfl,by rw[hy.out];exact bE (A:=A) (c:=c) (by unfold aM;exact hz.right.p2.right),xz⟩
      |true=>
       rw[if_neg (by simp)] at hstep;have HY:=o (fun Y=>jt rg k.a.page k.a.kind k.a.user Y);rw[show(⟨k.a.page,k.a.kind,k.a.user⟩:Ac)=k.a from rfl] at HY;cases hmay:may rg k.a with
       |false=>
        rw[if_pos hmay] at hstep;rw[hmay] at HY;have hy:=o hstep;clear hstep hmay HLW;as_aux_lemma=>
         go_enter func67,ntmps67;go_upto_region 1 with fail;generalize W.alloc _=W1 at*
         generalize W.heap.size=X0 at*
         obtain⟨q1,q2,q3,q4,q5,q6,q7,q8,ql⟩:=aJ h1.right;rw[hon] at q1;rw[HTT.out] at q5;go_wp2_with fail
         refine(HT.out _ _ h1.r3).mono ?_;rintro e2 w2 ⟨rfl,rfl⟩;obtain⟨gw,gi,vk,hq⟩:=cm h1.r3;have d0:=ae (Has.cell hq 0);have dw:=bX hq htn hj8;rw[HV.out] at dw;have dw:=ae dw;have v2:=ae q2;have v5:=ae q5;have v6:=ae q6;clear hq q1 q2 q3 q4 q5 q6 q7 q8 ql HT;go_upto_region 5 with fail;refine ap (by kernel_rfl) (by kernel_rfl) ?_;repeat(first|go_big_quiet_step ((go_at_call 120;exact z (HI.out _)))|quiet_step ((go_at_call 120;exact z (HI.out _))))
         refine wpQuiet_nil ?_;intro _ hw';obtain⟨uq,hw''⟩:=hw';subst hw'';have h2:=h1.via uq;have x2:=x1.below (aB _ uq);generalize fJ W1 uq=W2 at*
         clear h1 x1 d0 dw v2 v5 v6 HI;obtain⟨q1,q2,q3,q4,q5,q6,q7,q8,ql⟩:=aJ h2.right;go_upto_region 6 with fail;go_cut [62] from 51 to 62 (fun s62 wx=>s62=u g∧D wx (aa X0 #[d f 0,d f 0,d f 0] 34*aM q A c l k (az m s*(aa X #[d f 0,d f 0,d f 0,d f 0,u g] 129*R)))∧H W wx)
         case first=>
          cases hmk:k.mark with
          |false=>
           rw[hmk] at q7;clear hmk hcond;go_wp2_with fail
           go_meet
           case rel=>exact⟨rfl,h2,x2⟩
          |true=>
           rw[hmk] at q7 hcond;have hcond':(v !=k.w)=g:=hcond;clear hmk hcond;go_wp2_with fail
           go_meet
           case rel=>exact⟨rfl,h2,x2⟩
         case rest=>
          clear h2 x2 q1 q2 q3 q4 q5 q6 q7 q8 ql hcond;obtain⟨rfl,h2,x2⟩:=hcut;obtain⟨q1,q2,q3,q4,q5,q6,q7,q8,ql⟩:=aJ h2.right;go_wp2_with fail
          refine(HD.out _).mono ?_;rintro e2 w3 ⟨rfl,b3⟩;have h3:=h2.below b3;have x3:=x2.below b3;clear h2 x2 b3 HD q1 q2 q3 q4 q5 q6 q7 q8 ql;have h4:=h3.new #[u b,u b,d f rg,u us,u di,d f fr] 70;have x4:=x3.alloc (.cells #[u b,u b,d f rg,u us,u di,d f fr] 70);clear h3 x3;go_upto_region 18 with fail;generalize w3.alloc _=w4 at*
          generalize w3.heap.size=EB at*
          obtain⟨e0',e1',e2',e3',e4',e5'⟩:=h4.cells6;have el:=h4.lt;obtain⟨q1,q2,q3,q4,q5,q6,q7,q8,ql⟩:=aJ h4.right.right;have v2:=ae q2;have v3:=ae q3;have v4:=ae q4;have ve2:=ae e2';clear e0' e1' e2' e3' e4' e5' el q1 q2 q3 q4 q5 q6 q7 q8 ql;refine ap (by kernel_rfl) (by kernel_rfl) ?_;repeat(first|go_big_quiet_step ((go_at_call 123;exact z (HY.out _)))|quiet_step ((go_at_call 123;exact z (HY.out _))))
          refine wpQuiet_nil ?_;intro _ hw';obtain⟨uq,hw''⟩:=hw';subst hw'';have h5:=h4.via uq;have x5:=x4.below (aB _ uq);generalize fJ w4 uq=w5 at*
          clear h4 x4 v2 v3 v4 ve2 HY;obtain⟨q1,q2,q3,q4,q5,q6,q7,q8,ql⟩:=aJ h5.right.right;obtain⟨e0',e1',e2',e3',e4',e5'⟩:=h5.cells6;have el:=h5.lt;have h8:D w5 (aM q A c l k (aa X0 #[d f 0,d f 0,d f 0] 34*(aa EB #[u b,u b,d f rg,u us,u di,d f fr] 70*(az m s*(aa X #[d f 0,d f 0,d f 0,d f 0,u g] 129*R))))):=(h5).eq (by unfold aM;ac_rfl);have HE:=o (fun R X h=>qk q l k ⟨2,0,0⟩ R X h);go_wp2_with fail
          refine(HE.out _ _ (bE h8)).mono ?_;rintro e2 w9 ⟨rfl,h9,x9⟩;have hA:=h9.p2;obtain⟨r0,r1,r2⟩:=hA.cells3;obtain⟨g0,g1,g2⟩:=hA.frees3;have rl:=hA.lt;have xA:=(x5).trans x9;clear h8 h9 HE x9;go_wp2_with fail
          refine ak (fun wz=>D wz (aa X0 #[d f 2,d f 0,d f 0] 34*(aQ q l k.idle*(aa EB #[u b,u b,d f rg,u us,u di,d f fr] 70*(az m s*(aa X #[d f 0,d f 0,d f 0,d f 0,u g] 129*R)))))∧H W wz) ⟨hA.set3 _ _ _,ah⟩ ?_;rintro wz ⟨hz,xz⟩;exact B (be results67 rfl rfl rfl (br hz)) rfl ⟨by rw[hy.out];rfl,by rw[hy.out];exact hz.right.p2.right,xz⟩
       |true=>
        rw[if_neg (by rw[hmay];simp)] at hstep;have HMAY:=o hmay;clear hmay;cases hmk:k.mark with
        |true=>
         rw[if_pos hmk] at hstep;exact pi q m X root l k s R W A c h1 x1 hon t j HTT hj8 htn hsn HJX.out.1 HJX.out.2 v HV HWB.out hcond rg us di fr HVV.out HMAY.out (o hmk) (HLW.out hmk) hstep
        |false=>
         rw[if_neg (by rw[hmk];simp)] at hstep;have HMK:=o hmk;clear hmk;cases hr:dX ⟨b,b,rg,us,di,fr⟩ k.a with
         |true=>
          rw[if_pos hr] at hstep;exact oF q m X root l k s R W A c h1 x1 hon t j HTT hj8 htn hsn HJX.out.1 HJX.out.2 v HV HWB.out hcond rg us di fr HVV.out HMAY.out HMK hr hstep
         |false=>
          rw[if_neg (by rw[hr];simp)] at hstep;have hy:=o hstep;rw[HMAY.out] at HY;clear hstep HLW HMAY HVV HJX;as_aux_lemma=>
           go_enter func67,ntmps67;go_upto_region 1 with fail;generalize W.alloc _=W1 at*
           generalize W.heap.size=X0 at*
           obtain⟨q1,q2,q3,q4,q5,q6,q7,q8,ql⟩:=aJ h1.right;rw[hon] at q1;rw[HTT.out] at q5;go_wp2_with fail
           refine(HT.out _ _ h1.r3).mono ?_;rintro e2 w2 ⟨rfl,rfl⟩;obtain⟨gw,gi,vk,hq⟩:=cm h1.r3;have d0:=ae (Has.cell hq 0);have dw:=bX hq htn hj8;rw[HV.out] at dw;have dw:=ae dw;have v2:=ae q2;have v5:=ae q5;have v6:=ae q6;clear hq q1 q2 q3 q4 q5 q6 q7 q8 ql HT;go_upto_region 5 with fail;refine ap (by kernel_rfl) (by kernel_rfl) ?_;repeat(first|go_big_quiet_step ((go_at_call 120;exact z (HI.out _)))|quiet_step ((go_at_call 120;exact z (HI.out _))))
           refine wpQuiet_nil ?_;intro _ hw';obtain⟨uq,hw''⟩:=hw';subst hw'';have h2:=h1.via uq;have x2:=x1.below (aB _ uq);generalize fJ W1 uq=W2 at*
           clear h1 x1 d0 dw v2 v5 v6 HI;obtain⟨q1,q2,q3,q4,q5,q6,q7,q8,ql⟩:=aJ h2.right;go_upto_region 6 with fail;go_cut [62] from 51 to 62 (fun s62 wx=>s62=u g∧D wx (aa X0 #[d f 0,d f 0,d f 0] 34*aM q A c l k (az m s*(aa X #[d f 0,d f 0,d f 0,d f 0,u g] 129*R)))∧H W wx)
           case first=>
            cases hmk:k.mark with
            |false=>
             rw[hmk] at q7;clear hmk hcond;go_wp2_with fail
             go_meet
             case rel=>exact⟨rfl,h2,x2⟩
            |true=>
             rw[hmk] at q7 hcond;have hcond':(v !=k.w)=g:=hcond;clear hmk hcond;go_wp2_with fail
             go_meet
             case rel=>exact⟨rfl,h2,x2⟩
           case rest=>
            clear h2 x2 q1 q2 q3 q4 q5 q6 q7 q8 ql hcond;obtain⟨rfl,h2,x2⟩:=hcut;obtain⟨q1,q2,q3,q4,q5,q6,q7,q8,ql⟩:=aJ h2.right;go_wp2_with fail
            refine(HD.out _).mono ?_;rintro e2 w3 ⟨rfl,b3⟩;have h3:=h2.below b3;have x3:=x2.below b3;clear h2 x2 b3 HD q1 q2 q3 q4 q5 q6 q7 q8 ql;have h4:=h3.new #[u b,u b,d f rg,u us,u di,d f fr] 70;have x4:=x3.alloc (.cells #[u b,u b,d f rg,u us,u di,d f fr] 70);clear h3 x3;go_upto_region 18 with fail;generalize w3.alloc _=w4 at*
            generalize w3.heap.size=EB at*
            obtain⟨e0',e1',e2',e3',e4',e5'⟩:=h4.cells6;have el:=h4.lt;obtain⟨q1,q2,q3,q4,q5,q6,q7,q8,ql⟩:=aJ h4.right.right;have v2:=ae q2;have v3:=ae q3;have v4:=ae q4;have ve2:=ae e2';clear e0' e1' e2' e3' e4' e5' el q1 q2 q3 q4 q5 q6 q7 q8 ql;refine ap (by kernel_rfl) (by kernel_rfl) ?_;repeat(first|go_big_quiet_step ((go_at_call 123;exact z (HY.out _)))|quiet_step ((go_at_call 123;exact z (HY.out _))))
            refine wpQuiet_nil ?_;intro _ hw';obtain⟨uq,hw''⟩:=hw';subst hw'';have h5:=h4.via uq;have x5:=x4.below (aB _ uq);generalize fJ w4 uq=w5 at*
            clear h4 x4 v2 v3 v4 ve2 HY;obtain⟨q1,q2,q3,q4,q5,q6,q7,q8,ql⟩:=aJ h5.right.right;obtain⟨e0',e1',e2',e3',e4',e5'⟩:=h5.cells6;have el:=h5.lt;go_upto_region 20 with fail;go_cut [14] from 119 to 132 (fun s14 wx=>s14=u g∧D wx (aa EB #[u b,u b,d f rg,u us,u di,d f fr] 70*(aa X0 #[d f 0,d f 0,d f 0] 34*aM q A c l k (az m s*(aa X #[d f 0,d f 0,d f 0,d f 0,u g] 129*R))))∧H W wx)
            case first=>
             have HRR:=o hr;clear hr;cases us with
             |false=>
              go_wp2_with fail
              go_meet
              case rel=>exact⟨by rw[←HRR.out];first|done|rfl,h5,x5⟩
             |true=>
              cases di with
              |true=>
               go_wp2_with fail
               go_meet
               case rel=>exact⟨by rw[←HRR.out];first|done|rfl,h5,x5⟩
              |false=>
               go_wp2_with fail
               go_meet
               case rel=>exact⟨by rw[←HRR.out];first|done|rfl,h5,x5⟩
            case rest=>
             clear h5 x5 q1 q2 q3 q4 q5 q6 q7 q8 ql e0' e1' e2' e3' e4' e5' el hr;obtain⟨rfl,h6,x6⟩:=hcut;obtain⟨q1,q2,q3,q4,q5,q6,q7,q8,ql⟩:=aJ h6.right.right;rw[HMK.out] at q7;obtain⟨e0',e1',e2',e3',e4',e5'⟩:=h6.cells6;have el:=h6.lt;have h7:D wc (cv q (.slice A l.length c) k*(aa X0 #[d f 0,d f 0,d f 0] 34*(aa EB #[u b,u b,d f rg,u us,u di,d f fr] 70*(gk (.slice A l.length c) l*(az m s*(aa X #[d f 0,d f 0,d f 0,d f 0,u g] 129*R)))))):=h6.eq (by unfold aM;ac_rfl);unfold cv at h7;have n3:=h7.ne;have n4:=n3.symm;have f7:=h7.free 7;have f8:=h7.free 8;have h8:D ((wc.setCell (y q 7 p) (u b)).setCell (y q 8 p) (d vU v)) (cv q (.slice A l.length c) {k with mark:=b,w:=v}*(aa X0 #[d f 0,d f 0,d f 0] 34*(aa EB #[u b,u b,d f rg,u us,u di,d f fr] 70*(gk (.slice A l.length c) l*(az m s*(aa X #[d f 0,d f 0,d f 0,d f 0,u g] 129*R)))))):=(h7.set 7 _).set 8 _;obtain⟨r0,r1,r2⟩:=h7.right.cells3;obtain⟨g0,g1,g2⟩:=h7.right.frees3;have rl:=h7.right.lt;clear h6 h7;go_wp2_with fail
             refine ak (fun wz=>D wz (aa X0 #[d f 0,d f 0,d f 0] 34*(cv q (.slice A l.length c) {k with mark:=b,w:=v}*(aa EB #[u b,u b,d f rg,u us,u di,d f fr] 70*(gk (.slice A l.length c) l*(az m s*(aa X #[d f 0,d f 0,d f 0,d f 0,u g] 129*R))))))∧H W wz) ⟨h8.p2.set3 _ _ _,ah⟩ ?_;rintro wz ⟨hz,xz⟩;exact B (be results67 rfl rfl rfl (br hz)) rfl ⟨by rw[hy.out];rfl,by rw[hy.out];exact bE (A:=A) (c:=c) (by unfold aM;exact hz.right.p2.right),xz⟩
theorem iS{w:I}{q c:Nat}{A:Option Addr}{l:List Ln}{k:Ck}{R:ab}(h:D w (aM q A c l k R))(a:Ac):
  D ((((w.setCell (y q 1 p) (u b)).setCell (y q 2 p) (d f a.page)).setCell (y q 3 p) (d f a.kind)).setCell (y q 4 p) (u a.user)) (aM q A c l {k with on:=b,a:=a} R):=by
 unfold aM cv at h⊢;exact(((h.set 1 (u b)).set 2 (d f a.page)).set 3 (d f a.kind)).set 4 (u a.user)
end Go.Proofs.YtmfheghbgihdmaaGreat
