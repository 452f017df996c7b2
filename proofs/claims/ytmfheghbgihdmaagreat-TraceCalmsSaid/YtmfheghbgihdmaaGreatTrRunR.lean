/- The document's Space.Run. -/
import Derived.Test.YtmfheghbgihdmaaGreatRspD
import Derived.Test.YtmfheghbgihdmaaGreatWchD
import Derived.Test.YtmfheghbgihdmaaGreatSep
import Derived.Test.YtmfheghbgihdmaaGreatTblM4
import Derived.Lib.Hide
import Derived.WalkSpells
import Derived.Outline
import Derived.Test.YtmfheghbgihdmaaGreatBkSl
import Derived.Test.YtmfheghbgihdmaaGreatTabD
import Derived.Test.YtmfheghbgihdmaaGreatWkr3
import Derived.Deep.DeepCutAuto
import Derived.Deep.CutBlock
import Derived.Test.YtmfheghbgihdmaaGreatCoreR2
import Derived.Test.YtmfheghbgihdmaaGreatSpcC
namespace Go.Proofs.YtmfheghbgihdmaaGreat
open Go.Lib renaming hid→g
open Go.Value renaming int→o,bool→O
open Go.IntKind renaming i64→r
open Option renaming none→D,some→G
open Go.RowKit renaming intOf→E,Hid→J
open List renaming length_append→F
open Bool renaming false→I,true→X
open Go.Addr renaming mk→M
open Go.Proofs.YtmfheghbgihdmaaGreat renaming Has→T,Ext→ad,Safe→af
open Go renaming World→U,Addr→Y,Calls→Z
open Int renaming eq_ofNat_of_zero_le→V
open Tryz
open Go.RowKit
set_option maxRecDepth 100000
theorem vD{w:U}{b:Nat}{σ:Sc}{R:ab}(h:T w (cj b σ*R)):b<w.heap.size∧∃A c,w.cell? (M b 2 D)=G (.slice A σ.cs.length c):=by
 obtain⟨y,hy,h⟩:=fu h;unfold fC at h;refine⟨h.lt,y.A,y.c,?_⟩;rw[h.cell 2,←hy];rfl
theorem vE{w:U}{b:Nat}{σ:Sc}{R:ab}(h:T w (cj b σ*R)){k:Nat}(hk:k<σ.cs.length):∃bA c gw pk:Nat,b<w.heap.size∧w.cell? (M b 2 D)=G (.slice (G (M bA 0 D)) σ.cs.length c)∧
  w.cell? (M b 9 D)=G (.slice (G (M gw 0 D)) σ.cs.length σ.cs.length)∧bA<w.heap.size∧w.cell? (M bA k D)=G (.pointer (G (M pk 0 D)))∧gw<w.heap.size∧w.cell? (M gw k D)=G (O (σ.wait k))∧
  pk<w.heap.size∧w.cell? (M pk 1 D)=G (O (σ.core k).k.on):=by
 obtain⟨y,hy,h⟩:=fu h;unfold fC at h;have hkp:k<y.ps.length:=by omega
 obtain⟨pk,hpk⟩:∃pk,y.ps[k]? =G pk:=⟨_,List.getElem?_eq_getElem hkp⟩;obtain⟨bA,hA,lA,cA⟩:=jx h.right hpk;obtain⟨Q,eQ,-⟩:=jU hpk (Safe.at_core hk);have h1:=h.r3;have c2:=h.cell 2;have c9:=h.cell 9;have hgw:(bo y.ps.length (bJ σ.wait))[k]? =G (O (σ.wait k)):=jE hkp;have h2:=h1.right;rw[eQ] at h2;obtain⟨A3,c3,h3⟩:=cP h2.a1;unfold aN cC at h3;rw[hA,hy] at c2;rw[hy] at c9;exact⟨bA,y.c,y.gw,pk,h.lt,c2,c9,lA,cA,h1.lt,(h1.cell k).trans hgw,h3.lt,h3.cell 1⟩
set_option maxHeartbeats 20000000 in
theorem zT(b:Nat)(σ:Sc)(P:List Mp)(hS:af σ P)(R:ab)(w:U)(h:T w (cj b σ*R)):
  Z prog 48 #[.pointer (G (M b 0 D))] w fun e w'=>∃(A:Option Y) (c:Nat),e= .returned (.slice A (gI σ).2.length c)∧
   T w' (dD (.slice A (gI σ).2.length c) (gI σ).2*(cj b (gI σ).1*R))∧ad w w':=by
 obtain⟨K,hK⟩:∃K,σ.cs.length=K:=⟨_,rfl⟩;have hK4:K≤4:=hK▸hS.ok.few;have hLen:=g (qB (σ:=σ) hS.ok.few);have hCR:J (gI σ=((cE K 0 (dg K 0 σ).1).1,(dg K 0 σ).2++(cE K 0 (dg K 0 σ).1).2)):=g (by rw[←hK];rfl);have HS0:J (af σ P):=g hS;have HB0:J (σ.cs.length=K):=g hK;have HA0:J (dg K 0 σ=((dg (K - 0) 0 σ).1,([]:List Ev)++(dg (K - 0) 0 σ).2)):=g rfl;obtain⟨C,hC⟩:∃C,gI σ=C:=⟨_,rfl⟩;obtain⟨AR,hAR⟩:∃a,dg K 0 σ=a:=⟨_,rfl⟩;rw[hC] at hLen hCR⊢;rw[hAR] at hCR HA0;have h2:T w (dD (.slice D ([]:List Ev).length 0) []*(cj b σ*R)):=Has.rowNil (e:=36) (size:=6) h;have x1:=Ext.refl w;clear h hS hC hK hAR;go_enter func48,ntmps48;go_wp2_with fail
 go_loopw [3,4] (fun t3 t4 wr=>∃(i:Nat) (A:Option Y) (c:Nat) (σ':Sc) (P':List Mp) (out:List Ev),i≤K∧t4=o r i∧t3= .slice A out.length c∧J (af σ' P')∧J (σ'.cs.length=K)∧J (AR=((dg (K - i) i σ').1,out++(dg (K - i) i σ').2))∧T wr (dD (.slice A out.length c) out*(cj b σ'*R))∧ad w wr) (fun _ t4 _=>K - (E t4).toNat)
 case atStart=>exact⟨0,D,0,σ,P,[],by omega,rfl,rfl,HS0,HB0,HA0,h2,x1⟩
 case round=>
  clear h2 x1 HS0 HB0 HA0;obtain⟨i,A,c,σ1,P1,out,hi,rfl,rfl,hS1,hB1,hA1,hr,hx⟩:=hrel;by_cases hlt:i<K
  ·have hlt':(i:Int)<K:=by omega
   have hi0:(0:Int)≤i:=by omega
   obtain⟨j,hj⟩:∃j,K - i=j+1:=⟨K - i - 1,by omega⟩;have hj':K - (i+1)=j:=by omega
   rw[hj] at hA1;obtain⟨bA,cc,gw,pk,bl,c2,c9,lA,cA,gl,cg,lk,ck⟩:=vE hr.right (k:=i) (by rw[hB1.out];exact hlt);rw[hB1.out] at c2 c9;clear lA cA lk ck;have hol:out.length≤32:=by
    have a1:=hLen.out;have a2:=congrArg Prod.snd hCR.out;have a3:=congrArg Prod.snd hA1.out;dsimp only at a2 a3;rw[a2,a3,F,F] at a1;omega
   have HD:=g (fun R w h=>Ax b σ1 (cy i) hS1.out.ok (vN i (by omega)) R w h);have HS2:J (af (σ1.act (cy i)).1 (Safe.prevOf σ1 P1 (cy i))):=g (hS1.out.act _);have HB2:J ((σ1.act (cy i)).1.cs.length=K):=g ((hS1.out.n_act _).2.trans hB1.out);have hww:=nm (σ:=σ1) (k:=i) (by omega);unfold Ev.val cy at HD;dsimp only at HD;cases hq:σ1.waits i with
   |true=>
    have HA2:J (AR=((dg (K - (i+1)) (i+1) (σ1.act (cy i)).1).1,(out++[(σ1.act (cy i)).2])++(dg (K - (i+1)) (i+1) (σ1.act (cy i)).1).2)):=g (by
     have a1:=hA1.out;rw[pi hq] at a1;rw[hj',a1,List.append_assoc];rfl)
    rw[←hww,hq] at cg;unfold cy at HS2 HB2 HA2;clear hS1 hB1 hA1 hq hj hj' hww;generalize Sc.act σ1 ⟨6,(i:Int),⟨0,0,0,0⟩,⟨0,0,I⟩⟩=z at*
    obtain⟨σ2,⟨ec,ef,⟨ea,eb,er⟩,ek⟩⟩:=z;dsimp only at*
    go_wp2_with fail
    refine(HD.out _ _ hr.p2).mono ?_;rintro e w4 ⟨rfl,h4,x4⟩;have h5:=h4.p2;have x5:=hx.trans x4;clear hr hx h4 x4 HD c2 c9 gl cg bl;go_wp2_with(at_builtin;refine aV rfl _ _ 95 rfl underlying95 pb _ _ _ rfl (h5.alloc (.cells #[o r ec,O ef,o r ea,o r eb,o r er,O ek] 36)) (M w4.heap.size 0 D) 1 1 (⟨ec,ef,⟨ea,eb,er⟩,ek⟩:Ev).cells rfl rfl (eC w4 (⟨ec,ef,⟨ea,eb,er⟩,ek⟩:Ev).cells 36) (sa ⟨ec,ef,⟨ea,eb,er⟩,ek⟩) ?_ ?_ ?_)
    rotate_left;rotate_left
    ·intro v3 w7 h8 x8
     obtain⟨A3,c3,rfl,h9⟩:=j6 h8;have x9:=(x5.alloc (.cells #[o r ec,O ef,o r ea,o r eb,o r er,O ek] 36)).trans x8;clear h5 x5 h8 x8;go_wp2_with fail
     go_roundw
     case rel=>exact⟨i+1,A3,c3,σ2,_,out++[(⟨ec,ef,⟨ea,eb,er⟩,ek⟩:Ev)],by omega,by go_num,by simp,HS2,HB2,HA2,h9,x9⟩
     case measure=>simp[E];omega
    ·unfold maxLen;omega
    ·omega
   |false=>
    have HA2:J (AR=((dg (K - (i+1)) (i+1) σ1).1,out++(dg (K - (i+1)) (i+1) σ1).2)):=g (by
     have a1:=hA1.out;rw[nr hq] at a1;rw[hj',a1])
    rw[←hww,hq] at cg;clear hA1 hq hj hj' HD HS2 HB2 hww;go_wp2_with fail
    go_roundw
    case rel=>exact⟨i+1,A,c,σ1,P1,out,by omega,by go_num,rfl,hS1,hB1,HA2,hr,hx⟩
    case measure=>simp[E];omega
  ·obtain rfl:i=K:=by omega
   have HC1:J (C=((cE (i - 0) 0 σ1).1,out++(cE (i - 0) 0 σ1).2)):=g (by
    have a1:=hA1.out;rw[Nat.sub_self] at a1;have a2:=hCR.out;rw[a1] at a2;rw[a2];show((cE i 0 σ1).1,(out++[])++(cE i 0 σ1).2)=_;rw[List.append_nil];rfl)
   obtain⟨bl,Aq,cq,c2⟩:=vD hr.right;rw[hB1.out] at c2;clear hA1 hCR;go_upto_region 7 with fail;clear bl c2;go_wp2_with fail
   go_loopw [3,5] (fun t3 t5 wr=>∃(k:Nat) (A:Option Y) (c:Nat) (σ':Sc) (P':List Mp) (out:List Ev),k≤i∧t5=o r k∧t3= .slice A out.length c∧J (af σ' P')∧J (σ'.cs.length=i)∧J (C=((cE (i - k) k σ').1,out++(cE (i - k) k σ').2))∧T wr (dD (.slice A out.length c) out*(cj b σ'*R))∧ad w wr) (fun _ t5 _=>i - (E t5).toNat)
   case atStart=>exact⟨0,A,c,σ1,P1,out,by omega,rfl,rfl,hS1,hB1,HC1,hr,hx⟩
   case round=>
    clear hr hx hS1 hB1 HC1;obtain⟨k,A3,c3,σ3,P3,out3,hk,rfl,rfl,hS3,hB3,hC3,hr,hx⟩:=hrel;obtain⟨bl,Aq3,cq3,c2⟩:=vD hr.right;rw[hB3.out] at c2;by_cases hlt:k<i
    ·have hlt':(k:Int)<i:=by omega
     have hk0:(0:Int)≤k:=by omega
     obtain⟨j,hj⟩:∃j,i - k=j+1:=⟨i - k - 1,by omega⟩;have hj':i - (k+1)=j:=by omega
     rw[hj] at hC3;have hC4:J (C=((cE j (k+1) (d9 7 k σ3).1).1,out3++((d9 7 k σ3).2++(cE j (k+1) (d9 7 k σ3).1).2))):=g hC3.out;have hmu:J (jw σ3.s (σ3.core k).k ≤7):=g (vM (Sc.core_ok hS3.out.ok k).2);replace hj':=g hj';clear hC3 hj;go_upto_region 10 with fail;clear bl c2;go_loopg [3] 7 (fun jj t3 wr=>∃(A:Option Y) (c:Nat) (σ':Sc) (P':List Mp) (out:List Ev),t3= .slice A out.length c∧J (af σ' P')∧J (σ'.cs.length=i)∧J (jw σ'.s (σ'.core k).k ≤jj)∧
      J (C=((cE j (k+1) (d9 jj k σ').1).1,out++((d9 jj k σ').2++(cE j (k+1) (d9 jj k σ').1).2)))∧T wr (dD (.slice A out.length c) out*(cj b σ'*R))∧ad w wr)
     case atStart=>exact⟨A3,c3,σ3,P3,out3,rfl,hS3,hB3,hmu,hC4,hr,hx⟩
     case round=>
      clear hr hx hS3 hB3 hmu hC4;obtain⟨A5,c5,σ5,P5,out5,rfl,hS5,hB5,hmu5,hC5,hr,hx⟩:=hrel;have hk5:k<σ5.cs.length:=by rw[hB5.out];exact hlt
      obtain⟨bA,cc,gw,pk,bl,c2,c9,lA,cA,gl,cg,lk,ck⟩:=vE hr.right hk5;rw[hB5.out] at c2;rw[←nl hk5] at ck;clear c9 gl cg;cases hq:σ5.on k with
      |false=>
       have HC6:J (C=((cE (i - (k+1)) (k+1) σ5).1,out5++(cE (i - (k+1)) (k+1) σ5).2)):=g (by
        have a1:=hC5.out;rw[ns hq] at a1;rw[hj'.out,a1];rfl)
       rw[hq] at ck;clear hq hC5 hmu5;go_wp2_with fail
       go_roundw
       case rel=>exact⟨k+1,A5,c5,σ5,P5,out5,by omega,by go_num,rfl,hS5,hB5,HC6,hr,hx⟩
       case measure=>simp[E];omega
      |true=>
       obtain⟨jj,rfl⟩:∃jj,gk=jj+1:=⟨gk - 1,by
        have a1:=hmu5.out;have a2:=pd (s:=σ5.s) (show(σ5.core k).k.on =X by rw[←nl hk5];exact hq);omega⟩
       have hmu6:J (jw (σ5.act (aY k)).1.s ((σ5.act (aY k)).1.core k).k ≤jj):=g (by
        have a1:=sd hS5.out hk5 hq;have a2:=hmu5.out;omega)
       have HC6:J (C=((cE j (k+1) (d9 jj k (σ5.act (aY k)).1).1).1,(out5++[(σ5.act (aY k)).2])++((d9 jj k (σ5.act (aY k)).1).2++(cE j (k+1) (d9 jj k (σ5.act (aY k)).1).1).2))):=g (by
        have a1:=hC5.out;rw[pj hq] at a1;rw[a1,List.append_assoc];rfl)
       have hol:out5.length≤32:=by
        have a1:=hLen.out;have a2:=congrArg Prod.snd hC5.out;dsimp only at a2;rw[a2,F] at a1;omega
       have HD:=g (fun R w h=>Ax b σ5 (aY k) hS5.out.ok (pm k (by omega)) R w h);have HS6:J (af (σ5.act (aY k)).1 (Safe.prevOf σ5 P5 (aY k))):=g (hS5.out.act _);have HB6:J ((σ5.act (aY k)).1.cs.length=i):=g ((hS5.out.n_act _).2.trans hB5.out);unfold Ev.val at HD;unfold aY at HD hmu6 HC6 HS6 HB6;dsimp only at HD;rw[hq] at ck;clear hS5 hB5 hmu5 hC5 hk5 hq;generalize Sc.act σ5 ⟨5,(k:Int),⟨0,0,0,0⟩,⟨0,0,I⟩⟩=z at*
       obtain⟨σ6,⟨ec,ef,⟨ea,eb,er⟩,ek⟩⟩:=z;dsimp only at*
       go_wp2_with fail
       refine(HD.out _ _ hr.p2).mono ?_;rintro e w7 ⟨rfl,h7,x7⟩;have h8:=h7.p2;have x8:=hx.trans x7;clear hr hx h7 x7 HD c2 lA cA lk ck bl;go_wp2_with(at_builtin;refine aV rfl _ _ 95 rfl underlying95 pb _ _ _ rfl (h8.alloc (.cells #[o r ec,O ef,o r ea,o r eb,o r er,O ek] 36)) (M w7.heap.size 0 D) 1 1 (⟨ec,ef,⟨ea,eb,er⟩,ek⟩:Ev).cells rfl rfl (eC w7 (⟨ec,ef,⟨ea,eb,er⟩,ek⟩:Ev).cells 36) (sa ⟨ec,ef,⟨ea,eb,er⟩,ek⟩) ?_ ?_ ?_)
       rotate_left;rotate_left
       ·intro v3 w9 h9 x9
        obtain⟨A6,c6,rfl,h10⟩:=j6 h9;have x10:=(x8.alloc (.cells #[o r ec,O ef,o r ea,o r eb,o r er,O ek] 36)).trans x9;clear h8 x8 h9 x9;go_wp2_with fail
        go_roundg jj
        case measure=>omega
        case rel=>exact⟨A6,c6,σ6,_,out5++[(⟨ec,ef,⟨ea,eb,er⟩,ek⟩:Ev)],by simp,HS6,HB6,hmu6,HC6,h10,x10⟩
       ·unfold maxLen;omega
       ·omega
    ·obtain rfl:k=i:=by omega
     have HC6:J (C=(σ3,out3)):=g (by
      have a1:=hC3.out;rw[Nat.sub_self] at a1;rw[a1];show(σ3,out3++[])=_;rw[List.append_nil])
     have hE:J (C.1=σ3∧C.2=out3):=g (by rw[HC6.out];exact⟨rfl,rfl⟩);clear HC6 hLen hC3;go_wp2_with fail
     go_ret;exact⟨A3,c3,by rw[hE.out.2];rfl,by rw[hE.out.2,hE.out.1];exact hr,hx⟩
def r9(l:List Int)(q:Int):Bool:=l.any (· ==q)
theorem vF{l:List Int}{k:Nat}{q:Int}(hk:k<l.length)(h:r9 (l.take k) q=I):r9 (l.take (k+1)) q=(l[k]==q):=by
 unfold r9 at*
 rw[List.take_succ_eq_append_getElem hk,List.any_append,h];simp
theorem xb{l:List Int}{k:Nat}{q:Int}(hk:k<l.length)(h:(l[k]==q)=X):r9 l q=X:=by
 unfold r9;exact List.any_eq_true.2 ⟨l[k],List.getElem_mem hk,h⟩
theorem yT(A:Option Y)(n c:Nat)(l:List Int)(q:Int)(w:U)(h:Rd w A n (l.map (o r))):
  Z prog 94 #[.slice A n c,.int .i64 q] w (Same (O (r9 l q)) w):=by
 have hn:l.length=n:=by simpa using h.1
 have hm:=h.2.1;have hnn:=g hn;go_enter func94,ntmps94;go_wp2;go_loop [5,6,7,8,9,10,11,12,13,14,15,16,17] (fun t _ _ _ _ _ _ _ _ _ _ _ _=>∃k:Nat,k≤n∧t=o r k∧r9 (l.take k) q=I) (fun t _ _ _ _ _ _ _ _ _ _ _ _=>n - (E t).toNat)
 case atStart=>exact⟨0,Nat.zero_le _,rfl,rfl⟩
 case round=>
  obtain⟨k,hk,rfl,hno⟩:=hrel;by_cases hlt:k<n
  ·have hkl:k<l.length:=by omega
   obtain⟨b,off,rfl,hb,hc⟩:=h.at_ (j:=k) (u:=o r l[k]) (by simp[hkl]);have ht:=g (vF (q:=q) hkl hno);have hno':=g hno;clear hno hn h;cases hq:(l[k]==q) with
   |true=>
    have hy:=g (xb hkl hq);go_wp2;go_ret;exact⟨by rw[hy.out];rfl,rfl⟩
   |false=>
    go_wp2;go_round
    case rel=>exact⟨k+1,by omega,by go_num,by rw[ht.out,hq]⟩
    case measure=>simp[E];omega
  ·obtain rfl:k=n:=by omega
   have hall:=g (show r9 l q=I by rw[←hno,List.take_of_length_le (by omega)]);clear hno h hn;go_wp2;go_ret;exact⟨by rw[hall.out];rfl,rfl⟩
theorem o9(A:Option Y)(n c:Nat)(l:List Int)(q:Int)(R:ab)(w:U)(h:T w (ao (.slice A n c) l*R)):
  Z prog 94 #[.slice A n c,.int .i64 q] w (Same (O (r9 l q)) w):=by
 have:=tO h l.length (Nat.le_refl _);rw[List.take_length] at this;have hn:=cT h;rw[←hn] at this;exact yT A n c l q w this
theorem pa{l:List Int}{q:Int}:ko l q=if r9 l q=X then l else l++[q]:=by
 unfold ko r9;simp
theorem tJ(l:List Mp):∀s:List Int,(l.foldl kb s).length ≤s.length+l.length*3∨∃m∈l,m.size<0:=by
 induction l with
 |nil=>intro s;exact .inl (by simp)
 |cons m l ih=>
  intro s;by_cases hm:m.size<0
  ·exact .inr ⟨m,List.mem_cons_self ..,hm⟩
  ·have hd:∀n,(cm m.page n s).length ≤s.length+n:=by
    intro n;induction n with
    |zero=>exact Nat.le_refl _
    |succ n ihn=>
     show(ko _ _).length ≤_;unfold ko;split
     ·omega
     ·rw[F,List.length_singleton];omega
   have h1:(kb s m).length ≤s.length+3:=by
    have:=hd (3 - m.size).toNat;unfold kb;omega
   rcases ih (kb s m) with h|⟨x,hx,h⟩
   ·left
    rw[List.foldl_cons,List.length_cons];omega
   ·exact .inr ⟨x,List.mem_cons_of_mem _ hx,h⟩
theorem xN{l:List Mp}(h:Bk.Ok l):(dP l).length ≤12288:=by
 have hsm:=h.le;rcases tJ l [] with h1|⟨m,hm,h1⟩
 ·have e:(dP l).length =(l.foldl kb []).length :=rfl
  rw[e];simp at h1;omega
 ·have:=h.chk m hm
  rcases this.size with ⟨a,_⟩|⟨a,_⟩|⟨a,_⟩<;>omega
theorem vG(p:Int)(s:List Int):∀n,(cm p n s).length ≤s.length+n:=by
 intro n;induction n with
 |zero=>exact Nat.le_refl _
 |succ n ihn=>
  show(ko _ _).length ≤_;unfold ko;split
  ·omega
  ·rw[F,List.length_singleton];omega
theorem eX{x:Int}(h0: -9223372036854775808≤x)(h1:x≤9223372036854775807):wrap64 x=x:=by
 unfold wrap64;omega
set_option maxHeartbeats 4000000 in
theorem xe(l:List Mp)(A:Option Y)(n c:Nat)(hl:Bk.Ok l)(R:ab)(w:U)(h:T w (cK (.slice A n c) l*R)):
  Z prog 49 #[.slice A n c] w (Pure (o r ((dP l).length +1:Nat)) w):=by
 obtain rfl:=dI h;have hsm:=hl.le;have HM:=g (fun k (hk:k<l.length)=>eT h hk);have HO:=g hl;have h0:T w (ao (.slice D 0 0) (dP (l.take 0))*bE w w.heap.size):=Has.rowNil (e:=3) (size:=1) (aT w);have x0:=Ext.refl w;clear h hl;go_enter func49,ntmps49;go_wp2_with fail
 go_loopw [3,4] (fun s3 s4 wr=>∃(i:Nat) (B:Option Y) (n' c':Nat),i≤l.length∧s4=o r i∧s3= .slice B n' c'∧T wr (ao (.slice B n' c') (dP (l.take i))*bE w w.heap.size)∧ad w wr) (fun _ t _=>l.length - (E t).toNat)
 case atStart=>exact⟨0,D,0,0,by omega,rfl,rfl,h0,x0⟩
 case round=>
  clear h0 x0;obtain⟨i,B,n',c',hi,rfl,rfl,hr,hx⟩:=hrel;by_cases hlt:i<l.length
  ·obtain⟨b,hb,hbl,m0,m1,_,_⟩:=HM.out i hlt
   have hok:=HO.out.chk _ (List.getElem_mem hlt);have est:dP (l.take (i+1))=cm l[i].page (3 - l[i].size).toNat (dP (l.take i)):=by
    rw[List.take_succ_eq_append_getElem hlt,qI];rfl
   have hp0:=hok.inP.1;have hp1:=hok.inP.2;have hz:l[i].size =0∨l[i].size =1∨l[i].size =2:=by rcases hok.size with ⟨a,_⟩|⟨a,_⟩|⟨a,_⟩<;>omega
   generalize l[i].page =p at*
   generalize l[i].size =z at*
   subst hb;have HE:=g est;have HC:=g (And.intro hbl (And.intro m0 m1));clear est hok m0 m1 hbl;have hsn:(dP (l.take i)).length ≤12288:=xN (HO.out.sub (List.take_sublist _ _));generalize dP (l.take i)=sn at*
   have HF:=g (fun(j:Nat) (hj:j≤2)=>(show(cm p j sn).length ≤12290 from Nat.le_trans (vG p sn j) (by omega)));clear hsn;have HCC:=g (fun(w':U) (P:ab) (h:T w' (P*bE w w.heap.size))=>(⟨(Has.swap h).oldCell' HC.out.2.1,(Has.swap h).oldCell' HC.out.2.2⟩:w'.cell? ⟨b,i*4,D⟩=G (o r p)∧w'.cell? ⟨b,i*4+1,D⟩=G (o r z)));obtain⟨m0,m1⟩:=HCC.out _ _ hr;have hbl:b<wr.heap.size:=Nat.lt_of_lt_of_le HC.out.1 hx.size;go_wp2_with fail
   go_loopw [3,6] (fun s3 s6 wz=>∃(j:Nat) (B:Option Y) (n' c':Nat),j≤(3 - z).toNat ∧s6=o r (3 - (j:Int))∧s3= .slice B n' c'∧T wz (ao (.slice B n' c') (cm p j sn)*bE w w.heap.size)∧ad w wz) (fun _ t _=>3 - (3 - (E t)).toNat)
   case atStart=>exact⟨0,B,n',c',by omega,rfl,rfl,hr,hx⟩
   case round=>
    clear hr hx m0 m1 hbl;obtain⟨j,B,n',c',hj,rfl,rfl,hr,hx⟩:=hrel;obtain⟨m0,m1⟩:=HCC.out _ _ hr;have hbl:b<wr.heap.size:=Nat.lt_of_lt_of_le HC.out.1 hx.size;by_cases hjl:j< (3 - z).toNat
    ·have hgt:z<3 - (j:Int):=by omega
     have hj3:j=0∨j=1∨j=2:=by omega
     rcases hj3 with rfl|rfl|rfl
     ·skip
      have hgt':z<3:=by omega
      clear hgt hjl hj hz;go_wp2_with fail
      go_loopw [7,8] (fun s7 s8 wz=>∃(k:Nat),k≤3∧s7=o r (aw k)∧s8=o r k∧wz=wr) (fun _ t _=>3 - (E t).toNat)
      case atStart=>exact⟨0,by omega,rfl,rfl,rfl⟩
      case round=>
       obtain⟨k,hk,rfl,rfl,hwz⟩:=hrel;subst hwz;by_cases hkl:k<3
       ·have hp8:IntKind.i64.wrap (aw k*8)=aw (k+1):=by
         have:k=0∨k=1∨k=2:=by omega
         rcases this with rfl|rfl|rfl<;>rfl
        obtain⟨q1,hq1⟩:∃q1,aw (k+1)=q1:=⟨_,rfl⟩;have Q1:=g (show(o r) q1=o r (aw (k+1)) by rw[hq1]);rw[hq1] at hp8;clear hq1;generalize aw k=q0 at hp8⊢;go_wp2_with fail
        go_roundw
        case rel=>exact⟨k+1,by omega,Q1.out,by go_num,trivial⟩
        case measure=>simp[E];omega
       ·obtain rfl:k=3:=by omega
        go_upto_region 15 with fail;have hkey:wrap64 (wrap64 (wrap64 (p.tdiv (aw 3))*4)+3)=ep p 3:=by
         unfold ep;rw[Int.tdiv_eq_ediv_of_nonneg hp0];have e:aw 3=512:=rfl;rw[e];have h1:wrap64 (p / 512)=p / 512:=eX (by omega) (by omega);have h2:wrap64 (p / 512*4)=p / 512*4:=eX (by omega) (by omega);have h3:wrap64 (p / 512*4+3)=p / 512*4+3:=eX (by omega) (by omega);rw[h1,h2,h3];rfl
        rw[hkey];have hD:cm p (0+1) sn=ko (cm p 0 sn) (ep p 3):=rfl;rw[pa] at hD;have HD:=g hD;clear hkey hD;have HIN:=g (fun R w h=>o9 B n' c' (cm p 0 sn) (ep p 3) R w h);have HLN:=g (And.intro (cT hr) (lg hr));have hfew:(cm p 0 sn).length ≤12290:=HF.out 0 (by omega);generalize ep p 3=ky at*
        generalize cm p 0 sn=L0 at*
        cases hib:r9 L0 ky with
        |true=>
         rw[hib] at HIN HD;have hD:=HD.out;rw[if_pos rfl] at hD;have HD':=g hD;clear hib hD HD;go_wp2_with fail
         refine(HIN.out _ _ hr).mono ?_;rintro e w5 ⟨rfl,rfl⟩;go_wp2_with fail
         go_roundw
         case rel=>exact⟨0+1,B,n',c',by omega,by first|rfl|(simp;done)|go_num,rfl,by rw[HD'.out];exact hr,hx⟩
         case measure=>first|(simp[E];done)|(simp[E];omega)
        |false=>
         rw[hib] at HIN HD;have hD:=HD.out;rw[if_neg (by simp)] at hD;have HD':=g hD;clear hib hD HD;go_wp2_with fail
         refine(HIN.out _ _ hr).mono ?_;rintro e w5 ⟨rfl,hwz⟩;subst hwz;have hrow:=(hr.eq (show _=ct 3 1 (.slice B n' c') L0.length (L0.map (o r))*bE w w.heap.size from rfl)).alloc (.cells #[o r ky] 3);go_wp2_with(first|(at_builtin;refine aV rfl _ _ 45 rfl underlying45 fK _ _ _ rfl hrow (M _ 0 D) 1 1 [o r ky] rfl rfl (dU _ (o r ky) 3) ?c1 ?c2 ?c3 ?_))
         case c1=>intro u hu;simp at hu;subst hu;rfl
         case c2=>have:=HLN.out;unfold maxLen at*;omega
         case c3=>have:=HLN.out;omega
         intro v' w10 h10 x10;obtain⟨G',gc',rfl⟩:=h10.rowForm;go_wp2_with fail
         go_roundw
         case rel=>exact⟨0+1,G',_,gc',by omega,by first|rfl|(simp;done)|go_num,rfl,by rw[HD'.out];unfold ao;simp only[F,List.length_singleton,List.map_append,List.map_cons,List.map_nil];exact h10,(hx.alloc _).trans x10⟩
         case measure=>first|(simp[E];done)|(simp[E];omega)
     ·skip
      have hgt':z<2:=by omega
      clear hgt hjl hj hz;go_wp2_with fail
      go_loopw [7,8] (fun s7 s8 wz=>∃(k:Nat),k≤2∧s7=o r (aw k)∧s8=o r k∧wz=wr) (fun _ t _=>2 - (E t).toNat)
      case atStart=>exact⟨0,by omega,rfl,rfl,rfl⟩
      case round=>
       obtain⟨k,hk,rfl,rfl,hwz⟩:=hrel;subst hwz;by_cases hkl:k<2
       ·have hp8:IntKind.i64.wrap (aw k*8)=aw (k+1):=by
         have:k=0∨k=1∨k=2:=by omega
         rcases this with rfl|rfl|rfl<;>rfl
        obtain⟨q1,hq1⟩:∃q1,aw (k+1)=q1:=⟨_,rfl⟩;have Q1:=g (show(o r) q1=o r (aw (k+1)) by rw[hq1]);rw[hq1] at hp8;clear hq1;generalize aw k=q0 at hp8⊢;go_wp2_with fail
        go_roundw
        case rel=>exact⟨k+1,by omega,Q1.out,by go_num,trivial⟩
        case measure=>simp[E];omega
       ·obtain rfl:k=2:=by omega
        go_upto_region 15 with fail;have hkey:wrap64 (wrap64 (wrap64 (p.tdiv (aw 2))*4)+2)=ep p 2:=by
         unfold ep;rw[Int.tdiv_eq_ediv_of_nonneg hp0];have e:aw 2=64:=rfl;rw[e];have h1:wrap64 (p / 64)=p / 64:=eX (by omega) (by omega);have h2:wrap64 (p / 64*4)=p / 64*4:=eX (by omega) (by omega);have h3:wrap64 (p / 64*4+2)=p / 64*4+2:=eX (by omega) (by omega);rw[h1,h2,h3];rfl
        rw[hkey];have hD:cm p (1+1) sn=ko (cm p 1 sn) (ep p 2):=rfl;rw[pa] at hD;have HD:=g hD;clear hkey hD;have HIN:=g (fun R w h=>o9 B n' c' (cm p 1 sn) (ep p 2) R w h);have HLN:=g (And.intro (cT hr) (lg hr));have hfew:(cm p 1 sn).length ≤12290:=HF.out 1 (by omega);generalize ep p 2=ky at*
        generalize cm p 1 sn=L0 at*
        cases hib:r9 L0 ky with
        |true=>
         rw[hib] at HIN HD;have hD:=HD.out;rw[if_pos rfl] at hD;have HD':=g hD;clear hib hD HD;go_wp2_with fail
         refine(HIN.out _ _ hr).mono ?_;rintro e w5 ⟨rfl,rfl⟩;go_wp2_with fail
         go_roundw
         case rel=>exact⟨1+1,B,n',c',by omega,by first|rfl|(simp;done)|go_num,rfl,by rw[HD'.out];exact hr,hx⟩
         case measure=>first|(simp[E];done)|(simp[E];omega)
        |false=>
         rw[hib] at HIN HD;have hD:=HD.out;rw[if_neg (by simp)] at hD;have HD':=g hD;clear hib hD HD;go_wp2_with fail
         refine(HIN.out _ _ hr).mono ?_;rintro e w5 ⟨rfl,hwz⟩;subst hwz;have hrow:=(hr.eq (show _=ct 3 1 (.slice B n' c') L0.length (L0.map (o r))*bE w w.heap.size from rfl)).alloc (.cells #[o r ky] 3);go_wp2_with(first|(at_builtin;refine aV rfl _ _ 45 rfl underlying45 fK _ _ _ rfl hrow (M _ 0 D) 1 1 [o r ky] rfl rfl (dU _ (o r ky) 3) ?c1 ?c2 ?c3 ?_))
         case c1=>intro u hu;simp at hu;subst hu;rfl
         case c2=>have:=HLN.out;unfold maxLen at*;omega
         case c3=>have:=HLN.out;omega
         intro v' w10 h10 x10;obtain⟨G',gc',rfl⟩:=h10.rowForm;go_wp2_with fail
         go_roundw
         case rel=>exact⟨1+1,G',_,gc',by omega,by first|rfl|(simp;done)|go_num,rfl,by rw[HD'.out];unfold ao;simp only[F,List.length_singleton,List.map_append,List.map_cons,List.map_nil];exact h10,(hx.alloc _).trans x10⟩
         case measure=>first|(simp[E];done)|(simp[E];omega)
     ·skip
      have hgt':z<1:=by omega
      clear hgt hjl hj hz;go_wp2_with fail
      go_loopw [7,8] (fun s7 s8 wz=>∃(k:Nat),k≤1∧s7=o r (aw k)∧s8=o r k∧wz=wr) (fun _ t _=>1 - (E t).toNat)
      case atStart=>exact⟨0,by omega,rfl,rfl,rfl⟩
      case round=>
       obtain⟨k,hk,rfl,rfl,hwz⟩:=hrel;subst hwz;by_cases hkl:k<1
       ·have hp8:IntKind.i64.wrap (aw k*8)=aw (k+1):=by
         have:k=0∨k=1∨k=2:=by omega
         rcases this with rfl|rfl|rfl<;>rfl
        obtain⟨q1,hq1⟩:∃q1,aw (k+1)=q1:=⟨_,rfl⟩;have Q1:=g (show(o r) q1=o r (aw (k+1)) by rw[hq1]);rw[hq1] at hp8;clear hq1;generalize aw k=q0 at hp8⊢;go_wp2_with fail
        go_roundw
        case rel=>exact⟨k+1,by omega,Q1.out,by go_num,trivial⟩
        case measure=>simp[E];omega
       ·obtain rfl:k=1:=by omega
        go_upto_region 15 with fail;have hkey:wrap64 (wrap64 (wrap64 (p.tdiv (aw 1))*4)+1)=ep p 1:=by
         unfold ep;rw[Int.tdiv_eq_ediv_of_nonneg hp0];have e:aw 1=8:=rfl;rw[e];have h1:wrap64 (p / 8)=p / 8:=eX (by omega) (by omega);have h2:wrap64 (p / 8*4)=p / 8*4:=eX (by omega) (by omega);have h3:wrap64 (p / 8*4+1)=p / 8*4+1:=eX (by omega) (by omega);rw[h1,h2,h3];rfl
        rw[hkey];have hD:cm p (2+1) sn=ko (cm p 2 sn) (ep p 1):=rfl;rw[pa] at hD;have HD:=g hD;clear hkey hD;have HIN:=g (fun R w h=>o9 B n' c' (cm p 2 sn) (ep p 1) R w h);have HLN:=g (And.intro (cT hr) (lg hr));have hfew:(cm p 2 sn).length ≤12290:=HF.out 2 (by omega);generalize ep p 1=ky at*
        generalize cm p 2 sn=L0 at*
        cases hib:r9 L0 ky with
        |true=>
         rw[hib] at HIN HD;have hD:=HD.out;rw[if_pos rfl] at hD;have HD':=g hD;clear hib hD HD;go_wp2_with fail
         refine(HIN.out _ _ hr).mono ?_;rintro e w5 ⟨rfl,rfl⟩;go_wp2_with fail
         go_roundw
         case rel=>exact⟨2+1,B,n',c',by omega,by first|rfl|(simp;done)|go_num,rfl,by rw[HD'.out];exact hr,hx⟩
         case measure=>first|(simp[E];done)|(simp[E];omega)
        |false=>
         rw[hib] at HIN HD;have hD:=HD.out;rw[if_neg (by simp)] at hD;have HD':=g hD;clear hib hD HD;go_wp2_with fail
         refine(HIN.out _ _ hr).mono ?_;rintro e w5 ⟨rfl,hwz⟩;subst hwz;have hrow:=(hr.eq (show _=ct 3 1 (.slice B n' c') L0.length (L0.map (o r))*bE w w.heap.size from rfl)).alloc (.cells #[o r ky] 3);go_wp2_with(first|(at_builtin;refine aV rfl _ _ 45 rfl underlying45 fK _ _ _ rfl hrow (M _ 0 D) 1 1 [o r ky] rfl rfl (dU _ (o r ky) 3) ?c1 ?c2 ?c3 ?_))
         case c1=>intro u hu;simp at hu;subst hu;rfl
         case c2=>have:=HLN.out;unfold maxLen at*;omega
         case c3=>have:=HLN.out;omega
         intro v' w10 h10 x10;obtain⟨G',gc',rfl⟩:=h10.rowForm;go_wp2_with fail
         go_roundw
         case rel=>exact⟨2+1,G',_,gc',by omega,by first|rfl|(simp;done)|go_num,rfl,by rw[HD'.out];unfold ao;simp only[F,List.length_singleton,List.map_append,List.map_cons,List.map_nil];exact h10,(hx.alloc _).trans x10⟩
         case measure=>first|(simp[E];done)|(simp[E];omega)
    ·obtain rfl:j=(3 - z).toNat :=by omega
     have hgt:¬z<3 - (((3 - z).toNat :Nat):Int):=by omega
     go_wp2_with fail
     go_roundw
     case rel=>exact⟨i+1,B,n',c',by omega,by go_num,rfl,by rw[HE.out];exact hr,hx⟩
     case measure=>simp[E];omega
  ·obtain rfl:i=l.length:=by omega
   rw[List.take_length] at hr;have hn:=cT hr;have hcap:=lg hr;have hlen:=xN HO.out;generalize (dP l).length =k at*
   subst hn;go_wp2_with fail
   go_ret;exact⟨by simp,ar hr.right hx⟩
theorem Idle.tabs{σ:Sc}{n K:Nat}{L:List Mp}(h:Idle σ n K L):σ.gone=[]∧(∀i,σ.wait i=I)∧(gY σ.s 0).length =(dP L).length +1∧σ.s.frees.length+((dP L).length +1)=n∧Bk.Ok L:=by
 obtain⟨P,hs⟩:=h.safe;obtain⟨a1,a2,_⟩:=hs.counts;have q:=hs.quiet h.busy;have hk:=hs.lk.ok;rw[h.book] at a2 hk;rw[q.1,h.n] at a1;simp only[List.length_nil] at a1;exact⟨q.1,q.2,a2,by omega,hk⟩
def Going(x:Stp)(n K:Nat)(L:List Mp)(e:Ev)(σ:Sc)(i:Nat):Prop:=
 (e=jv K L x∧Idle σ n K L∧((jv K L x).code ≠0∨(jv K L x).fin =X))∨(e= .no 0∧Run x n K L i σ)
theorem Going.start{σ:Sc}{n K:Nat}{L:List Mp}{x:Stp}(h:Idle σ n K L)(h4:x.kind=4):Going x n K L (σ.act x).2 (σ.act x).1 0:=h.begin h4
theorem Going.next{σ:Sc}{n K:Nat}{L:List Mp}{x:Stp}{i:Nat}(h:Run x n K L i σ):Going x n K L (σ.act (aY x.core)).2 (σ.act (aY x.core)).1 (i+1):=by
 obtain⟨_,h|h⟩:=h.step
 ·exact .inl ⟨h.1,h.2.1,.inr h.2.2⟩
 ·exact .inr h
set_option maxHeartbeats 20000000 in
theorem lT(C N:Int)(B:Option Y)(m d:Nat)(L:List Stp)(a:Ac)(w:U)(_:cW C)(_:cW N)(h2:Arr w B m 9 (L.map Stp.cells))(hLo:∀x∈L,x.ok)(ha:a.ok):
  Z prog 10 #[o r C,o r N,.slice B m d,.agg #[o r a.page,o r a.kind,O a.user]] w (Pure (O X) w):=by
 have hm2:=h2.2.1;have hB:=g h2;have hL:=g (show L.length=m by simpa using h2.1);have hLO:=g hLo;have hAO:=g ha;clear h2 hLo ha;have h0:=(aT w).new #[o r a.page,o r a.kind,O a.user] 41;have x0:=(Ext.refl w).alloc (.cells #[o r a.page,o r a.kind,O a.user] 41);have HB:=g (fun w=>nv w);have HG:=g (fun w=>mQ B m d 200 w);by_cases hbig:(200:Int)<m
 ·rw[decide_eq_true hbig] at HG
  go_enter func10,ntmps10;go_wp2_with fail
  refine(HB.out _).mono ?_;rintro e w1 ⟨rfl,hb⟩;go_wp2_with fail
  refine(HG.out _).mono ?_;rintro e w2 ⟨rfl,hw⟩;subst hw;go_wp2_with fail
  go_ret;exact⟨rfl,ar (h0.below hb).right (x0.below hb)⟩
 rw[decide_eq_false hbig] at HG;by_cases hbad:C<1∨4<C∨N<1∨128<N
 ·have HN:=g (fun w=>tM C N hbad w)
  clear hbad;go_enter func10,ntmps10;go_wp2_with fail
  refine(HB.out _).mono ?_;rintro e w1 ⟨rfl,hb⟩;go_wp2_with fail
  refine(HG.out _).mono ?_;rintro e w2 ⟨rfl,hw⟩;subst hw;have h1:=h0.below hb;have x1:=x0.below hb;clear h0 x0 hb;go_wp2_with fail
  refine(HN.out _).mono ?_;rintro e w3 ⟨rfl,hb⟩;have h3:=(h1.below hb).new #[o r 1,o r (-1)] 27;have x3:=(x1.below hb).alloc (.cells #[o r 1,o r (-1)] 27);clear h1 x1 hb;go_upto_region 6 with fail;generalize w3.alloc _=w4 at*
  generalize w3.heap.size=X1 at*
  obtain⟨c0,c1⟩:=h3.cells2;have cl:=h3.lt;go_wp2_with fail
  go_ret;exact⟨rfl,ar h3.right.right x3⟩
 obtain⟨K,rfl⟩:=V (show 0≤C by omega);obtain⟨n,rfl⟩:=V (show 0≤N by omega);have HN:=g (fun R w h=>vH K n (by omega) (by omega) (by omega) (by omega) R w h);have HNR:=g (fun R w h=>Am K n (by omega) (by omega) (by omega) (by omega) R w h);have HS0:J ((Wc.new K n).Ok []∧(Wc.new K n).σ.cs.length=K∧(Wc.new K n).σ.s.n=n):=g (by obtain⟨a,b,c⟩:=Safe.new (cores:=K) (n:=n) (by omega) (by omega) (by omega) (by omega);exact⟨Wc.Ok.new (by omega) (by omega) (by omega) (by omega),c,b⟩);have hm200:=g (show m≤200 by omega);have hK4:K≤4:=by omega
 have hn128:n≤128:=by omega
 clear hbad hbig;go_enter func10,ntmps10;go_upto_region 1 with fail;generalize w.alloc _=w0 at*
 generalize hXA:w.heap.size=XA at*
 go_wp2_with fail
 refine(HB.out _).mono ?_;rintro e w1 ⟨rfl,hb⟩;have h1:T w1 (aa XA #[o r a.page,o r a.kind,O a.user] 41*bE w XA):=h0.below hb;have x1:=x0.below hb;clear h0 x0 hb HB;go_wp2_with fail
 refine(HG.out _).mono ?_;rintro e w2 ⟨rfl,hw⟩;subst hw;clear HG;go_wp2_with fail
 refine(HN.out _ _ h1).mono ?_;rintro e w3 ⟨p,sp,rfl,h3,x3⟩;have h4:=h3.new #[o r 0,o r 0] 27;have x4:=(x1.trans x3).alloc (.cells #[o r 0,o r 0] 27);clear h1 x1 h3 x3 HN;go_upto_region 6 with fail;generalize w3.alloc _=w4 at*
 generalize w3.heap.size=X1 at*
 obtain⟨c0,c1⟩:=h4.cells2;have cl:=h4.lt;go_wp2_with fail
 refine(HNR.out _ _ h4.right).mono ?_;rintro e w5 ⟨b,rfl,h5,x5⟩;have h6:T w5 (aC p sp (Wc.new K n).H (Wc.new K n).f (Wc.new K n).since *(ak sp (Wc.new K n).σ*(cj b (Wc.new K n).σ*(aa XA #[o r a.page,o r a.kind,O a.user] 41*bE w XA)))):=h5.eq (show _=aC p sp [[]] 0 (List.replicate K 0)*(ak sp (Sc.new K n)*(cj b (Sc.new K n)*(aa XA #[o r a.page,o r a.kind,O a.user] 41*bE w XA))) by ac_rfl);have x6:=x4.trans x5;clear h4 x4 h5 x5 HNR c0 c1 cl;have HL0:J ((Wc.new K n).H.length ≤1+0):=g (Nat.le_refl _);go_wp2_with fail
 generalize Wc.new K n=W0 at*
 go_loopw [12] (fun t12 wr=>∃(i:Nat) (W:Wc) (P:List Mp),i≤m∧t12=o r i∧J (W.Ok P∧W.σ.cs.length=K∧W.σ.s.n=n)∧J (W.H.length≤1+i)∧T wr (aC p sp W.H W.f W.since*(ak sp W.σ*(cj b W.σ*(aa XA #[o r a.page,o r a.kind,O a.user] 41*bE w XA))))∧ad w wr) (fun t12 _=>m - (E t12).toNat)
 case atStart=>exact⟨0,W0,[],by omega,rfl,HS0,HL0,h6,x6⟩
 case round=>
  clear h6 x6 HS0 HL0;obtain⟨i,W1,P1,hi,rfl,hS1,hL1,hr,hx⟩:=hrel;by_cases hlt:i<m
  ·
   have hil:i<L.length:=by have:=hL.out;omega
   have HOld:=g (fun(w':U) (h:T w' (bE w XA))=>show T w' (bE w w.heap.size) by rw[hXA];exact h);obtain⟨b',off,hb,-⟩:=(hB.out.old1 (HOld.out _ hr.right.r3) hx).stp hil;subst hb;obtain⟨y,hy⟩:∃y,L[i]=y:=⟨_,rfl⟩;have hyo:y.ok:=by rw[←hy];exact hLO.out _ (List.getElem_mem hil)
   have HD:=g (fun(w':U) (h:T w' (bE w XA)) (e:ad w w')=>(hB.out.old1 (HOld.out _ h) e).stpAt hil hy);clear hy;have hb1:W1.H.length≤999999:=by have:=hL1.out;have:=hm200.out;omega
   have HW:J (∀R w,T w (aC p sp W1.H W1.f W1.since*(ak sp W1.σ*R))→Z prog 37 #[.pointer (G (M p 0 D)),.agg #[o r y.kind,o r y.core,o r y.m.page,o r y.m.size,o r y.m.frame,o r y.m.rights,o r y.a.page,o r y.a.kind,O y.a.user]] w
     (cR (.tuple #[(W1.act y).2.val,.agg #[o r 0,o r 0]]) (aC p sp (W1.act y).1.H (W1.act y).1.f (W1.act y).1.since*(ak sp (W1.act y).1.σ*R)) w)):=g (fun R w h=>zU p sp W1 P1 y hS1.out.1 hyo hb1 R w h)
   have HR:J (∀R w,T w (cj b W1.σ*R)→Z prog 17 #[.pointer (G (M b 0 D)),.agg #[o r y.kind,o r y.core,o r y.m.page,o r y.m.size,o r y.m.frame,o r y.m.rights,o r y.a.page,o r y.a.kind,O y.a.user]] w
     (cR (W1.act y).2.val (cj b (W1.act y).1.σ*R) w)):=g (fun R w h=>Ax b W1.σ y hS1.out.1.safe.ok hyo R w h)
   have HS2:J ((W1.act y).1.Ok (Safe.prevOf W1.σ P1 y)∧(W1.act y).1.σ.cs.length=K∧(W1.act y).1.σ.s.n=n):=g ⟨hS1.out.1.act y,(hS1.out.1.safe.n_act y).2.trans hS1.out.2.1,(hS1.out.1.safe.n_act y).1.trans hS1.out.2.2⟩;have HL2:J ((W1.act y).1.H.length≤1+(i+1)):=g (by have:=Wc.hist_len W1 y;have:=hL1.out;omega);unfold Ev.val at HW HR;clear hS1 hyo hb1 hL1;generalize W1.act y=z at*
   generalize Safe.prevOf W1.σ P1 y=P2 at*
   obtain⟨W2,⟨ec,ef,⟨ea,eb,er⟩,ek⟩⟩:=z;obtain⟨yk,yc,ym,ya⟩:=y;dsimp only at*
   have hlt':(i:Int)<m:=by omega
   have hi0:(0:Int)≤i:=by omega
   obtain⟨dl,d0,d1,d2,d3,d4,d5,d6,d7,d8⟩:=HD.out _ hr.right.r3 hx;go_wp2_with fail
   refine(HW.out _ _ hr).mono ?_;rintro e w5 ⟨rfl,h5,x5⟩;have h6:T w5 (cj b W1.σ*(aC p sp W2.H W2.f W2.since*(ak sp W2.σ*(aa XA #[o r a.page,o r a.kind,O a.user] 41*bE w XA)))):=h5.eq (by ac_rfl);have x6:=hx.trans x5;clear hr hx h5 x5 HW dl d0 d1 d2 d3 d4 d5 d6 d7 d8;obtain⟨dl,d0,d1,d2,d3,d4,d5,d6,d7,d8⟩:=HD.out _ h6.right.r3 x6;go_wp2_with fail
   refine(HR.out _ _ h6).mono ?_;rintro e w7 ⟨rfl,h7,x7⟩;have h8:T w7 (aC p sp W2.H W2.f W2.since*(ak sp W2.σ*(cj b W2.σ*(aa XA #[o r a.page,o r a.kind,O a.user] 41*bE w XA)))):=h7.eq (by ac_rfl);have x8:=x6.trans x7;clear h6 x6 h7 x7 HR dl d0 d1 d2 d3 d4 d5 d6 d7 d8;go_wp2_with fail
   go_roundw
   case rel=>exact⟨i+1,W2,P2,by omega,by go_num,HS2,HL2,h8,x8⟩
   case measure=>simp[E];omega
  ·obtain rfl:i=m:=by omega
   have hbH:W1.H.length≤1000:=by have:=hL1.out;have:=hm200.out;omega
   have HCT:=g (fun R w h=>zW p sp W1 P1 hS1.out.1 (by omega) R w h);have HCD:=g (fun R w h=>zT b W1.σ P1 hS1.out.1.safe R w h);obtain⟨hid,-,-⟩:=tN hS1.out.1.safe;rw[hS1.out.2.1,hS1.out.2.2] at hid;have HID:=g hid;have HHL:=g hbH;clear hid hbH hS1 hL1 hm200;generalize dn W1.σ.s 0=MM at*
   generalize W1.H.length=hl at*
   generalize gI W1.σ=CR at*
   obtain⟨σ2,ev⟩:=CR;dsimp only at*
   go_upto_region 14 with fail;go_wp2_with fail
   refine(HCT.out _ _ hr).mono ?_;rintro e w3 ⟨A1,c1,W2,P2,rfl,hO2,hσ2,hl2,h3,x3⟩;have h4:T _ (cj b W1.σ*(aa w3.heap.size #[o r 0,o r 0] 27*(dD (.slice A1 ev.length c1) ev*(aC p sp W2.H W2.f W2.since*(ak sp W2.σ*(aa XA #[o r a.page,o r a.kind,O a.user] 41*bE w XA)))))):=(h3.new #[o r 0,o r 0] 27).eq (by ac_rfl);have x4:=(hx.trans x3).alloc (.cells #[o r 0,o r 0] 27);have HO2:=g hO2;have HL2:J (W2.H.length≤1000):=g (by rw[hl2];exact HHL.out);rw[←hσ2] at HID;clear hr hx h3 x3 HCT hO2 hσ2 hl2 HHL;go_upto_region 15 with fail;generalize w3.alloc _=w4 at*
   generalize w3.heap.size=X2 at*
   have f0:=h4.right.cell 0;have fl:=h4.right.lt;go_wp2_with fail
   refine(HCD.out _ _ h4).mono ?_;rintro e w5 ⟨A2,c2,rfl,h5,x5⟩;have HSE:=g (nu ev A1 A2 ev.length c1 c2 w5 (nk (h5.eq (show _=dD (.slice A1 ev.length c1) ev*(dD (.slice A2 ev.length c2) ev*(cj b σ2*(aa X2 #[o r 0,o r 0] 27*(aC p sp W2.H W2.f W2.since*(ak sp W2.σ*(aa XA #[o r a.page,o r a.kind,O a.user] 41*bE w XA)))))) by ac_rfl))) (nk h5));have h6:T w5 (aC p sp W2.H W2.f W2.since*(ak sp W2.σ*(aa XA #[o r a.page,o r a.kind,O a.user] 41*bE w XA))):=(h5.eq (show _=dD (.slice A1 ev.length c1) ev*(dD (.slice A2 ev.length c2) ev*(cj b σ2*(aa X2 #[o r 0,o r 0] 27*(aC p sp W2.H W2.f W2.since*(ak sp W2.σ*(aa XA #[o r a.page,o r a.kind,O a.user] 41*bE w XA)))))) by ac_rfl)).r4;have x6:=x4.trans x5;clear h4 x4 h5 x5 HCD f0 fl;go_wp2_with fail
   refine HSE.out.mono ?_;rintro e w7 ⟨rfl,b7⟩;have h8:=h6.below b7;have x8:=x6.below b7;clear h6 x6 b7 HSE;have HLI:=g (fun R w h=>xD sp W2.σ HO2.out.safe.wf R w h);rw[HID.out.book] at HLI;have pl:=(cH h8).1;have pc:=(cH h8).2;go_upto_region 17 with fail;go_wp2_with fail
   refine(HLI.out _ _ h8.p2).mono ?_;rintro e w9 ⟨A3,c3,rfl,h9,x9⟩;have h10:T w9 (ak sp W2.σ*(aC p sp W2.H W2.f W2.since*(cK (.slice A3 MM.length c3) MM*(aa XA #[o r a.page,o r a.kind,O a.user] 41*bE w XA)))):=h9.eq (by ac_rfl);have x10:=x8.trans x9;clear h8 x8 h9 x9 HLI pl pc;go_upto_region 18 with fail;go_cut [117] from 78 to 117 (fun s117 wx=>s117=O I∧T wx (ak sp W2.σ*(aC p sp W2.H W2.f W2.since*(cK (.slice A3 MM.length c3) MM*(aa XA #[o r a.page,o r a.kind,O a.user] 41*bE w XA))))∧ad w wx)
   case first=>
    as_aux_lemma=>
    obtain⟨q1,q2,q3,q4,q5⟩:=HID.out.tabs;have HBU:=g (fun R w h=>zv sp W2.σ R w h);rw[HID.out.busy] at HBU;have HGO:=g (fun R w h=>zw sp W2.σ R w h);rw[q1] at HGO;have HTA:=g (fun R w h=>wJ sp W2.σ HO2.out.safe.wf R w h);have HFR:=g (fun R w h=>zx sp W2.σ R w h);have HNE:=g (fun R w h=>xe MM A3 MM.length c3 q5 R w h);generalize (dP MM).length +1=nt at*
    generalize W2.σ.s.frees.length=nf at*
    generalize gY W2.σ.s 0=TT at*
    simp only[q3] at HTA;have hw:IntKind.i64.wrap ((n:Int) - (nt:Int))=(nf:Int):=by rw[IntKind.wrap_i64];omega
    have HK:=g (fun(w':U) (R':ab) (h:T w' (ak sp W2.σ*(aC p sp W2.H W2.f W2.since*R')))=>((cH h.right).2:w'.cell? (M p 0 D)=G (.pointer (G (M sp 0 D)))));have pl:=(cH h10.right).1;have hd:=h10.drew;have xd:=x10.drew;clear h10 x10 q1 q2 q3 q4 q5 HID HO2 HL2;go_region_held3 (fun w'=>w'.cell? (M p 0 D)=G (.pointer (G (M sp 0 D)))) (first|(with_reducible exact HK.out _ _ hd)|(with_reducible exact HK.out _ _ hT)|(with_reducible exact HK.out _ _ hM)|(with_reducible exact HK.out _ _ hU)|go_keep)
     (first
      |(go_at_call 24;(with_reducible refine(HBU.out _ _ hd).mono ?_);rintro e w5 ⟨rfl,rfl⟩)
      |(go_at_call 27;(with_reducible refine(HGO.out _ _ hd).mono ?_);rintro e w5 ⟨rfl,rfl⟩)
      |(go_at_call 23;(with_reducible refine(HTA.out _ _ hd).mono ?_);rintro e w5 ⟨B1,d1,rfl,h5,x5⟩;have hT:T w5 (ak sp W2.σ*(aC p sp W2.H W2.f W2.since*(cK (.slice A3 MM.length c3) MM*(ao (.slice B1 nt d1) TT*(aa XA #[o r a.page,o r a.kind,O a.user] 41*bE w XA))))):=h5.eq (by ac_rfl);have xT:=xd.trans x5)
      |(go_at_call 49;(with_reducible refine(HNE.out _ _ (hT.eq (show _=cK (.slice A3 MM.length c3) MM*(ak sp W2.σ*(aC p sp W2.H W2.f W2.since*(ao (.slice B1 nt d1) TT*(aa XA #[o r a.page,o r a.kind,O a.user] 41*bE w XA)))) by ac_rfl))).mono ?_);rintro e w6 ⟨rfl,b6⟩;have hM:=hT.below b6;have xM:=xT.below b6)
      |(go_at_call 25;(with_reducible refine(HFR.out _ _ hM).mono ?_);rintro e w7 ⟨rfl,rfl⟩)
      |(go_at_call 23;(with_reducible refine(HTA.out _ _ hM).mono ?_);rintro e w8 ⟨B2,d2,rfl,h8,x8⟩;have hU:T w8 (ak sp W2.σ*(aC p sp W2.H W2.f W2.since*(cK (.slice A3 MM.length c3) MM*(ao (.slice B2 nt d2) TT*(ao (.slice B1 nt d1) TT*(aa XA #[o r a.page,o r a.kind,O a.user] 41*bE w XA)))))):=h8.eq (by ac_rfl);have xU:=xM.trans x8))
    all_goals
     go_wp2_with fail
     go_meet
     case rel=>exact⟨by first|rfl|simp,(hU.eq (show _=ao (.slice B2 nt d2) TT*(ao (.slice B1 nt d1) TT*(ak sp W2.σ*(aC p sp W2.H W2.f W2.since*(cK (.slice A3 MM.length c3) MM*(aa XA #[o r a.page,o r a.kind,O a.user] 41*bE w XA))))) by ac_rfl)).right.right,xU⟩
   case rest=>
    obtain⟨rfl,h11,x11⟩:=hcut;clear h10 x10;have h12:T _ (aa wc.heap.size #[.slice A3 MM.length c3] 91*(cK (.slice A3 MM.length c3) MM*(aC p sp W2.H W2.f W2.since*(ak sp W2.σ*(aa XA #[o r a.page,o r a.kind,O a.user] 41*bE w XA))))):=(h11.new #[.slice A3 MM.length c3] 91).eq (by ac_rfl);have h13:=(kN h12).eq (show _=aC p sp W2.H W2.f W2.since*(ak sp W2.σ*(ej wc.heap.size MM*(aa XA #[o r a.page,o r a.kind,O a.user] 41*bE w XA))) by ac_rfl);have x13:=x11.alloc (.cells #[.slice A3 MM.length c3] 91);clear h11 x11 h12;go_upto_region 21 with fail;generalize wc.alloc _=w12 at*
    generalize wc.heap.size=BP at*
    go_wp2_with fail
    go_loopw [17] (fun t17 wr=>∃(k:Nat) (W:Wc) (P:List Mp),k≤K∧t17=o r k∧J (W.Ok P)∧J (Idle W.σ n K MM)∧J (W.H.length≤1000)∧T wr (aC p sp W.H W.f W.since*(ak sp W.σ*(ej BP MM*(aa XA #[o r a.page,o r a.kind,O a.user] 41*bE w XA))))∧ad w wr) (fun t17 _=>K - (E t17).toNat)
    case atStart=>exact⟨0,W2,P2,by omega,rfl,HO2,HID,HL2,h13,x13⟩
    case round=>
     clear h13 x13 HO2 HID HL2;obtain⟨k,W3,P3,hk,rfl,hO3,hI3,hH3,hr,hx⟩:=hrel;by_cases hlt:k<K
     ·have hlt':(k:Int)<K:=by omega
      have hon:W3.σ.on k=I:=by
       have hkl:k<W3.σ.cs.length:=by rw[hI3.out.len];exact hlt
       rw[nl hkl];exact hI3.out.off k _ (Safe.at_core hkl)
      have hwt:W3.σ.waits k=I:=by
       rw[nm (by omega)];exact hI3.out.tabs.2.1 k
      have HON:=g (Aa sp W3.σ _ _ hr.p2 k);rw[hon] at HON;have HWT:=g (fun R w h=>uM sp W3.σ R w h k);rw[hwt] at HWT;have hyo:(⟨4,k,⟨0,0,0,0⟩,a⟩:Stp).ok :=by
       have:=hAO.out;refine⟨?_,?_,?_,this⟩
       ·show cW 4;unfold cW;omega
       ·show cW k;unfold cW;omega
       ·exact Sc.mp_ok_zero
      have HW:=g (fun R w h=>zU p sp W3 P3 ⟨4,k,⟨0,0,0,0⟩,a⟩ hO3.out hyo (by have:=hH3.out;omega) R w h);have HO4:J ((W3.act ⟨4,k,⟨0,0,0,0⟩,a⟩).1.Ok (Safe.prevOf W3.σ P3 ⟨4,k,⟨0,0,0,0⟩,a⟩)):=g (hO3.out.act _);have HG4:J (Going ⟨4,k,⟨0,0,0,0⟩,a⟩ n K MM (W3.act ⟨4,k,⟨0,0,0,0⟩,a⟩).2 (W3.act ⟨4,k,⟨0,0,0,0⟩,a⟩).1.σ 0):=g (Going.start hI3.out rfl);have HH4:J ((W3.act ⟨4,k,⟨0,0,0,0⟩,a⟩).1.H.length≤1000):=g (by rw[ld _ _ (by dsimp only;omega)];exact hH3.out);have HAN:J (jv K MM ⟨4,k,⟨0,0,0,0⟩,a⟩=if aq a≠0 then .no (aq a) else⟨0,X,Bk.ans MM a,I⟩):=g (by
       unfold jv;dsimp only;rw[if_neg (by omega),kP])
      have hokM:=g hI3.out.tabs.2.2.2.2;unfold Ev.val at HW;dsimp only at HW;have pl:=(cH hr).1;have pc:=(cH hr).2;clear hO3 hI3 hH3 hon hwt hyo;generalize Wc.act W3 ⟨4,(k:Int),⟨0,0,0,0⟩,a⟩=z at*
      go_upto_region 24 with fail;go_wp2_with fail
      refine HON.out.mono ?_;rintro e w3 ⟨rfl,b3⟩;generalize W3.σ.acc k=a3 at*
      have h4:=(hr.below b3).new #[o r a3.page,o r a3.kind,O a3.user] 41;have x4:=(hx.below b3).alloc (.cells #[o r a3.page,o r a3.kind,O a3.user] 41);clear hr hx b3 HON pl pc;go_upto_region 25 with fail;generalize w3.alloc _=w4 at*
      replace h4:=h4.right;have pl:=(cH h4).1;have pc:=(cH h4).2;go_wp2_with fail
      refine(HWT.out _ _ h4.p2).mono ?_;rintro e w5 ⟨rfl,hw⟩;replace hw:=hw.symm;subst hw;obtain⟨a0,a1,a2⟩:=h4.r3.cells3;have al:=h4.r3.lt;clear HWT pl pc;go_wp2_with fail
      refine(HW.out _ _ h4).mono ?_;rintro e w6 ⟨rfl,h6,x6⟩;obtain⟨W4,e4⟩:=z;dsimp only at*
      have h7:T _ (aa w6.heap.size #[o r (e4).code,O (e4).fin,o r (e4).an.fin,o r (e4).an.frame,o r (e4).an.rights,O (e4).back] 36*(aC p sp W4.H W4.f W4.since*(ak sp W4.σ*(ej BP MM*(aa XA #[o r a.page,o r a.kind,O a.user] 41*bE w XA))))):=(((h6.new #[o r (e4).code,O (e4).fin,o r (e4).an.fin,o r (e4).an.frame,o r (e4).an.rights,O (e4).back] 36).new #[o r 0,o r 0] 27).right).eq (by ac_rfl);have x7:=((x4.trans x6).alloc (.cells #[o r (e4).code,O (e4).fin,o r (e4).an.fin,o r (e4).an.frame,o r (e4).an.rights,O (e4).back] 36)).alloc (.cells #[o r 0,o r 0] 27);clear h4 x4 h6 x6 HW a0 a1 a2 al;go_upto_region 28 with fail;generalize (w6.alloc (.cells #[o r (e4).code,O (e4).fin,o r (e4).an.fin,o r (e4).an.frame,o r (e4).an.rights,O (e4).back] 36)).alloc (.cells #[o r 0,o r 0] 27)=w7 at*
      generalize w6.heap.size=EX at*
      go_wp2_with fail
      go_loopw [22] (fun t22 wr=>∃(i:Nat) (W:Wc) (P:List Mp) (e:Ev),i≤6∧t22=o r i∧J (W.Ok P)∧J (Going ⟨4,k,⟨0,0,0,0⟩,a⟩ n K MM e W.σ i)∧J (W.H.length≤1000)∧T wr (aa EX #[o r (e).code,O (e).fin,o r (e).an.fin,o r (e).an.frame,o r (e).an.rights,O (e).back] 36*(aC p sp W.H W.f W.since*(ak sp W.σ*(ej BP MM*(aa XA #[o r a.page,o r a.kind,O a.user] 41*bE w XA)))))∧ad w wr) (fun t22 _=>6 - (E t22).toNat)
      case atStart=>exact⟨0,W4,_,e4,by omega,rfl,HO4,HG4,HH4,h7,x7⟩
      case round=>
       clear h7 x7 HO4 HG4 HH4;obtain⟨j,W5,P5,e5,hj,rfl,hO5,hG5,hH5,hr,hx⟩:=hrel;rcases hG5.out with ⟨g1,g2,g3⟩|⟨g1,g2⟩
       ·
        have HI5:=g g2;have HAF:=g (fun w=>ey a.page a.kind a.user w);have hca:aq ⟨a.page,a.kind,a.user⟩=aq a:=rfl;rw[hca] at HAF;clear hca;rw[HAN.out] at g1 g3;clear hG5 g2 HAN;by_cases hc:aq a≠0
        ·rw[if_pos hc] at g1
         subst g1;generalize aq a=cf at*
         have hc':(cf==0)=I:=by simpa using hc
         obtain⟨e0,e1,e2,e3,e4,e5⟩:=(show T wr (aa EX #[o r cf,O I,o r 0,o r 0,o r 0,O I] 36*_) from hr).cells6;have el:=Has.lt hr;obtain⟨a0,a1,a2⟩:=hr.right.r3.cells3;have al:=hr.right.r3.lt;clear hc g3;go_upto_region 29 with fail;go_cut [163] from 152 to 163 (fun s163 wx=>s163=O I∧wx=wr)
         case first=>
          by_cases hj6:(j:Int)<6
          ·go_wp2_with fail
           go_meet
           case rel=>exact⟨rfl,rfl⟩
          ·go_wp2_with fail
           go_meet
           case rel=>exact⟨rfl,rfl⟩
         case rest=>
          obtain⟨rfl,hw⟩:=hcut;replace hw:=hw.symm;subst hw;go_wp2_with fail
          refine(HAF.out _).mono ?_;rintro e w9 ⟨rfl,b9⟩;have h10:=(hr.below b9).drew;have x10:=(hx.below b9).drew;have E0:=(show T _ (aa EX #[o r cf,O I,o r 0,o r 0,o r 0,O I] 36*_) from h10).cell 0;clear hr hx b9 e0 e1 e2 e3 e4 e5 el a0 a1 a2 al;go_upto_region 33 with fail;refine wp_region_held_drew (S:=fun w'=>w'.cell? (M EX 0 D)=G (o r cf)) (by kernel_rfl) E0 (fun hHeld=> ?_);refine wpAnyH_take (i:=0) (v:= ?_) rfl (by kernel_rfl) (by kernel_rfl) (by kernel_rfl) (fun _ _ _ h=>h) (Or.inl ⟨by kernel_rfl,?_⟩) hHeld ?_;rotate_left;focus (intro wS hSw;(try dsimp only at hSw);go_simp;first|done|with_reducible rfl)
          try go_simp
          refine wpAnyH_take (i:=1) (v:= ?_) rfl (by kernel_rfl) (by kernel_rfl) (by kernel_rfl) (fun _ _ _ h=>h) (Or.inl ⟨by kernel_rfl,?_⟩) hHeld ?_;rotate_left;focus (intro wS hSw;(try dsimp only at hSw);go_simp;first|done|with_reducible rfl)
          try go_simp
          refine wpAnyH_take (i:=2) (v:= ?_) rfl (by kernel_rfl) (by kernel_rfl) (by kernel_rfl) (fun _ _ _ h=>h) (Or.inl ⟨by kernel_rfl,?_⟩) hHeld ?_;rotate_left;focus (intro wS hSw;(try dsimp only at hSw);go_simp;first|done|with_reducible rfl)
          try go_simp
          refine wpAnyH_take (i:=3) (v:= ?_) rfl (by kernel_rfl) (by kernel_rfl) (by kernel_rfl) (fun _ _ _ h=>h) (Or.inl ⟨by kernel_rfl,?_⟩) hHeld ?_;rotate_left;focus (intro wS hSw;(try dsimp only at hSw);go_simp;first|done|with_reducible rfl)
          try go_simp
          refine wpAnyH_take (i:=4) (v:= ?_) rfl (by kernel_rfl) (by kernel_rfl) (by kernel_rfl) (fun _ _ _ h=>h) (Or.inl ⟨by kernel_rfl,?_⟩) hHeld ?_;rotate_left;focus (intro wS hSw;(try dsimp only at hSw);go_simp;first|done|with_reducible rfl)
          try go_simp
          refine wpAnyH_take (i:=5) (v:= ?_) rfl (by kernel_rfl) (by kernel_rfl) (by kernel_rfl) (fun _ _ _ h=>h) (Or.inl ⟨by kernel_rfl,?_⟩) hHeld ?_;rotate_left;focus (intro wS hSw;(try dsimp only at hSw);go_simp;first|done|with_reducible rfl)
          try go_simp
          refine wpAnyH_take (i:=6) (v:= ?_) rfl (by kernel_rfl) (by kernel_rfl) (by kernel_rfl) (fun _ _ _ h=>h) (Or.inl ⟨by kernel_rfl,?_⟩) hHeld ?_;rotate_left;focus (intro wS hSw;(try dsimp only at hSw);go_simp;first|done|with_reducible rfl)
          try go_simp
          refine wpAnyH_take (i:=7) (v:= ?_) rfl (by kernel_rfl) (by kernel_rfl) (by kernel_rfl) (fun _ _ _ h=>h) (Or.inl ⟨by kernel_rfl,?_⟩) hHeld ?_;rotate_left;focus (intro wS hSw;(try dsimp only at hSw);go_simp;first|done|with_reducible rfl)
          try go_simp
          refine wpAnyH_take (i:=8) rfl (by kernel_rfl) (by kernel_rfl) (by kernel_rfl) (fun _ _ _ h=>h) (Or.inr ⟨by kernel_rfl,rfl⟩) hHeld ?_;try go_simp
          refine wpAnyH_take (i:=9) rfl (by kernel_rfl) (by kernel_rfl) (by kernel_rfl) (fun _ _ _ h=>h) (Or.inr ⟨by kernel_rfl,rfl⟩) hHeld ?_;try go_simp
          refine wpAnyH_take (i:=10) rfl (by kernel_rfl) (by kernel_rfl) (by kernel_rfl) (fun _ _ _ h=>h) (Or.inr ⟨by kernel_rfl,rfl⟩) hHeld ?_;try go_simp
          refine wpAnyH_take (i:=11) rfl (by kernel_rfl) (by kernel_rfl) (by kernel_rfl) (fun _ _ _ h=>h) (Or.inr ⟨by kernel_rfl,rfl⟩) hHeld ?_;try go_simp
          refine wpAnyH_take (i:=12) rfl (by kernel_rfl) (by kernel_rfl) (by kernel_rfl) (fun _ _ _ h=>h) (Or.inr ⟨by kernel_rfl,rfl⟩) hHeld ?_;try go_simp
          refine wpAnyH_take (i:=13) rfl (by kernel_rfl) (by kernel_rfl) (by kernel_rfl) (fun _ _ _ h=>h) (Or.inr ⟨by kernel_rfl,rfl⟩) hHeld ?_;try go_simp
          refine wpAnyH_take (i:=14) rfl (by kernel_rfl) (by kernel_rfl) (by kernel_rfl) (fun _ _ _ h=>h) (Or.inr ⟨by kernel_rfl,rfl⟩) hHeld ?_;try go_simp
          refine wpAnyH_take (i:=15) rfl (by kernel_rfl) (by kernel_rfl) (by kernel_rfl) (fun _ _ _ h=>h) (Or.inr ⟨by kernel_rfl,rfl⟩) hHeld ?_;try go_simp
          refine wpAnyH_take (i:=16) rfl (by kernel_rfl) (by kernel_rfl) (by kernel_rfl) (fun _ _ _ h=>h) (Or.inr ⟨by kernel_rfl,rfl⟩) hHeld ?_;try go_simp
          refine wpAnyH_take (i:=17) rfl (by kernel_rfl) (by kernel_rfl) (by kernel_rfl) (fun _ _ _ h=>h) (Or.inr ⟨by kernel_rfl,rfl⟩) hHeld ?_;try go_simp
          refine wpAnyH_take (i:=18) rfl (by kernel_rfl) (by kernel_rfl) (by kernel_rfl) (fun _ _ _ h=>h) (Or.inr ⟨by kernel_rfl,rfl⟩) hHeld ?_;try go_simp
          refine wpAnyH_take (i:=19) (v:= ?_) rfl (by kernel_rfl) (by kernel_rfl) (by kernel_rfl) (fun _ _ _ h=>h) (Or.inl ⟨by kernel_rfl,?_⟩) hHeld ?_;rotate_left;focus (intro wS hSw;(try dsimp only at hSw);go_simp;first|done|with_reducible rfl)
          try go_simp
          refine wpAnyH_take (i:=20) (v:= ?_) rfl (by kernel_rfl) (by kernel_rfl) (by kernel_rfl) (fun _ _ _ h=>h) (Or.inl ⟨by kernel_rfl,?_⟩) hHeld ?_;rotate_left;focus (intro wS hSw;(try dsimp only at hSw);go_simp;first|done|with_reducible rfl)
          try go_simp
          refine wpAnyH_done (by kernel_rfl) ?_ _;go_wp2_with fail
          go_roundw
          case rel=>exact⟨k+1,W5,P5,by omega,by go_num,hO5,HI5,hH5,h10.right,x10⟩
          case measure=>simp[E];omega
        ·rw[if_neg hc] at g1
         have hc0:aq a=0:=by simpa using hc
         rw[hc0] at HAF;subst g1;have hia:cW a.page:=hAO.out.1;have HAP:=g (fun w R h=>wh BP MM a R w hokM.out hia h);unfold An.val at HAP;generalize Bk.ans MM a=an at*
         obtain⟨n1,n2,n3⟩:=an;dsimp only at HAP hr;obtain⟨e0,e1,e2,e3,e4,e5⟩:=hr.cells6;have el:=Has.lt hr;obtain⟨a0,a1,a2⟩:=hr.right.r3.cells3;have al:=hr.right.r3.lt;clear hc g3 hc0;go_upto_region 29 with fail;go_cut [163] from 152 to 163 (fun s163 wx=>s163=O I∧wx=wr)
         case first=>
          by_cases hj6:(j:Int)<6
          ·go_wp2_with fail
           go_meet
           case rel=>exact⟨rfl,rfl⟩
          ·go_wp2_with fail
           go_meet
           case rel=>exact⟨rfl,rfl⟩
         case rest=>
          obtain⟨rfl,hw⟩:=hcut;replace hw:=hw.symm;subst hw;go_wp2_with fail
          refine(HAF.out _).mono ?_;rintro e w9 ⟨rfl,b9⟩;have h9:=hr.below b9;have x9:=hx.below b9;clear hr hx b9 e0 e1 e2 e3 e4 e5 a0 a1 a2;have hd:T _ (ej BP MM*(aa EX #[o r 0,O X,o r n1,o r n2,o r n3,O I] 36*(aa XA #[o r a.page,o r a.kind,O a.user] 41*(aC p sp W5.H W5.f W5.since*(ak sp W5.σ*bE w XA))))):=(h9.eq (by ac_rfl)).drew;have xd:=x9.drew;have HK:=g (fun(w':U) (P R':ab) (h:T w' (P*(aa EX #[o r 0,O X,o r n1,o r n2,o r n3,O I] 36*(aa XA #[o r a.page,o r a.kind,O a.user] 41*R'))))=>(by
           obtain⟨u0,u1,u2,u3,u4,u5⟩:=h.right.cells6;obtain⟨v0,v1,v2⟩:=h.right.right.cells3;exact⟨u0,u1,u2,u3,u4,v0,v1,v2⟩:w'.cell? (M EX 0 D)=G (o r 0)∧w'.cell? (M EX 1 D)=G (O X)∧w'.cell? (M EX 2 D)=G (o r n1)∧w'.cell? (M EX 3 D)=G (o r n2)∧w'.cell? (M EX 4 D)=G (o r n3)∧w'.cell? (M XA 0 D)=G (o r a.page)∧w'.cell? (M XA 1 D)=G (o r a.kind)∧w'.cell? (M XA 2 D)=G (O a.user)))
          go_upto_region 33 with fail;clear h9 x9 el al;have el:=hd.right.lt;have al:=hd.right.right.lt;go_region_held3 (fun w'=>w'.cell? (M EX 0 D)=G (o r 0)∧w'.cell? (M EX 1 D)=G (O X)∧w'.cell? (M EX 2 D)=G (o r n1)∧w'.cell? (M EX 3 D)=G (o r n2)∧w'.cell? (M EX 4 D)=G (o r n3)∧w'.cell? (M XA 0 D)=G (o r a.page)∧w'.cell? (M XA 1 D)=G (o r a.kind)∧w'.cell? (M XA 2 D)=G (O a.user)) (first|(with_reducible exact HK.out _ _ _ hd)|(with_reducible exact HK.out _ _ _ hP)|go_keep)
           (first
            |(go_at_call 41;(with_reducible refine(HAP.out _ _ hd).mono ?_);rintro e w10 ⟨rfl,b10⟩;have hP:=hd.below b10;have xP:=xd.below b10))
          all_goals
           go_wp2_with fail
           go_roundw
           case rel=>exact⟨k+1,W5,P5,by omega,by go_num,hO5,HI5,hH5,(hP.eq (show _=aa EX #[o r 0,O X,o r n1,o r n2,o r n3,O I] 36*(aC p sp W5.H W5.f W5.since*(ak sp W5.σ*(ej BP MM*(aa XA #[o r a.page,o r a.kind,O a.user] 41*bE w XA)))) by ac_rfl)).right,xP⟩
           case measure=>simp[E];omega
       ·
        subst g1;have hj4:j≤4:=g2.way.few;have hj6:(j:Int)<6:=by omega
        have hyo:(aY k).ok :=pm k (by omega);have HW:=g (fun R w h=>zU p sp W5 P5 (aY k) hO5.out hyo (by have:=hH5.out;omega) R w h);have HO6:J ((W5.act (aY k)).1.Ok (Safe.prevOf W5.σ P5 (aY k))):=g (hO5.out.act _);have HG6:J (Going ⟨4,k,⟨0,0,0,0⟩,a⟩ n K MM (W5.act (aY k)).2 (W5.act (aY k)).1.σ (j+1)):=g (Going.next g2);have HH6:J ((W5.act (aY k)).1.H.length≤1000):=g (by rw[ld _ _ kI];exact hH5.out);unfold Ev.val aY at HW;unfold aY at HO6 HG6 HH6;dsimp only at HW;clear hO5 hG5 hH5 g2 hyo;generalize Wc.act W5 ⟨5,(k:Int),⟨0,0,0,0⟩,⟨0,0,I⟩⟩=z at*
        obtain⟨W6,⟨ec,ef,⟨ea,eb,er⟩,ek⟩⟩:=z;dsimp only at*
        have hr':T wr (aa EX #[o r 0,O I,o r 0,o r 0,o r 0,O I] 36*(aC p sp W5.H W5.f W5.since*(ak sp W5.σ*(ej BP MM*(aa XA #[o r a.page,o r a.kind,O a.user] 41*bE w XA))))):=hr;have h8:T wr (aC p sp W5.H W5.f W5.since*(ak sp W5.σ*(aa EX #[o r 0,O I,o r 0,o r 0,o r 0,O I] 36*(ej BP MM*(aa XA #[o r a.page,o r a.kind,O a.user] 41*bE w XA))))):=hr'.eq (by ac_rfl);obtain⟨e0,e1,e2,e3,e4,e5⟩:=hr'.cells6;have el:=hr'.lt;clear hr hr';go_wp2_with fail
        refine(HW.out _ _ h8).mono ?_;rintro e w9 ⟨rfl,h9,x9⟩;have h10:T w9 (aa EX #[o r 0,O I,o r 0,o r 0,o r 0,O I] 36*(aC p sp W6.H W6.f W6.since*(ak sp W6.σ*(ej BP MM*(aa XA #[o r a.page,o r a.kind,O a.user] 41*bE w XA))))):=h9.eq (by ac_rfl);have x10:=hx.trans x9;clear h8 hx h9 x9 HW e0 e1 e2 e3 e4 e5 el;obtain⟨e0,e1,e2,e3,e4,e5⟩:=h10.cells6;obtain⟨f0,f1,f2,f3,f4,f5⟩:=h10.frees6;have el:=h10.lt;have h11:=h10.set6 (o r ec) (O ef) (o r ea) (o r eb) (o r er) (O ek);have x11:=(((((x10.set (M EX 0 D) (o r ec)).set (M EX 1 D) (O ef)).set (M EX 2 D) (o r ea)).set (M EX 3 D) (o r eb)).set (M EX 4 D) (o r er)).set (M EX 5 D) (O ek);clear h10 x10;go_wp2_with fail
        go_roundw
        case rel=>exact⟨j+1,W6,_,⟨ec,ef,⟨ea,eb,er⟩,ek⟩,by omega,by go_num,HO6,HG6,HH6,h11,x11⟩
        case measure=>simp[E];omega
     ·obtain rfl:k=K:=by omega
      go_wp2_with fail
      go_ret;exact⟨rfl,ar (by rw[hXA];exact hr.right.r3) hx⟩
end Go.Proofs.YtmfheghbgihdmaaGreat
