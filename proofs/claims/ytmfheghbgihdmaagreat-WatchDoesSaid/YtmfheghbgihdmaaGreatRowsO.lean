/- Slices of the call's own that may begin further behind in their block: read, appended to. Plain lemmas. -/
import Derived.Test.YtmfheghbgihdmaaGreatFrames3
import Derived.Test.YtmfheghbgihdmaaGreatRefEnt5
import Derived.Lib.SliceRun
import Derived.Outline
import Derived.Test.YtmfheghbgihdmaaGreatInsM2
namespace Go.Proofs.YtmfheghbgihdmaaGreat
open Go.Lib renaming hid→p
open Option renaming none→F,some→H
open Go.Value renaming int→I,bool→V
open Go.IntKind renaming i64→J,wrap_i64→L
open Go.Addr renaming mk→M
open Go renaming Value→N,World→X,Addr→an
open Go.Proofs.YtmfheghbgihdmaaGreat renaming Has→O,lev→af,Ext→ax
open Bool renaming false→U,true→ag
open List renaming getElem?_eq_some_iff→Y
open Tryz
open Go.RowKit
def lS(e size:Nat)(v:N)(n:Nat)(xs:List N):ab:=fun h=>
 xs.length=n*size∧
 ((v= .slice F 0 0∧n=0∧h=Hpm.emp)∨
  ∃g off cap cur,v= .slice (H (M g off F)) n cap∧n≤cap∧cap≤maxLen∧off+cap*size≤cur.size∧(cur.toList.drop off).take (n*size)=xs∧aa g cur e h)
section
variable {w:X} {R:ab} {e size:Nat} {v:N} {A:Option an} {n c:Nat} {xs:List N}
theorem Has.rowO(h:O w (bZ e size v n xs*R)):O w (lS e size v n xs*R):=
 h.imp_left fun _ ⟨hl,hx⟩=>⟨hl,hx.imp id fun⟨g,cap,cur,h1,h2,h3,h4,h5,h6⟩=>⟨g,0,cap,cur,h1,h2,h3,by omega,by simpa using h5,h6⟩⟩
theorem Has.rowOCases(h:O w (Go.Proofs.YtmfheghbgihdmaaGreat.lS e size v n xs*R)):
  (v= .slice F 0 0∧n=0∧xs=[]∧O w R)∨
  ∃g off cap cur,v= .slice (H (M g off F)) n cap∧n≤cap∧cap≤maxLen∧off+cap*size≤cur.size∧(cur.toList.drop off).take (n*size)=xs∧O w (aa g cur e*R):=by
 have hr:=h.right;obtain⟨_,s,h1,h2,d,rfl,⟨hl,h0|⟨g,off,cap,cur,rfl,hn,hc,hs,ht,hb⟩⟩,q⟩:=h
 ·obtain⟨rfl,rfl,rfl⟩:=h0
  exact .inl ⟨rfl,rfl,by simpa using hl,hr⟩
 ·exact .inr ⟨g,off,cap,cur,rfl,hn,hc,hs,ht,_,s,h1,h2,d,rfl,hb,q⟩
theorem Has.rowOLen(h:O w (Go.Proofs.YtmfheghbgihdmaaGreat.lS e size v n xs*R)):xs.length=n*size:=by
 obtain⟨_,s,h1,h2,d,rfl,⟨hl,_⟩,q⟩:=h;exact hl
theorem Has.rowOForm(h:O w (Go.Proofs.YtmfheghbgihdmaaGreat.lS e size v n xs*R)):∃A c,v= .slice A n c:=by
 rcases h.rowOCases with ⟨rfl,rfl,_,_⟩|⟨g,off,cap,cur,rfl,_⟩
 ·exact⟨_,_,rfl⟩
 ·exact⟨_,_,rfl⟩
theorem Has.rowOSmall(h:O w (Go.Proofs.YtmfheghbgihdmaaGreat.lS e size (.slice A n c) n xs*R)):n≤9223372036854775807∧n≤c:=by
 rcases h.rowOCases with ⟨hv,rfl,_,_⟩|⟨g,off,cap,cur,hv,h1,h2,_⟩
 ·omega
 ·injection hv with a b d
  unfold maxLen at h2;omega
theorem Has.rowONil(h:O w R):O w (Go.Proofs.YtmfheghbgihdmaaGreat.lS e size (.slice F 0 0) 0 []*R):=(Has.rowNil h).rowO
theorem Has.rowOGet(h:O w (Go.Proofs.YtmfheghbgihdmaaGreat.lS e size (.slice A n c) n xs*R)){i:Nat}{u:N}(hu:xs[i]? =H u):
  ∃g off,A=H (M g off F)∧g<w.heap.size∧w.cell? ⟨g,off+i,F⟩=H u:=by
 have hi:i<xs.length:=(Y.1 hu).1;have hl:=h.rowOLen;rcases h.rowOCases with ⟨hv,rfl,hx,_⟩|⟨g,off,cap,cur,hv,h1,h2,h3,h4,hb⟩
 ·rw[hx] at hi;simp at hi
 ·injection hv with a b d
  refine⟨g,off,a,hb.lt,?_⟩;rw[hb.cell,←hu,←h4,List.getElem?_take,if_pos (by omega),List.getElem?_drop];simp
theorem Has.rowOTail{g off:Nat}(h:O w (Go.Proofs.YtmfheghbgihdmaaGreat.lS e size (.slice (H (M g off F)) (n+1) c) (n+1) xs*R)):
  O w (Go.Proofs.YtmfheghbgihdmaaGreat.lS e size (.slice (if c=1 then H (M g off F) else H ⟨g,off+size,F⟩) n (c - 1)) n (xs.drop size)*R):=by
 have hl:=h.rowOLen;rcases h.rowOCases with ⟨hv,h0,_,_⟩|⟨g',off',cap,cur,hv,h1,h2,h3,h4,hb⟩
 ·injection hv with a;cases a
 ·injection hv with a b d
  injection a with a
  injection a with a1 a2
  subst a1;subst a2;subst d;have hm:(n+1)*size=n*size+size:=by rw[Nat.succ_mul]
  refine hb.imp_left fun _ hb=>⟨?_,.inr ?_⟩
  ·rw[List.length_drop,hl,hm];omega
  ·have hx:xs.drop size=(cur.toList.drop (off+size)).take (n*size):=by
    rw[←h4,List.drop_take,List.drop_drop,hm,Nat.add_sub_cancel]
   obtain⟨c',rfl⟩:∃c',c=c'+1:=⟨c - 1,by omega⟩;have hm':(c'+1)*size=c'*size+size:=by rw[Nat.succ_mul]
   by_cases hc:c'+1=1
   ·have hn:n=0:=by omega
    subst hn;rw[if_pos hc];refine⟨g,off,_,cur,rfl,by omega,by omega,?_,by simp[hx],hb⟩;have:c'=0:=by omega
    subst this;omega
   ·rw[if_neg hc]
    exact⟨g,off+size,_,cur,rfl,by omega,by omega,by rw[Nat.add_sub_cancel];omega,hx.symm,hb⟩
end
theorem Has.rowORoom{w:X}{R:ab}{e size g off n m c:Nat}{xs:List N}(h:O w (Go.Proofs.YtmfheghbgihdmaaGreat.lS e size (.slice (H (M g off F)) n c) n xs*R))(news:List N)(hl:news.length=m*size)(hm:n+m≤c):
  O (w.setCells g (off+n*size) news) (Go.Proofs.YtmfheghbgihdmaaGreat.lS e size (.slice (H (M g off F)) (n+m) c) (n+m) (xs++news)*R):=by
 have hxl:=h.rowOLen;rcases h.rowOCases with ⟨hv,h0,_,_⟩|⟨g',off',cap,cur,hv,h1,h2,h3,h4,hb⟩
 ·injection hv with a;cases a
 ·injection hv with a b d
  injection a with a
  injection a with a1 a2
  subst a1;subst a2;subst d;have hmul:(n+m)*size=n*size+m*size:=Nat.add_mul _ _ _;have hcm:(n+m)*size≤c*size:=Nat.mul_le_mul_right _ hm;have key:∀(vs:List N) (o:Nat) (w:X) (cur:Array N),O w (aa g cur e*R)→o+vs.length≤cur.size→
    ∃cur',cur'.size=cur.size∧cur'.toList=cur.toList.take o++(vs++cur.toList.drop (o+vs.length))∧O (w.setCells g o vs) (aa g cur' e*R):=by
   intro vs;induction vs with
   |nil=>exact fun o w cur hw _=>⟨cur,rfl,by simp,hw⟩
   |cons v r ih=>
    intro o w cur hw ho;simp only[List.length_cons] at ho;obtain⟨cur',hs,ht,hw'⟩:=ih (o+1) _ _ (hw.set o v) (by simp;omega);refine⟨cur',by rw[hs];simp,?_,hw'⟩;rw[ht,Array.toList_setIfInBounds,List.drop_set_of_lt (by omega),List.take_succ_eq_append_getElem (by simp;omega),List.getElem_set_self,List.take_set_of_le (Nat.le_refl o),List.append_assoc];simp only[List.length_cons,List.cons_append,List.nil_append];rw[show o+1+r.length=o+(r.length+1) by omega]
  obtain⟨cur',hs,ht,hw'⟩:=key news (off+n*size) w cur hb (by rw[hl];omega);refine hw'.imp_left fun _ hb=>⟨by rw[List.length_append,hxl,hl,hmul],.inr ⟨g,off,c,cur',rfl,hm,h2,by omega,?_,hb⟩⟩;have hcs:cur.toList.length=cur.size:=Array.length_toList;have e1:(cur'.toList.drop off).take (n*size)=xs:=by
   rw[ht,List.drop_append_of_le_length (by rw[List.length_take];omega),List.take_append_of_le_length (by rw[List.length_drop,List.length_take];omega),List.drop_take,←h4,List.take_take];congr 1
   omega
  rw[hmul,List.take_add,e1,List.drop_drop,ht,List.drop_append,List.drop_eq_nil_of_le (by rw[List.length_take];omega),List.nil_append,List.length_take,show off+n*size - min (off+n*size) cur.toList.length=0 by omega,List.drop_zero,
   List.take_append_of_le_length (by omega),List.take_of_length_le (by omega)]
section
variable {P:Program} {w:X} {R:ab}
theorem jf{t ty e:TypeId}{z:N}{size bytes:Nat}(hT:P.underlying t=H (.slice e))(hE:jh P e z size bytes)
  (v:N) (n:Nat) (xs:List N) (h:O w (lS e size v n xs*R))
  (ad:an) (m c:Nat) (news:List N) (hl:news.length=m*size) (hnews:∀j u,news[j]? =H u→w.cell? (ad.add j)=H u) (h1:∀u∈news,u.oneCell'=ag)
  (h63:n+m≤maxLen) (hbytes:(n+m)*bytes≤140737488355328):
  ∃A c' w',(Builtin.append_ #[t,t] ty #[v,.slice (H ad) m c]).run P w= .ok (.slice A (n+m) c') w'∧O w' (lS e size (.slice A (n+m) c') (n+m) (xs++news)*R)∧ax w w':=by
 obtain⟨i,hi,hz,hs,hb⟩:=info_parts hE.info;have grown:∀{v' w'},w'.ownsRow w.heap.size e size v' (n+m) (xs++news)→w.grownBy w' F→∃A c',v'= .slice A (n+m) c'∧O w' (lS e size (.slice A (n+m) c') (n+m) (xs++news)*R)∧ax w w':=by
  intro v' w' r1 r2;have hge:∀k,v'.ownBlock=H k→w.heap.size≤k:=by
   intro k hk;rcases r1.2 with ⟨rfl,_⟩|⟨g,cap,cur,rfl,hg,_⟩
   ·simp[Value.ownBlock] at hk
   ·simp[Value.ownBlock] at hk;omega
  have h2:=(Has.rowNil (e:=e) (size:=size) h.right).rowGrown r1 r2 (.inr hge);obtain⟨A,c',rfl⟩:∃A c',v'= .slice A (n+m) c':=by
   rcases h2.rowCases with ⟨hv,hn,_,_⟩|⟨g,cap,cur,hv,_⟩
   ·exact⟨F,0,by rw[hv,hn]⟩
   ·exact⟨_,_,hv⟩
  exact⟨A,c',rfl,h2.rowO,(Ext.refl w).grown r2⟩
 rcases h.rowOCases with ⟨rfl,rfl,rfl,hR⟩|⟨g,off,cap,cur,rfl,hn,hc,hsz,ht,hB⟩
 ·obtain⟨v',w',hrun,r1,r2,_⟩:=run_append_own (P:=P) w w.heap.size t ty e i z size bytes hT hi hz hs hb hE.cells hE.pos (.slice F 0 0) 0 [] (World.ownsRow_nil w _ e size) ad m c news hl hnews h1 h63 hbytes (Nat.le_refl _)
  obtain⟨A,c',rfl,h2,h3⟩:=grown r1 r2;exact⟨A,c',w',hrun,h2,h3⟩
 ·have hxl:=h.rowOLen
  have hget:∀j u,xs[j]? =H u→w.cell? ⟨g,off+j,F⟩=H u:=fun j u hu=>by
   obtain⟨g',off',hA,_,hc⟩:=h.rowOGet hu;injection hA with hA
   injection hA with a1 a2
   subst a1;subst a2;exact hc
  by_cases hroom:n+m≤cap
  ·have hcm:(n+m)*size≤cap*size:=Nat.mul_le_mul_right _ hroom
   have hmul:(n+m)*size=n*size+m*size:=Nat.add_mul _ _ _;have hrun:=run_append_room_cells (P:=P) w t ty e i hT hi g off n cap ad m c news (by rw[hs];exact hl) hnews h1 hroom
    (fun j hj=>by rw[hs,hB.cell,Array.getElem?_eq_getElem (by omega)];rfl) (fun j _=>hB.free _)
   rw[hs] at hrun;refine⟨_,_,_,hrun,h.rowORoom news hl hroom,?_⟩;have:∀(vs:List N) (o:Nat) {w':X},ax w w'→ax w (w'.setCells g o vs):=by
    intro vs;induction vs with
    |nil=>exact fun _ _ h=>h
    |cons v r ih=>exact fun o _ h=>ih (o+1) (h.set _ _)
   exact this _ _ (Ext.refl w)
  ·obtain⟨v',w',hrun,r1,r2⟩:=run_append_arg_grows (P:=P) w t ty e i z size bytes hT hi hz hs hb hE.cells hE.pos (M g off F) n cap xs hxl (fun j u hj=>by rw[Addr.add_lit];exact hget j u hj) ad m c news hl hnews (by omega) h63 hbytes
   obtain⟨A,c',rfl,h2,h3⟩:=grown r1 r2;exact⟨A,c',w',hrun,h2,h3⟩
theorem iH{ops:Array Oper}{o:Oper}{a:Act}{K:Act→X→Prop}{Q:Exit→Act→X→Prop}{E:Prop}
  (hg:o.guard=F) (s x:Operand) (t:TypeId) (hop:o.op=Op.call {callee:=Callee.builtin Builtin.append,args:= #[s,x],argTypes:= #[t,t]})
  {e:TypeId} {z:N} {size bytes:Nat} (hT:P.underlying t=H (.slice e)) (hE:jh P e z size bytes)
  (v:N) (n:Nat) (xs:List N) (hs:a.eval s=v) (h:O w (lS e size v n xs*R))
  (ad:an) (m c:Nat) (news:List N) (hx:a.eval x= .slice (H ad) m c) (hl:news.length=m*size) (hnews:∀j u,news[j]? =H u→w.cell? (ad.add j)=H u) (h1:∀u∈news,u.oneCell'=ag)
  (h63:n+m≤maxLen) (hbytes:(n+m)*bytes≤140737488355328)
  (hK:∀A c w',O w' (lS e size (.slice A (n+m) c) (n+m) (xs++news)*R)→ax w w'→K (a.put o.dst (.slice A (n+m) c)) w'):
  if Region.wanted o (yielded ops a.tmps)=ag then Oper.wp P o a w K Q else E:=by
 have hw:Region.wanted o (yielded ops a.tmps)=ag:=by simp[Region.wanted,hg]
 rw[if_pos hw];obtain⟨A,c',w',hrun,h2,h3⟩:=jf (ty:=o.type) hT hE v n xs h ad m c news hl hnews h1 h63 hbytes;unfold Oper.wp;simp[execOp,hop,resolve,invoke,builtin,hs,hx,hrun,Result.andThen];exact hK A c' w' h2 h3
theorem kb{ops:Array Oper}{rest:List Oper}{o:Oper}{a:Act}{Q:Exit→Act→X→Prop}(hgd:o.guard=F)(s x:Operand)(t:TypeId)
  (ho:o.op= .call {callee:= .builtin .append,args:= #[s,x],argTypes:= #[t,t]}) {e:TypeId} {z:N} {size bytes:Nat} (hT:P.underlying t=H (.slice e)) (hE:jh P e z size bytes)
  (v:N) (n:Nat) (xs:List N) (hs:a.eval s=v) (h:O w (lS e size v n xs*R))
  (ad:an) (m c:Nat) (news:List N) (hx:a.eval x= .slice (H ad) m c) (hl:news.length=m*size) (hnews:∀j u,news[j]? =H u→w.cell? (ad.add j)=H u) (h1:∀u∈news,u.oneCell'=ag)
  (h63:n+m≤maxLen) (hbytes:(n+m)*bytes≤140737488355328)
  (hk:∀A c w',O w' (lS e size (.slice A (n+m) c) (n+m) (xs++news)*R)→ax w w'→wpList P ops Q rest (a.put o.dst (.slice A (n+m) c)) w'):wpList P ops Q (o::rest) a w:=
 wpList_plain hgd fun _ hK=>by
  obtain⟨A,c',w',hr,h2,h3⟩:=jf (ty:=o.type) hT hE v n xs h ad m c news hl hnews h1 h63 hbytes;unfold Oper.wp execOp;simp only[ho,resolve,invoke,builtin,Sem.run_bind,Sem.run_pure,Result.andThen_ok,List.map_toArray,List.map_cons,List.map_nil,hs,hx,hr];exact hK _ _ (hk A c' w' h2 h3)
end
set_option maxRecDepth 100000
theorem lT{P:Program}{w:X}{R:ab}{t ty e:TypeId}{z:N}{size bytes:Nat}(hT:P.underlying t=H (.slice e))(hE:jh P e z size bytes)
  (v:N) (n:Nat) (xs:List N) (u:N) (m:Nat) (ys:List N) (h:O w (bZ e size v n xs*(bZ e size u m ys*R))) (h1:∀y∈ys,y.oneCell'=ag)
  (h63:n+m≤maxLen) (hbytes:(n+m)*bytes≤140737488355328):
  ∃A c w',(Builtin.append_ #[t,t] ty #[v,u]).run P w= .ok (.slice A (n+m) c) w'∧O w' (bZ e size (.slice A (n+m) c) (n+m) (xs++ys)*(bZ e size u m ys*R))∧ax w w':=by
 rcases h.p2.rowCases with ⟨rfl,rfl,rfl,_⟩|⟨g,cap,cur,rfl,_⟩
 ·obtain⟨i,hi,_,hsz,_⟩:=info_parts hE.info
  obtain⟨A,c,rfl⟩:=h.rowForm;exact⟨A,c,w,run_append_owned_none (P:=P) (w:=w) 0 t ty e i size hT hi (.slice A n c) n xs h.ownsRow,by simpa using h,Ext.refl w⟩
 ·have hget:=fun j y (hy:ys[j]? =H y)=>h.p2.rowGet hy
  have hl:=h.p2.rowLens.1;obtain⟨v',w',hr,h2,x2⟩:=gV (ty:=ty) hT hE v n xs h (M g 0 F) m cap ys hl (fun j y hy=>by
   obtain⟨g',hg',_,hc,_⟩:=hget j y hy;injection hg' with hg'
   injection hg' with hg'
   subst hg';rw[Addr.add_lit,Nat.zero_add];exact hc) h1 h63 hbytes
  have hf:∃A c,v'= .slice A (n+m) c:=by
   rcases h2.rowCases with ⟨hv,hn,_,_⟩|⟨g,cap,cur,hv,_⟩
   ·exact⟨F,0,by rw[hv,hn]⟩
   ·exact⟨_,_,hv⟩
  obtain⟨A,c,rfl⟩:=hf;exact⟨A,c,w',hr,h2,x2⟩
theorem kR{P:Program}{ops:Array Oper}{o:Oper}{a:Act}{w:X}{R:ab}{K:Act→X→Prop}{Q:Exit→Act→X→Prop}{E:Prop}
  (hg:o.guard=F) (s x:Operand) (t:TypeId) (hop:o.op=Op.call {callee:=Callee.builtin Builtin.append,args:= #[s,x],argTypes:= #[t,t]})
  {e:TypeId} {z:N} {size bytes:Nat} (hT:P.underlying t=H (.slice e)) (hE:jh P e z size bytes)
  (v:N) (n:Nat) (xs:List N) (hs:a.eval s=v) (u:N) (m:Nat) (ys:List N) (hx:a.eval x=u) (h:O w (bZ e size v n xs*(bZ e size u m ys*R))) (h1:∀y∈ys,y.oneCell'=ag)
  (h63:n+m≤maxLen) (hbytes:(n+m)*bytes≤140737488355328)
  (hK:∀A c w',O w' (bZ e size (.slice A (n+m) c) (n+m) (xs++ys)*(bZ e size u m ys*R))→ax w w'→K (a.put o.dst (.slice A (n+m) c)) w'):
  if Region.wanted o (yielded ops a.tmps)=ag then Oper.wp P o a w K Q else E:=by
 have hw:Region.wanted o (yielded ops a.tmps)=ag:=by simp[Region.wanted,hg]
 rw[if_pos hw];obtain⟨A,c,w',hrun,h2,h3⟩:=lT (ty:=o.type) hT hE v n xs u m ys h h1 h63 hbytes;unfold Oper.wp;simp[execOp,hop,resolve,invoke,builtin,hs,hx,hrun,Result.andThen];exact hK A c w' h2 h3
theorem oE(l:List Int):∀u∈l.map (I J),u.oneCell'=ag:=by
 intro u hu;obtain⟨x,_,rfl⟩:=List.mem_map.1 hu;rfl
def uc(l:List Int)(w:X)(e:Ending)(w':X):Prop:=∃A n c,e= .returned (.slice A n c)∧O w' (ao (.slice A n c) l*bS w w.heap.size)∧ax w w'
theorem nc(l:List Int)(A:Option an)(n c:Nat)(R:ab)(w:X)(hs:l.length≤1000000)(h:O w (ao (.slice A n c) l*R)):
  Calls prog 151 #[.slice A n c] w (uc l w):=by
 have q22:∀(w:X) (a:Option an) (n c n' c':Nat),(binOp .eql 45 (.slice a n c) (.slice F n' c')).run prog w= .ok (.bool a.isNone) w:=fun w a n c n' c'=>Lib.run_eql_slice_nil w _ _ a n c n' c' underlying45;have hl0:=ei h;subst hl0;cases A with
 |none=>
  have h0:l=[]∧c=0:=by
   rcases Has.rowCases (e:=3) (size:=1) h with ⟨hv,h0,_⟩|⟨g,cap,cur,hv,_⟩
   ·injection hv with a b d
    exact⟨List.eq_nil_of_length_eq_zero h0,d⟩
   ·injection hv with a
    cases a
  obtain⟨rfl,rfl⟩:=h0;go_enter func151,ntmps151;go_wp2_with fail
  go_ret;exact⟨F,0,0,rfl,Has.rowNil (aT w),Ext.refl _⟩
 |some a=>
  have h0:∃g,a=(M g 0 F):=by
   rcases Has.rowCases (e:=3) (size:=1) h with ⟨hv,h0,_⟩|⟨g,cap,cur,hv,_⟩
   ·injection hv with a b d
    cases a
   ·injection hv with a
    injection a with a
    exact⟨g,a⟩
  obtain⟨g,rfl⟩:=h0;have h1:=(aT w).new #[] 3;have hrow:O (w.alloc (.cells #[] 3)) (bZ 3 1 (.slice (H (M w.heap.size 0 F)) 0 0) 0 []*bS w w.heap.size):=h1.rowOf rfl (Nat.le_refl _) (by unfold maxLen;omega) rfl rfl;have hn:=fun k (hk:k<l.length)=>db (h.alloc (.cells #[] 3)) hk;have hne:Hid (∀j u,(l.map (I J))[j]? =H u→(w.alloc (.cells #[] 3)).cell? (((M g 0 F):an).add j)=H u):=fun j u hu=>by
   rw[Addr.add_lit,Nat.zero_add];obtain⟨hj,e⟩:=Y.1 hu;have hj':j<l.length:=by simpa using hj
   obtain⟨b,e1,_,hc⟩:=hn j hj';injection e1 with e1
   injection e1 with e1
   subst e1;rw[hc,←e];simp
  have x1:=(Ext.refl w).alloc (.cells #[] 3);have hml:Hid ((l.map (I J)).length =l.length*1):=p (by simp);clear hn h1 h;go_enter func151,ntmps151;go_wp2_with(at_builtin;refine aW rfl _ _ 45 rfl underlying45 gr _ _ _ rfl hrow (M g 0 F) l.length c (l.map (I J)) rfl hml.out hne.out (oE l) ?c2 ?c3 ?_)
  case c2=>unfold maxLen;omega
  case c3=>omega
  intro v' w2 h' x';obtain⟨A',c',rfl⟩:=h'.rowForm;have h2:O w2 (ao (.slice A' l.length c') l*bS w w.heap.size):=h';go_wp2_with fail
  go_ret;exact⟨A',_,c',rfl,h2,x1.trans x'⟩
def gJ(f:Nat)(s:Ms)(r:Int)(x:Mp)(R:ab)(w:X)(e:Ending)(w':X):Prop:=
 ∃s',s'.Ok∧Agree s' (dJ s r x)∧cI (I J (cT s r x)) (ai f s'*R) w e w'
theorem kW{s:Ms}{r:Int}{x:Mp}(h:cT s r x≠0):dJ s r x=s:=by unfold dJ;rw[if_neg h]
set_option maxHeartbeats 8000000 in
theorem xR(f:Nat)(s:Ms)(root:Int)(x:Mp)(R:ab)(w:X)(hs:s.Ok)(h:O w (ai f s*R)):
  Calls prog 97 #[.pointer (H (M f 0 F)),I J root,.agg #[I J x.page,I J x.size,I J x.frame,I J x.rights]] w (gJ f s root x R w):=by
 have h0:=h.new #[I J x.page,I J x.size,I J x.frame,I J x.rights] 39;have x0:=(Ext.refl w).alloc (.cells #[I J x.page,I J x.size,I J x.frame,I J x.rights] 39);have HC:=p (jG x);by_cases hck:ba x=0
 case neg=>
  have hic:cT s root x=ba x:=by unfold cT;rw[if_pos hck]
  have HI:=p (And.intro hic (kW (s:=s) (r:=root) (x:=x) (by rw[hic];exact hck)));have hn:(ba x !=0)=ag:=by simpa using hck
  unfold gJ;rw[HI.out.1,HI.out.2];generalize ba x=cx at*
  clear hck h hic;obtain⟨c0,c1,c2,c3⟩:=h0.cells4;go_enter func97,ntmps97;go_wp2_with fail
  refine(HC.out _).mono ?_;rintro e w2 ⟨rfl,b2⟩;go_wp2_with fail
  go_ret;exact⟨s,hs,Agree.refl s,rfl,(h0.right.below b2),x0.below b2⟩
 obtain⟨hp,z,hz0,hz2⟩:=lE hck;have HZ:=p hz0;clear hz0;have W1:=p (fun w' (h:O w' (ai f s*(aa w.heap.size #[I J x.page,I J x.size,I J x.frame,I J x.rights] 39*R)))=>n7 f s root x.page _ w' hs h);rw[hck] at HC;by_cases hcode:(bp s root x.page).code =0
 case neg=>
  have hic:cT s root x=(bp s root x.page).code :=by unfold cT;rw[if_neg (by rw[hck];simp),if_pos hcode]
  have HI:=p (And.intro hic (kW (s:=s) (r:=root) (x:=x) (by rw[hic];exact hcode)));unfold gJ;rw[HI.out.1,HI.out.2];clear hic hck h;generalize bp s root x.page=y at*
  have hn:(y.code !=0)=ag:=by simpa using hcode
  clear hcode;obtain⟨c0,c1,c2,c3⟩:=h0.cells4;have cl:=h0.lt;go_enter func97,ntmps97;go_wp2_with fail
  refine(HC.out _).mono ?_;rintro e w2 ⟨rfl,b2⟩;have h2:=h0.below b2;have x2:=x0.below b2;clear h0 x0 b2 c0 c1 c2 c3 cl;obtain⟨c0,c1,c2,c3⟩:=h2.cells4;have cl:=h2.lt;go_wp2_with fail
  refine(W1.out _ h2.p2).mono ?_;rintro e w3 hF;obtain⟨A,B,c,d,rfl,h3,x3⟩:∃(A B:Option an) (c d:Nat),e= .returned (.tuple #[.agg #[I J y.lev,V y.e.there,V y.e.leaf,I J y.e.rights,V y.e.used,V y.e.dirty,I J y.e.frame,.slice A y.tabs.length c,.slice B y.tabs.length d],I J y.code])∧O w3 (ao (.slice A y.tabs.length c) y.tabs*(ao (.slice B y.tabs.length d) (aF x.page y.tabs.length)*bS w2 w2.heap.size))∧ax w2 w3:=hF;have h4:=((h2.onto' (h3.a2)).a1).right.right.right;go_wp2_with fail
  go_ret;exact⟨s,hs,Agree.refl s,rfl,h4.alloc _,(x2.trans x3).alloc _⟩
 by_cases hbad:(bp s root x.page).e.there =ag∨(bp s root x.page).lev <x.size
 case pos=>
  have hic:cT s root x=4:=by unfold cT;rw[if_neg (by rw[hck];simp),if_neg (by rw[hcode];simp),if_pos hbad]
  have HI:=p (And.intro hic (kW (s:=s) (r:=root) (x:=x) (by rw[hic];decide)));unfold gJ;rw[HI.out.1,HI.out.2];clear hic hck h;generalize bp s root x.page=y at*
  obtain⟨code,tabs,af,th,lf,rg,us,di,fr⟩:=y;dsimp only at*
  subst hcode;cases th with
  |true=>
   clear hbad;obtain⟨c0,c1,c2,c3⟩:=h0.cells4;have cl:=h0.lt;go_enter func97,ntmps97;go_wp2_with fail
   refine(HC.out _).mono ?_;rintro e w2 ⟨rfl,b2⟩;have h2:=h0.below b2;have x2:=x0.below b2;clear h0 x0 b2 c0 c1 c2 c3 cl;obtain⟨c0,c1,c2,c3⟩:=h2.cells4;have cl:=h2.lt;go_wp2_with fail
   refine(W1.out _ h2.p2).mono ?_;rintro e w3 hF;obtain⟨A,B,c,d,rfl,h3,x3⟩:∃(A B:Option an) (c d:Nat),e= .returned (.tuple #[.agg #[I J af,V ag,V lf,I J rg,V us,V di,I J fr,.slice A tabs.length c,.slice B tabs.length d],I J 0])∧O w3 (ao (.slice A tabs.length c) tabs*(ao (.slice B tabs.length d) (aF x.page tabs.length)*bS w2 w2.heap.size))∧ax w2 w3:=hF;have h5:O _ (aa w3.heap.size #[I J af,V ag,V lf,I J rg,V us,V di,I J fr,.slice A tabs.length c,.slice B tabs.length d] 206*(ao (.slice A tabs.length c) tabs*(ao (.slice B tabs.length d) (aF x.page tabs.length)*(aa w.heap.size #[I J x.page,I J x.size,I J x.frame,I J x.rights] 39*(ai f s*R))))):=((h2.onto' (h3.a2)).a1).new #[I J af,V ag,V lf,I J rg,V us,V di,I J fr,.slice A tabs.length c,.slice B tabs.length d] 206;have x5:=(x2.trans x3).alloc (.cells #[I J af,V ag,V lf,I J rg,V us,V di,I J fr,.slice A tabs.length c,.slice B tabs.length d] 206);clear h2 x2 h3 x3 c0 c1 c2 c3 cl W1 HC;go_upto_region 5 with fail;generalize w3.alloc _=w5 at*
   generalize w3.heap.size=X1 at*
   generalize w.heap.size=X0 at*
   obtain⟨c0,c1,c2,c3⟩:=h5.r3.cells4;have cl:=h5.r3.lt;obtain⟨k0,k1,k2,k3,k4,k5,k6,k7,k8⟩:=h5.cells9;have kl:=h5.lt;go_wp2_with fail
   go_ret;exact⟨s,hs,Agree.refl s,rfl,h5.right.r3,x5⟩
  |false=>
   have hlt:af<x.size:=by rcases hbad with h|h;· cases h
                          ·exact h
   clear hbad;obtain⟨c0,c1,c2,c3⟩:=h0.cells4;have cl:=h0.lt;go_enter func97,ntmps97;go_wp2_with fail
   refine(HC.out _).mono ?_;rintro e w2 ⟨rfl,b2⟩;have h2:=h0.below b2;have x2:=x0.below b2;clear h0 x0 b2 c0 c1 c2 c3 cl;obtain⟨c0,c1,c2,c3⟩:=h2.cells4;have cl:=h2.lt;go_wp2_with fail
   refine(W1.out _ h2.p2).mono ?_;rintro e w3 hF;obtain⟨A,B,c,d,rfl,h3,x3⟩:∃(A B:Option an) (c d:Nat),e= .returned (.tuple #[.agg #[I J af,V U,V lf,I J rg,V us,V di,I J fr,.slice A tabs.length c,.slice B tabs.length d],I J 0])∧O w3 (ao (.slice A tabs.length c) tabs*(ao (.slice B tabs.length d) (aF x.page tabs.length)*bS w2 w2.heap.size))∧ax w2 w3:=hF;have h5:O _ (aa w3.heap.size #[I J af,V U,V lf,I J rg,V us,V di,I J fr,.slice A tabs.length c,.slice B tabs.length d] 206*(ao (.slice A tabs.length c) tabs*(ao (.slice B tabs.length d) (aF x.page tabs.length)*(aa w.heap.size #[I J x.page,I J x.size,I J x.frame,I J x.rights] 39*(ai f s*R))))):=((h2.onto' (h3.a2)).a1).new #[I J af,V U,V lf,I J rg,V us,V di,I J fr,.slice A tabs.length c,.slice B tabs.length d] 206;have x5:=(x2.trans x3).alloc (.cells #[I J af,V U,V lf,I J rg,V us,V di,I J fr,.slice A tabs.length c,.slice B tabs.length d] 206);clear h2 x2 h3 x3 c0 c1 c2 c3 cl W1 HC;go_upto_region 5 with fail;generalize w3.alloc _=w5 at*
   generalize w3.heap.size=X1 at*
   generalize w.heap.size=X0 at*
   obtain⟨c0,c1,c2,c3⟩:=h5.r3.cells4;have cl:=h5.r3.lt;obtain⟨k0,k1,k2,k3,k4,k5,k6,k7,k8⟩:=h5.cells9;have kl:=h5.lt;go_wp2_with fail
   go_ret;exact⟨s,hs,Agree.refl s,rfl,h5.right.r3,x5⟩
 obtain⟨_,n,hn,hn3,hl,hu⟩:=eK hcode
 have hth:(bp s root x.page).e.there =U:=by cases h:(bp s root x.page).e.there;· rfl
                                            ·exact absurd (.inl h) hbad
 have hls:¬((bp s root x.page).lev <x.size):=fun h=>hbad (.inr h);obtain⟨m,hm⟩:∃m:Nat,n+m+z=3:=⟨3 - n - z,by have:=HZ.out;omega⟩;have HT:=p (fun b R w h=>wO b f s hs m (by omega) R w h);unfold wN at HT;by_cases hfull:s.frees.length<m
 case pos=>
  have hic:cT s root x=6:=by
   unfold cT;rw[if_neg (by rw[hck];simp),if_neg (by rw[hcode];simp),if_neg hbad,if_pos (by have:=HZ.out;omega)]
  have HI:=p (And.intro hic (kW (s:=s) (r:=root) (x:=x) (by rw[hic];decide)));unfold gJ;rw[HI.out.1,HI.out.2];have hmm:(bp s root x.page).lev - x.size=(m:Int):=by have:=HZ.out;omega
  have HN:=p hn;clear hic hck h hu hn hl;generalize bp s root x.page=y at*
  obtain⟨code,tabs,af,th,lf,rg,us,di,fr⟩:=y;dsimp only at*
  subst hcode hth;clear hbad;obtain⟨c0,c1,c2,c3⟩:=h0.cells4;have cl:=h0.lt;go_enter func97,ntmps97;go_wp2_with fail
  refine(HC.out _).mono ?_;rintro e w2 ⟨rfl,b2⟩;have h2:=h0.below b2;have x2:=x0.below b2;clear h0 x0 b2 c0 c1 c2 c3 cl;obtain⟨c0,c1,c2,c3⟩:=h2.cells4;have cl:=h2.lt;go_wp2_with fail
  refine(W1.out _ h2.p2).mono ?_;rintro e w3 hF;obtain⟨A,B,c,d,rfl,h3,x3⟩:∃(A B:Option an) (c d:Nat),e= .returned (.tuple #[.agg #[I J af,V U,V lf,I J rg,V us,V di,I J fr,.slice A tabs.length c,.slice B tabs.length d],I J 0])∧O w3 (ao (.slice A tabs.length c) tabs*(ao (.slice B tabs.length d) (aF x.page tabs.length)*bS w2 w2.heap.size))∧ax w2 w3:=hF;have h5:O _ (aa w3.heap.size #[I J af,V U,V lf,I J rg,V us,V di,I J fr,.slice A tabs.length c,.slice B tabs.length d] 206*(ao (.slice A tabs.length c) tabs*(ao (.slice B tabs.length d) (aF x.page tabs.length)*(aa w.heap.size #[I J x.page,I J x.size,I J x.frame,I J x.rights] 39*(ai f s*R))))):=((h2.onto' (h3.a2)).a1).new #[I J af,V U,V lf,I J rg,V us,V di,I J fr,.slice A tabs.length c,.slice B tabs.length d] 206;have x5:=(x2.trans x3).alloc (.cells #[I J af,V U,V lf,I J rg,V us,V di,I J fr,.slice A tabs.length c,.slice B tabs.length d] 206);clear h2 x2 h3 x3 c0 c1 c2 c3 cl W1 HC;go_upto_region 5 with fail;generalize w3.alloc _=w5 at*
  generalize w3.heap.size=X1 at*
  generalize w.heap.size=X0 at*
  obtain⟨c0,c1,c2,c3⟩:=h5.r3.cells4;have cl:=h5.r3.lt;obtain⟨k0,k1,k2,k3,k4,k5,k6,k7,k8⟩:=h5.cells9;have kl:=h5.lt;have h6:=h5.new #[.pointer (H (M f 0 F)),.slice F 0 0] 224;have x6:=x5.alloc (.cells #[.pointer (H (M f 0 F)),.slice F 0 0] 224);go_upto_region 10 with fail;generalize w5.alloc _=w6 at*
  generalize w5.heap.size=Xb at*
  clear h5 x5 c0 c1 c2 c3 cl k0 k1 k2 k3 k4 k5 k6 k7 k8 kl;obtain⟨k0,k1,k2,k3,k4,k5,k6,k7,k8⟩:=h6.right.cells9;have kl:=h6.right.lt;obtain⟨c0,c1,c2,c3⟩:=h6.right.r3.cells4;have cl:=h6.right.r3.lt;have hmw:IntKind.i64.wrap (m:Int)=(m:Int):=by rw[L];omega
  have hmw2:IntKind.i64.wrap (af - x.size)=(m:Int):=by rw[hmm];exact hmw
  have h7:O w6 (aa Xb #[.pointer (H (M f 0 F)),.slice F 0 0] 224*(ai f s*(aa X1 #[I J af,V U,V lf,I J rg,V us,V di,I J fr,.slice A tabs.length c,.slice B tabs.length d] 206*(ao (.slice A tabs.length c) tabs*(ao (.slice B tabs.length d) (aF x.page tabs.length)*(aa X0 #[I J x.page,I J x.size,I J x.frame,I J x.rights] 39*R)))))):=h6.eq (by ac_rfl);go_wp2_with fail
  refine(HT.out _ _ _ h7).mono ?_;rintro e w7 hF;rcases hF with ⟨hle,_⟩|⟨_,s',hs',hag,rfl,h8,x8⟩
  ·exact absurd hle (by omega)
  ·go_wp2_with fail
   go_ret;exact⟨s',hs',hag,rfl,h8.eq (show _=aa X1 #[I J af,V U,V lf,I J rg,V us,V di,I J fr,.slice A tabs.length c,.slice B tabs.length d] 206*(ao (.slice A tabs.length c) tabs*(ao (.slice B tabs.length d) (aF x.page tabs.length)*(aa X0 #[I J x.page,I J x.size,I J x.frame,I J x.rights] 39*(ai f s'*R)))) by ac_rfl) |>.right.right.right.right,x6.trans x8⟩
 have hic:cT s root x=0:=by
  unfold cT;rw[if_neg (by rw[hck];simp),if_neg (by rw[hcode];simp),if_neg hbad,if_neg (by have:=HZ.out;omega)]
 have HAT:InsAt s root x n m z:=⟨hcode,hp,hn,hl,HZ.out,hm,by omega⟩;have HFIN:=p (HAT.fin hs hic);have HLAST:=p (fun t ht σ lw=>HAT.last (t:=t) ht σ lw);have HSTEP:=p (fun j t k ht hk σ lw=>HAT.step (j:=j) (t:=t) (k:=k) ht hk σ lw);have HSTO:=p (fun σ hσ j t hj v=>HAT.store hs (σ:=σ) hσ (j:=j) (t:=t) hj v);have HALN:=p HAT.all_len;have HAL:=p (show ic s root x m=(bp s root x.page).tabs ++eI s m from rfl);have HOKF:=p (fun(l:List Int)=>rX (fY hs m) x.page (gX (dj x) x.size) z l);have HHAS:=p (fun(l:List Int) (u:Int)=>qd (a8 s m) x.page (bt (dj x) x.size) z u l);have HIC:=p hic;have HN:=p hn;have hmm:(bp s root x.page).lev - x.size=(m:Int):=by have:=HZ.out;omega
 have htl:=jm s m;unfold gJ;rw[HIC.out];generalize dJ s root x=sF at*
 generalize ic s root x m=al at*
 generalize eI s m=tp at*
 clear HAT hic hck h hu hn HIC;generalize bp s root x.page=y at*
 obtain⟨code,tabs,af,th,lf,rg,us,di,fr⟩:=y;dsimp only at*
 subst hcode hth;have HLV:=p hl;clear hbad hl;obtain⟨c0,c1,c2,c3⟩:=h0.cells4;have cl:=h0.lt;go_enter func97,ntmps97;go_wp2_with fail
 refine(HC.out _).mono ?_;rintro e w2 ⟨rfl,b2⟩;have h2:=h0.below b2;have x2:=x0.below b2;clear h0 x0 b2 c0 c1 c2 c3 cl;obtain⟨c0,c1,c2,c3⟩:=h2.cells4;have cl:=h2.lt;go_wp2_with fail
 refine(W1.out _ h2.p2).mono ?_;rintro e w3 hF;obtain⟨A,B,c,d,rfl,h3,x3⟩:∃(A B:Option an) (c d:Nat),e= .returned (.tuple #[.agg #[I J af,V U,V lf,I J rg,V us,V di,I J fr,.slice A tabs.length c,.slice B tabs.length d],I J 0])∧O w3 (ao (.slice A tabs.length c) tabs*(ao (.slice B tabs.length d) (aF x.page tabs.length)*bS w2 w2.heap.size))∧ax w2 w3:=hF;have h5:O _ (aa w3.heap.size #[I J af,V U,V lf,I J rg,V us,V di,I J fr,.slice A tabs.length c,.slice B tabs.length d] 206*(ao (.slice A tabs.length c) tabs*(ao (.slice B tabs.length d) (aF x.page tabs.length)*(aa w.heap.size #[I J x.page,I J x.size,I J x.frame,I J x.rights] 39*(ai f s*R))))):=((h2.onto' (h3.a2)).a1).new #[I J af,V U,V lf,I J rg,V us,V di,I J fr,.slice A tabs.length c,.slice B tabs.length d] 206;have x5:=(x2.trans x3).alloc (.cells #[I J af,V U,V lf,I J rg,V us,V di,I J fr,.slice A tabs.length c,.slice B tabs.length d] 206);clear h2 x2 h3 x3 c0 c1 c2 c3 cl W1 HC;go_upto_region 5 with fail;generalize w3.alloc _=w5 at*
 generalize w3.heap.size=X1 at*
 generalize w.heap.size=X0 at*
 obtain⟨c0,c1,c2,c3⟩:=h5.r3.cells4;have cl:=h5.r3.lt;obtain⟨k0,k1,k2,k3,k4,k5,k6,k7,k8⟩:=h5.cells9;have kl:=h5.lt;have h6:=h5.new #[.pointer (H (M f 0 F)),.slice F 0 0] 224;have x6:=x5.alloc (.cells #[.pointer (H (M f 0 F)),.slice F 0 0] 224);go_upto_region 10 with fail;generalize w5.alloc _=w6 at*
 generalize w5.heap.size=Xb at*
 clear h5 x5 c0 c1 c2 c3 cl k0 k1 k2 k3 k4 k5 k6 k7 k8 kl;obtain⟨k0,k1,k2,k3,k4,k5,k6,k7,k8⟩:=h6.right.cells9;have kl:=h6.right.lt;obtain⟨c0,c1,c2,c3⟩:=h6.right.r3.cells4;have cl:=h6.right.r3.lt;have hmw:IntKind.i64.wrap (m:Int)=(m:Int):=by rw[L];omega
 have hmw2:IntKind.i64.wrap (af - x.size)=(m:Int):=by rw[hmm];exact hmw
 have h7:O w6 (aa Xb #[.pointer (H (M f 0 F)),.slice F 0 0] 224*(ai f s*(aa X1 #[I J af,V U,V lf,I J rg,V us,V di,I J fr,.slice A tabs.length c,.slice B tabs.length d] 206*(ao (.slice A tabs.length c) tabs*(ao (.slice B tabs.length d) (aF x.page tabs.length)*(aa X0 #[I J x.page,I J x.size,I J x.frame,I J x.rights] 39*R)))))):=h6.eq (by ac_rfl);clear h6;go_wp2_with fail
 refine(HT.out _ _ _ h7).mono ?_;rintro e w7 hF;rcases hF with ⟨_,G,gc,rfl,h8,x8⟩|⟨hle,_⟩
 case inr=>exact absurd hle (by omega)
 have x9:=x6.trans x8;clear h7 x6 x8 HT hmw hmw2 hmm k0 k1 k2 k3 k4 k5 k6 k7 k8 kl c0 c1 c2 c3 cl;have h9:O w7 (ao (.slice A tabs.length c) tabs*(bZ 3 1 (.slice G m gc) m (tp.map (I J))*(aa X1 #[I J af,V U,V lf,I J rg,V us,V di,I J fr,.slice A tabs.length c,.slice B tabs.length d] 206*(aa Xb #[.pointer (H (M f 0 F)),.slice G m gc] 224*(ao (.slice B tabs.length d) (aF x.page tabs.length)*(ai f (a8 s m)*(aa X0 #[I J x.page,I J x.size,I J x.frame,I J x.rights] 39*R))))))):=h8.eq (by ac_rfl);clear h8;have hlen1:((tabs.length:Nat):Int) - 1=(n:Int):=by have:=HN.out;omega
 have k7:=h9.right.right.cell 7;have kl:=h9.right.right.lt;have HLN:=p hlen1;clear hlen1;go_upto_region 12 with fail;go_cut [11] from 55 to 59 (fun s11 wx=>s11=I J n∧wx=w7)
 case first=>
  have hlen1:=HLN.out;go_wp2_with fail
  go_meet
  case rel=>exact⟨by first|rfl|(rw[←hlen1];done)|(rw[←hlen1];go_num),rfl⟩
 case rest=>
 obtain⟨rfl,hwr⟩:=hcut;replace hwr:=hwr.symm;subst hwr;have HS:=p (fun(w':X) (P Q:ab) (h:O w' (P*(Q*(aa X1 #[I J af,V U,V lf,I J rg,V us,V di,I J fr,.slice A tabs.length c,.slice B tabs.length d] 206*(aa Xb #[.pointer (H (M f 0 F)),.slice G m gc] 224*(ao (.slice B tabs.length d) (aF x.page tabs.length)*(ai f (a8 s m)*(aa X0 #[I J x.page,I J x.size,I J x.frame,I J x.rights] 39*R))))))))=>(⟨h.right.right.cell 7,h.r3.cell 1⟩:w'.cell? (M X1 7 F)=H (.slice A tabs.length c)∧w'.cell? (M Xb 1 F)=H (.slice G m gc)));have hbl:=h9.r3.lt;have hnt:tabs.length=n+1:=HN.out;have hnt4:tabs.length≤1000000:=by omega
 have hntm:tabs.length+m≤1000000:=by omega
 clear hnt;go_upto_region 13 with fail;go_cut [12] from 59 to 67 (fun s12 wx=>∃(D:Option an) (dc:Nat),s12= .slice D (tabs.length+m) dc∧O wx (bZ 3 1 (.slice D (tabs.length+m) dc) (tabs.length+m) (tabs.map (I J)++tp.map (I J))*(ao (.slice A tabs.length c) tabs*(bZ 3 1 (.slice G m gc) m (tp.map (I J))*(aa X1 #[I J af,V U,V lf,I J rg,V us,V di,I J fr,.slice A tabs.length c,.slice B tabs.length d] 206*(aa Xb #[.pointer (H (M f 0 F)),.slice G m gc] 224*(ao (.slice B tabs.length d) (aF x.page tabs.length)*(ai f (a8 s m)*(aa X0 #[I J x.page,I J x.size,I J x.frame,I J x.rights] 39*R))))))))∧ax w wx)
 case first=>
  refine wp_region_held_drew (S:=fun w'=>w'.cell? (M X1 7 F)=H (.slice A tabs.length c)∧w'.cell? (M Xb 1 F)=H (.slice G m gc)) (by kernel_rfl) (HS.out _ _ _ h9) (fun hHeld=> ?_);refine wpAnyH_take (i:=0) (v:= ?_) rfl (by kernel_rfl) (by kernel_rfl) (by kernel_rfl) (fun _ _ _ h=>h) (Or.inl ⟨by kernel_rfl,?_⟩) hHeld ?_;rotate_left;focus (intro wS hSw;(try dsimp only at hSw);go_simp;first|done|with_reducible rfl)
  try go_simp
  refine wpAnyH_take (i:=1) (v:= ?_) rfl (by kernel_rfl) (by kernel_rfl) (by kernel_rfl) (fun _ _ _ h=>h) (Or.inl ⟨by kernel_rfl,?_⟩) hHeld ?_;rotate_left;focus (intro wS hSw;(try dsimp only at hSw);go_simp;first|done|with_reducible rfl)
  try go_simp
  refine wpAnyH_take (i:=3) (v:= ?_) rfl (by kernel_rfl) (by kernel_rfl) (by kernel_rfl) (fun _ _ _ h=>h) (Or.inl ⟨by kernel_rfl,?_⟩) hHeld ?_;rotate_left;focus (intro wS hSw;(try dsimp only at hSw);go_simp;first|done|with_reducible rfl)
  try go_simp
  refine wpAnyH_take (i:=4) (v:= ?_) rfl (by kernel_rfl) (by kernel_rfl) (by kernel_rfl) (fun _ _ _ h=>h) (Or.inl ⟨by kernel_rfl,?_⟩) hHeld ?_;rotate_left;focus (intro wS hSw;(try dsimp only at hSw);go_simp;first|done|with_reducible rfl)
  try go_simp
  refine wpAnyH_take (i:=5) (v:= ?_) rfl (by kernel_rfl) (by kernel_rfl) (by kernel_rfl) (fun _ _ _ h=>h) (Or.inl ⟨by kernel_rfl,?_⟩) hHeld ?_;rotate_left;focus (intro wS hSw;(try dsimp only at hSw);go_simp;first|done|with_reducible rfl)
  try go_simp
  refine wpAnyH_take (i:=6) (v:= ?_) rfl (by kernel_rfl) (by kernel_rfl) (by kernel_rfl) (fun _ _ _ h=>h) (Or.inl ⟨by kernel_rfl,?_⟩) hHeld ?_;rotate_left;focus (intro wS hSw;(try dsimp only at hSw);go_simp;first|done|with_reducible rfl)
  try go_simp
  refine wpAnyH_ready (rs:=[2]) (by kernel_rfl) (by simp) (AllReadyH.cons rfl (fun K hK=> ?_) AllReadyH.nil);go_simp;go_wp2_with((go_at_call 151;refine(nc tabs A _ c _ _ hnt4 h9.drew).mono ?_;rintro e w10 ⟨C,cn,cc,rfl,h10,x10⟩;have h11:=h9.drew.onto' h10;obtain rfl:=ei h11))
  refine hK.out _ _ (HS.out _ _ _ h11.right) (fun hHeld=> ?_);clear hK K;have h12:O w10 (bZ 3 1 (.slice C tabs.length cc) tabs.length (tabs.map (I J))*(bZ 3 1 (.slice G m gc) m (tp.map (I J))*(ao (.slice A tabs.length c) tabs*(aa X1 #[I J af,V U,V lf,I J rg,V us,V di,I J fr,.slice A tabs.length c,.slice B tabs.length d] 206*(aa Xb #[.pointer (H (M f 0 F)),.slice G m gc] 224*(ao (.slice B tabs.length d) (aF x.page tabs.length)*(ai f (a8 s m)*(aa X0 #[I J x.page,I J x.size,I J x.frame,I J x.rights] 39*R)))))))):=h11.eq (by unfold ao;ac_rfl);refine wpAnyH_ready (rs:=[7]) (by kernel_rfl) (by simp) (AllReadyH.cons rfl (fun K hK=> ?_) AllReadyH.nil);refine kR rfl (.tmp 61) (.tmp 65) 45 rfl underlying45 gr (.slice C tabs.length cc) tabs.length (tabs.map (I J)) (by simp[Act.eval]) (.slice G m gc) m (tp.map (I J)) (by simp[Act.eval]) h12 (oE _) (by unfold maxLen;omega) (by omega) ?_;intro D dc w13 h13 x13;have h14:O w13 (bZ 3 1 (.slice D (tabs.length+m) dc) (tabs.length+m) (tabs.map (I J)++tp.map (I J))*(ao (.slice A tabs.length c) tabs*(bZ 3 1 (.slice G m gc) m (tp.map (I J))*(aa X1 #[I J af,V U,V lf,I J rg,V us,V di,I J fr,.slice A tabs.length c,.slice B tabs.length d] 206*(aa Xb #[.pointer (H (M f 0 F)),.slice G m gc] 224*(ao (.slice B tabs.length d) (aF x.page tabs.length)*(ai f (a8 s m)*(aa X0 #[I J x.page,I J x.size,I J x.frame,I J x.rights] 39*R)))))))):=h13.eq (by ac_rfl);try go_simp
  refine hK.out _ _ (HS.out _ _ _ h14.right) (fun hHeld=> ?_);clear hK K;refine wpAnyH_take (i:=8) (v:= ?_) rfl (by kernel_rfl) (by kernel_rfl) (by kernel_rfl) (fun _ _ _ h=>h) (Or.inl ⟨by kernel_rfl,?_⟩) hHeld ?_;rotate_left;focus (intro wS hSw;(try dsimp only at hSw);go_simp;first|done|with_reducible rfl)
  try go_simp
  refine wpAnyH_done (by kernel_rfl) ?_ _;go_wp2_with fail
  go_meet
  case rel=>exact⟨D,dc,rfl,h14,(x9.drew.trans x10).trans x13⟩
 case rest=>
 clear h9 x9 k7 kl hbl HS;obtain⟨D,dc,rfl,h10,x10⟩:=hcut;rw[←List.map_append,←HAL.out] at h10;have HPL:=p (gv x.page tabs.length);have h11:O wc (ao (.slice B tabs.length d) (aF x.page tabs.length)*(aa X1 #[I J af,V U,V lf,I J rg,V us,V di,I J fr,.slice A tabs.length c,.slice B tabs.length d] 206*(bZ 3 1 (.slice D (tabs.length+m) dc) (tabs.length+m) (al.map (I J))*(ai f (a8 s m)*(aa Xb #[.pointer (H (M f 0 F)),.slice G m gc] 224*(aa X0 #[I J x.page,I J x.size,I J x.frame,I J x.rights] 39*(ao (.slice A tabs.length c) tabs*(bZ 3 1 (.slice G m gc) m (tp.map (I J))*R)))))))):=h10.eq (by ac_rfl);have k8:=h11.right.cell 8;have kl:=h11.right.lt;go_wp2_with fail
 refine(nc (aF x.page tabs.length) B _ d _ _ (by rw[HPL.out];exact hnt4) h11).mono ?_;rintro e w12 ⟨P0,pn,pc,rfl,h12,x12⟩;have h13:=h11.onto' h12;have hpn:=(ei h13).trans HPL.out;obtain rfl:=hpn;have x13:=x10.trans x12;obtain⟨QQ,hQQ⟩:∃Q:ab,Q=(ao (.slice A tabs.length c) tabs*(bZ 3 1 (.slice G m gc) m (tp.map (I J))*(ao (.slice B tabs.length d) (aF x.page tabs.length)*aa X1 #[I J af,V U,V lf,I J rg,V us,V di,I J fr,.slice A tabs.length c,.slice B tabs.length d] 206))):=⟨_,rfl⟩;obtain⟨N1,hN1⟩:∃N1,N1=tabs.length+m:=⟨_,rfl⟩;have h14:O w12 (bZ 3 1 (.slice P0 tabs.length pc) tabs.length ((aF x.page tabs.length).map (I J))*(bZ 3 1 (.slice D N1 dc) N1 (al.map (I J))*(ai f (a8 s m)*(aa Xb #[.pointer (H (M f 0 F)),.slice G m gc] 224*(aa X0 #[I J x.page,I J x.size,I J x.frame,I J x.rights] 39*(QQ*R)))))):=by
  rw[hQQ,hN1];have:=h13;unfold ao at this⊢;rw[HPL.out] at this⊢;exact this.eq (by ac_rfl)
 have k0:w12.cell? (M X1 0 F)=H (I J af):=h13.right.right.cell 0;have kl2:=h13.right.right.lt;have HN1:=p (show N1=n+1+m by have:=HN.out;omega);have HQQ:=p hQQ;have hw15:IntKind.i64.wrap (af - 1)=3 - ((n+1:Nat):Int):=by rw[L,HLV.out];omega
 have hN1c:Value.slice D (tabs.length+m) dc=Value.slice D N1 dc:=by rw[hN1]
 rw[hN1c];have HNT:=p HN.out;clear h10 x10 h11 x12 h12 h13 hQQ hN1 hN1c kl k8;go_upto_region 15 with fail;go_cut [14] from 70 to 73 (fun s14 wx=>s14=I J (3 - ((n+1:Nat):Int))∧wx=w12)
 case first=>
  go_wp2_with fail
  go_meet
  case rel=>exact⟨by first|rfl|(rw[←hw15];done)|(rw[←hw15];go_num),rfl⟩
 case rest=>
 obtain⟨rfl,hwr⟩:=hcut;replace hwr:=hwr.symm;subst hwr;clear k0 kl2 hw15 hnt4 hntm;generalize hT:tabs.length=T at*
 have HTT:=p (show T=n+1 from HNT.out);have h15:O w12 (bZ 3 1 (.slice P0 T pc) T ((aF x.page T).map (I J))*(bZ 3 1 (.slice D N1 dc) N1 (al.map (I J))*(ai f (a8 s m)*(aa Xb #[.pointer (H (M f 0 F)),.slice G m gc] 224*(aa X0 #[I J x.page,I J x.size,I J x.frame,I J x.rights] 39*(QQ*R)))))):=h14;clear h14;have hnT:n+1=T:=HTT.out.symm;have HnT:=p hnT;clear hnT hT;go_upto_region 16 with fail;go_loopw [13,14] (fun t13 t14 wr=>∃(q:Nat) (P:Option an) (pc:Nat),n+1≤q∧q≤N1∧t14=I J (3 - (q:Int))∧t13= .slice P q pc∧O wr (bZ 3 1 (.slice P q pc) q ((aF x.page q).map (I J))*(bZ 3 1 (.slice D N1 dc) N1 (al.map (I J))*(ai f (a8 s m)*(aa Xb #[.pointer (H (M f 0 F)),.slice G m gc] 224*(aa X0 #[I J x.page,I J x.size,I J x.frame,I J x.rights] 39*(QQ*R))))))∧ax w wr) (fun _ t14 _=>(intOf t14+5).toNat)
 case atStart=>exact⟨T,P0,pc,by have:=HTT.out;omega,by have:=HTT.out;have:=HN1.out;omega,by rw[HTT.out],rfl,h15,x13⟩
 case round=>
  clear h15 x13;obtain⟨q,P,pc',hq1,hq2,rfl,rfl,hr,hx⟩:=hrel;have hN1o:=HN1.out;have hZo:=HZ.out;obtain⟨c0,c1,c2,c3⟩:=hr.right.r3.cells4;have cl:=hr.right.r3.lt;by_cases hlt:q<N1
  ·have hge:x.size≤3 - (q:Int):=by omega
   have hw14:IntKind.i64.wrap (3 - (q:Int) - 1)=3 - ((q+1:Nat):Int):=by rw[L];omega
   have hq4:q≤4:=by omega
   have HIX:=p (fun W=>jH x.page (3 - (q:Int)) W);have HPS:=p (jR x.page q);have HQ1:=p (And.intro hq1 hq2);have HLT:=p hlt;clear hN1o hZo hq1 hq2 hlt;generalize am x.page (3 - (q:Int))=ix at*
   have hrow:=hr.alloc (.cells #[I J ix] 3);go_wp2_with(first|(go_at_call 152;refine(HIX.out _).mono ?_;rintro e w15 ⟨rfl,rfl⟩)|(at_builtin;refine aW rfl _ _ 45 rfl underlying45 gr _ _ _ rfl hrow (M _ 0 F) 1 1 [I J ix] rfl rfl (eO _ (I J ix) 3) ?c1 ?c2 ?c3 ?_))
   case c1=>intro u hu;simp at hu;subst hu;rfl
   case c2=>unfold maxLen;omega
   case c3=>omega
   intro v' w16 h16 x16;obtain⟨P',pc2,rfl⟩:=h16.rowForm;go_wp2_with fail
   go_roundw
   case rel=>exact⟨q+1,P',pc2,by have:=HQ1.out;omega,by have:=HLT.out;omega,by first|rfl|exact congrArg (I J) hw14|(rw[hw14]),rfl,by rw[HPS.out,List.map_append];exact h16,(hx.alloc _).trans x16⟩
   case measure=>simp[intOf];omega
  ·obtain rfl:q=N1:=by omega
   have hge:¬(x.size≤3 - (q:Int)):=by omega
   obtain⟨e,he⟩:∃e,e=n+m:=⟨_,rfl⟩;have haln:al.length=q:=by have:=HALN.out;omega
   have hpln:(aF x.page q).length =q:=gv x.page q;have hqe:q=e+1:=by omega
   obtain⟨bP,hP1,-,-,-⟩:=Has.rowGet (e:=3) (size:=1) hr (i:=e) (u:=I J ((aF x.page q)[e]'(by omega))) (by simp);obtain⟨bD,hD1,-,-,-⟩:=Has.rowGet (e:=3) (size:=1) hr.right (i:=e) (u:=I J (al[e]'(by omega))) (by simp);subst hP1;subst hD1;have HRW:=p (fun(j:Nat) (t:Int) (hj:al[j]? =H t) (w':X) (Z:ab) (h:O w' (bZ 3 1 (.slice (H (M bP 0 F)) q pc') q ((aF x.page q).map (I J))*(bZ 3 1 (.slice (H (M bD 0 F)) q dc) q (al.map (I J))*Z)))=>(by
    obtain⟨hjl,hje⟩:=Y.1 hj;obtain⟨b1,e1,l1,q1,_⟩:=Has.rowGet (e:=3) (size:=1) h (i:=j) (u:=I J (am x.page (3 - (j:Int)))) (by rw[List.getElem?_map,iU x.page (by omega)];rfl);obtain⟨b2,e2,l2,q2,_⟩:=Has.rowGet (e:=3) (size:=1) h.right (i:=j) (u:=I J t) (by rw[List.getElem?_map,hj];rfl);injection e1 with e1;injection e1 with e1
    injection e2 with e2;injection e2 with e2
    subst e1;subst e2;exact⟨q2,q1,l2,l1⟩:w'.cell? (M bD j F)=H (I J t)∧w'.cell? (M bP j F)=H (I J (am x.page (3 - (j:Int))))∧bD<w'.heap.size∧bP<w'.heap.size))
   have hAlj:=p (fun(j:Nat) (hj:j<q)=>(⟨_,List.getElem?_eq_getElem (by omega)⟩:∃t,al[j]? =H t));obtain⟨te,hte⟩:=hAlj.out e (by omega);have hHp:∀u,(a8 s m).has u=(a8 s m).has u:=fun _=>rfl;have hst1:=HSTO.out (a8 s m) hHp e te hte (bt (dj x) x.size);have hla1:=HLAST.out te (by rw[←he];exact hte) (a8 s m) (bt (dj x) x.size);rw[←he] at hla1;rw[←hla1] at hst1;have HP1:=p (fun R w h=>wJ Xb f te (am x.page (3 - (e:Int))) x.size (.slice G m gc) (dj x) (a8 s m) R w h);rw[hst1] at HP1;generalize hU:mL (a8 s m) x.page (bt (dj x) x.size) z (al.drop e)=σ1 at HP1;have HU:=p hU;clear hU;unfold dj at HP1;dsimp only at HP1;have HTE:=p (HRW.out e te hte);have hq1':(q:Int) - 1=(e:Int):=by omega
   have hq2':(q:Int) - 2=(e:Int) - 1:=by omega
   have hwe:IntKind.i64.wrap (e:Int)=(e:Int):=by rw[L];omega
   have hwe1:IntKind.i64.wrap ((e:Int) - 1)=(e:Int) - 1:=by rw[L];omega
   have hwq:IntKind.i64.wrap ((q:Int) - 1)=(e:Int):=by rw[hq1'];exact hwe
   have hwq2:IntKind.i64.wrap ((q:Int) - 2)=(e:Int) - 1:=by rw[hq2'];exact hwe1
   have heq:(e:Int)< (q:Int):=by omega
   have he0:¬((e:Int)<0):=by omega
   have he00:(0:Int)≤(e:Int):=by omega
   have HEE:=p (And.intro he hqe);have HNN:=p (show n≤e by omega);have HN3:=p (show e≤3 by omega);clear hst1 hla1 hHp haln hpln hqe he hN1o hZo hq1 hq2 hlt;have HIXE:=p (show am x.page (3 - (e:Int))=am x.page (3 - (e:Int)) from rfl);generalize hie:am x.page (3 - (e:Int))=ie at HP1 HTE;clear HIXE hie;have h17:O _ (aa Xb #[.pointer (H (M f 0 F)),.slice G m gc] 224*(ai f (a8 s m)*(bZ 3 1 (.slice (H (M bP 0 F)) q pc') q ((aF x.page q).map (I J))*(bZ 3 1 (.slice (H (M bD 0 F)) q dc) q (al.map (I J))*(aa X0 #[I J x.page,I J x.size,I J x.frame,I J x.rights] 39*(QQ*R)))))):=(hr.eq (by ac_rfl)).drew;have x17:=hx.drew;obtain⟨tA,tB,_,_⟩:=HTE.out _ _ hr;have HKK:=p (fun(w':X) (P' Q':ab) (h:O w' (P'*(Q'*(bZ 3 1 (.slice (H (M bP 0 F)) q pc') q ((aF x.page q).map (I J))*(bZ 3 1 (.slice (H (M bD 0 F)) q dc) q (al.map (I J))*(aa X0 #[I J x.page,I J x.size,I J x.frame,I J x.rights] 39*(QQ*R)))))))=>(by
    obtain⟨a1,a2,_,_⟩:=HTE.out _ _ h.right.right;obtain⟨m0,m1,m2,m3⟩:=h.right.r3.cells4;exact⟨a1,a2,m1,m2,m3⟩:w'.cell? (M bD e F)=H (I J te)∧w'.cell? (M bP e F)=H (I J ie)∧w'.cell? (M X0 1 F)=H (I J x.size)∧w'.cell? (M X0 2 F)=H (I J x.frame)∧w'.cell? (M X0 3 F)=H (I J x.rights)))
   go_upto_region 19 with fail;go_region_held3 (fun w'=>w'.cell? (M bD e F)=H (I J te)∧w'.cell? (M bP e F)=H (I J ie)∧w'.cell? (M X0 1 F)=H (I J x.size)∧w'.cell? (M X0 2 F)=H (I J x.frame)∧w'.cell? (M X0 3 F)=H (I J x.rights)) (first|(with_reducible exact HKK.out _ _ _ h17)|(with_reducible exact HKK.out _ _ _ h18)|go_keep) (first|(go_at_call 153;(with_reducible refine(HP1.out _ _ h17).mono ?_);rintro e9 w18 ⟨rfl,h18,x18⟩))
   have x19:=x17.trans x18;rw[←HU.out] at h18;clear h17 x17 x18 HP1 HTE HKK tA tB hr hx c0 c1 c2 c3 cl;clear HU;go_upto_region 20 with fail;go_cut [15] from 107 to 110 (fun s15 wx=>s15=I J ((e:Int) - 1)∧wx=w18)
   case first=>
    go_wp2_with fail
    go_meet
    case rel=>exact⟨by first|rfl|(rw[←hwq2];done)|(rw[←hwq2];go_num),rfl⟩
   case rest=>
   obtain⟨rfl,hwr⟩:=hcut;replace hwr:=hwr.symm;subst hwr;clear hq1' hq2' hwe hwe1 hwq hwq2 heq he0 he00 hge;go_upto_region 21 with fail;go_loopw [15] (fun t15 wr=>∃g:Nat,n≤g∧g≤e∧t15=I J ((g:Int) - 1)∧O wr (aa Xb #[.pointer (H (M f 0 F)),.slice G m gc] 224*(ai f (mL (a8 s m) x.page (bt (dj x) x.size) z (al.drop g))*(bZ 3 1 (.slice (H (M bP 0 F)) q pc') q ((aF x.page q).map (I J))*(bZ 3 1 (.slice (H (M bD 0 F)) q dc) q (al.map (I J))*(aa X0 #[I J x.page,I J x.size,I J x.frame,I J x.rights] 39*(QQ*R))))))∧ax w wr) (fun t15 _=>(intOf t15+1).toNat)
   case atStart=>exact⟨e,HNN.out,Nat.le_refl _,rfl,h18,x19⟩
   case round=>
    clear h18 x19;obtain⟨g,hg1,hg2,rfl,hr,hx⟩:=hrel;by_cases hgn:g=n
    ·have hnge:¬((n:Int)≤(g:Int) - 1):=by omega
     have hfin:mL (a8 s m) x.page (bt (dj x) x.size) z (al.drop g)=sF:=by rw[hgn];exact HFIN.out
     have hok2:=HOKF.out (al.drop g);rw[hfin] at hr hok2;have HGN:=p hgn;have hend:O _ (ai f sF*(QQ*R)):=(hr.eq (show _=aa Xb #[.pointer (H (M f 0 F)),.slice G m gc] 224*(bZ 3 1 (.slice (H (M bP 0 F)) q pc') q ((aF x.page q).map (I J))*(bZ 3 1 (.slice (H (M bD 0 F)) q dc) q (al.map (I J))*(aa X0 #[I J x.page,I J x.size,I J x.frame,I J x.rights] 39*(ai f sF*(QQ*R))))) by ac_rfl)).r4;clear hgn hfin;go_wp2_with fail
     go_ret;exact⟨sF,hok2,Agree.refl sF,rfl,hend.p2.right,hx⟩
    ·obtain⟨j,hj⟩:∃j,g=j+1:=⟨g - 1,by omega⟩
     have hge:(n:Int)≤(g:Int) - 1:=by omega
     have hgj:(g:Int) - 1=(j:Int):=by omega
     have hjg:(j:Int)+1=(g:Int):=by omega
     have hqe:=HEE.out.2;have hn3e:=HN3.out;have hjq:(j:Int)< (q:Int):=by omega
     have hgq:(g:Int)< (q:Int):=by omega
     have hj0:¬((j:Int)<0):=by omega
     have hj00:(0:Int)≤(j:Int):=by omega
     have hg0:¬((g:Int)<0):=by omega
     have hg00:(0:Int)≤(g:Int):=by omega
     have hw1:IntKind.i64.wrap (j:Int)=(j:Int):=by rw[L];omega
     have hw2:IntKind.i64.wrap (g:Int)=(g:Int):=by rw[L];omega
     have hw3:IntKind.i64.wrap (3 - (j:Int))=3 - (j:Int):=by rw[L];omega
     have hw4:IntKind.i64.wrap ((j:Int) - 1)=(j:Int) - 1:=by rw[L];omega
     obtain⟨t,ht⟩:=hAlj.out j (by omega);obtain⟨k,hk⟩:=hAlj.out (j+1) (by omega);have hstep:=HSTEP.out j t k ht hk (a8 s m) (bt (dj x) x.size);have hsto:=HSTO.out (mL (a8 s m) x.page (bt (dj x) x.size) z (al.drop (j+1))) (HHAS.out _) j t ht (bt ⟨ag,U,7,U,U,k⟩ (3 - (j:Int)));rw[←hstep] at hsto;have HPU:=p (fun R w h=>wJ Xb f t (am x.page (3 - (j:Int))) (3 - (j:Int)) (.slice G m gc) ⟨ag,U,7,U,U,k⟩ (mL (a8 s m) x.page (bt (dj x) x.size) z (al.drop (j+1))) R w h);rw[hsto] at HPU;dsimp only at HPU;rw[←hj] at HPU hk;have HTJ:=p (HRW.out j t ht);have HTG:=p (HRW.out g k hk);have HGG:=p (And.intro hg1 (And.intro hg2 hj));clear hstep hsto hj ht hk hqe hn3e hg1 hg2 hgn;generalize am x.page (3 - (j:Int))=ij at HPU HTJ;generalize am x.page (3 - (g:Int))=ig at HTG;have h17:O _ (aa Xb #[.pointer (H (M f 0 F)),.slice G m gc] 224*(ai f (mL (a8 s m) x.page (bt (dj x) x.size) z (al.drop g))*(bZ 3 1 (.slice (H (M bP 0 F)) q pc') q ((aF x.page q).map (I J))*(bZ 3 1 (.slice (H (M bD 0 F)) q dc) q (al.map (I J))*(aa X0 #[I J x.page,I J x.size,I J x.frame,I J x.rights] 39*(QQ*R)))))):=hr.drew;have x17:=hx.drew;obtain⟨tA,tB,lD,lP⟩:=HTJ.out _ _ hr.right.right;obtain⟨gA,gB,_,_⟩:=HTG.out _ _ hr.right.right;have HKK:=p (fun(w':X) (P' Q':ab) (h:O w' (P'*(Q'*(bZ 3 1 (.slice (H (M bP 0 F)) q pc') q ((aF x.page q).map (I J))*(bZ 3 1 (.slice (H (M bD 0 F)) q dc) q (al.map (I J))*(aa X0 #[I J x.page,I J x.size,I J x.frame,I J x.rights] 39*(QQ*R)))))))=>(by
      obtain⟨a1,a2,_,_⟩:=HTJ.out _ _ h.right.right;obtain⟨a3,_,_,_⟩:=HTG.out _ _ h.right.right;exact⟨a1,a2,a3⟩:w'.cell? (M bD j F)=H (I J t)∧w'.cell? (M bP j F)=H (I J ij)∧w'.cell? (M bD g F)=H (I J k)))
     generalize mL (a8 s m) x.page (bt (dj x) x.size) z (al.drop g)=σg at*
     go_upto_region 23 with fail;go_region_held3 (fun w'=>w'.cell? (M bD j F)=H (I J t)∧w'.cell? (M bP j F)=H (I J ij)∧w'.cell? (M bD g F)=H (I J k)) (first|(with_reducible exact HKK.out _ _ _ h17)|(with_reducible exact HKK.out _ _ _ h18)|go_keep) (first|(go_at_call 153;(with_reducible refine(HPU.out _ _ h17).mono ?_);rintro e9 w18 ⟨rfl,h18,x18⟩))
     have x19:=x17.trans x18;go_wp2_with fail
     go_roundw
     case rel=>exact⟨j,by have:=HGG.out.2.2;omega,by have:=HGG.out.2.2;have:=HGG.out.2.1;omega,rfl,h18,x19⟩
     case measure=>simp[intOf];omega
end Go.Proofs.YtmfheghbgihdmaaGreat
