/- The words in which every contract of this family speaks of memory: a small separation logic over the model's heap, blocks as its atoms. Plain lemmas, no program in sight. -/
import Derived.WalkKit
import Derived.Deep.Draws
import Derived.BigQuiet
import Derived.Maps.AppendAt
import Derived.Laws.MakeOwn
namespace Go.Proofs.YtmfheghbgihdmaaGreat
open Go.Value renaming int→vI
open Go.IntKind renaming i64→vK
open Go.Value renaming bool→vB
open Bool renaming false→E,true→H
open Option renaming some→G,none→J
open Go renaming Value→I,World→M,Addr→af,Calls→ag
open List renaming length_append→W
open Go.Addr renaming mk→Z
open Go.RowKit
abbrev Hp:=Nat→Option Obj
def ab:=Hp→Prop
namespace Hpm
def sub(h k:Hp):Prop:=∀b o,h b=G o→k b=G o
def disj(h k:Hp):Prop:=∀b,h b=J∨k b=J
def union(h k:Hp):Hp:=fun b=>(h b).or (k b)
def emp:Hp:=fun _=>J
def single(b:Nat)(o:Obj):Hp:=fun k=>if k=b then G o else J
theorem disj_symm{h k:Hp}(d:disj h k):disj k h:=fun b=>(d b).symm
theorem union_comm{h k:Hp}(d:disj h k):union h k=union k h:=by
 funext b
 simp only[union];have:=d b;cases hh:h b<;>cases hk:k b<;>simp_all
theorem union_assoc(h k l:Hp):union (union h k) l=union h (union k l):=by
 funext b
 simp only[union];cases h b<;>simp
theorem disj_union_left{h k l:Hp}:disj (union h k) l↔disj h l∧disj k l:=by
 constructor
 ·intro d
  refine⟨fun b=> ?_,fun b=> ?_⟩<;>rcases d b with e|e<;>(try simp only[union] at e)
  ·left;cases hb:h b<;>simp_all
  ·right;exact e
  ·left;cases hb:h b<;>simp_all
  ·right;exact e
 ·intro⟨d1,d2⟩ b
  rcases d1 b with e1|e1
  ·rcases d2 b with e2|e2
   ·left;simp[union,e1,e2]
   ·right;exact e2
  ·right;exact e1
theorem disj_union_right{h k l:Hp}:disj h (union k l)↔disj h k∧disj h l:=by
 constructor
 ·intro d
  have:=disj_union_left.1 (disj_symm d);exact⟨disj_symm this.1,disj_symm this.2⟩
 ·intro⟨d1,d2⟩
  exact disj_symm (disj_union_left.2 ⟨disj_symm d1,disj_symm d2⟩)
theorem sub_union_left{h k l:Hp}(s:sub (union h k) l):sub h l:=fun b o e=>s b o (by simp[union,e])
theorem sub_union_right{h k l:Hp}(d:disj h k)(s:sub (union h k) l):sub k l:=by
 rw[union_comm d] at s;exact sub_union_left s
theorem sub_union{h k l:Hp}(s1:sub h l)(s2:sub k l):sub (union h k) l:=by
 intro b o e;simp only[union] at e;cases hb:h b with
 |none=>rw[hb] at e;exact s2 b o (by simpa using e)
 |some x=>rw[hb] at e;simp at e;subst e;exact s1 b x hb
end Hpm
open Hpm
def Ay(P Q:ab):ab:=fun h=>∃h1 h2,disj h1 h2∧h=union h1 h2∧P h1∧Q h2
instance:Mul ab:=⟨Ay⟩
theorem cF(P Q:ab):P*Q=Q*P:=by
 funext h
 apply propext;constructor<;>rintro⟨h1,h2,d,rfl,p,q⟩<;>exact⟨h2,h1,disj_symm d,union_comm d,q,p⟩
theorem aX(P Q R:ab):(P*Q)*R=P*(Q*R):=by
 funext h
 apply propext;constructor
 ·rintro⟨h12,h3,d,rfl,⟨h1,h2,d',rfl,p,q⟩,r⟩
  have:=disj_union_left.1 d;exact⟨h1,union h2 h3,disj_union_right.2 ⟨d',this.1⟩,union_assoc _ _ _,p,h2,h3,this.2,rfl,q,r⟩
 ·rintro⟨h1,h23,d,rfl,p,⟨h2,h3,d',rfl,q,r⟩⟩
  have:=disj_union_right.1 d;exact⟨union h1 h2,h3,disj_union_left.2 ⟨this.2,d'⟩,(union_assoc _ _ _).symm,⟨h1,h2,this.1,rfl,p,q⟩,r⟩
theorem ay(P Q R:ab):P*(Q*R)=Q*(P*R):=by
 rw[←aX,cF P Q,aX]
def Has(w:M)(P:ab):Prop:=∃h:Hp,sub h (fun b=>w.heap[b]?)∧P h
def eY(p:Prop):ab:=fun h=>p∧h=emp
def ex{α:Type}(P:α→ab):ab:=fun h=>∃x,P x h
def aa(b:Nat)(cs:Array I)(t:TypeId):ab:=fun h=>h=single b (.cells cs t (0,0))
def bE(w0:M)(B:Nat):ab:=fun h=>h=fun b=>if b<B then w0.heap[b]? else J
section
variable {w w':M} {P Q R S:ab}
theorem Has.imp(h:Has w P)(i:∀x,P x→Q x):Has w Q:=let⟨x,s,p⟩:=h;⟨x,s,i x p⟩
theorem Has.eq(h:Has w P)(e:P=Q):Has w Q:=e▸h
theorem Has.left(h:Has w (P*Q)):Has w P:=by
 obtain⟨_,s,h1,h2,d,rfl,p,q⟩:=h;exact⟨h1,sub_union_left s,p⟩
theorem Has.right(h:Has w (P*Q)):Has w Q:=by
 obtain⟨_,s,h1,h2,d,rfl,p,q⟩:=h;exact⟨h2,sub_union_right d s,q⟩
theorem Has.r3{T:ab}(h:Has w (P*(Q*(R*T)))):Has w T:=h.right.right.right
theorem Has.r4{T U:ab}(h:Has w (P*(Q*(R*(T*U))))):Has w U:=h.right.right.right.right
theorem Has.r5{T U V:ab}(h:Has w (P*(Q*(R*(T*(U*V)))))):Has w V:=h.right.right.right.right.right
theorem Has.swap(h:Has w (P*Q)):Has w (Q*P):=cF P Q▸h
theorem Has.a1(h:Has w ((P*Q)*R)):Has w (P*(Q*R)):=aX P Q R▸h
theorem Has.a2(h:Has w (P*(Q*R))):Has w ((P*Q)*R):=by rw[aX];exact h
theorem Has.p2(h:Has w (P*(Q*R))):Has w (Q*(P*R)):=ay P Q R▸h
theorem Has.imp_left(h:Has w (P*R))(i:∀x,P x→Q x):Has w (Q*R):=h.imp fun _ ⟨h1,h2,d,e,p,q⟩=>⟨h1,h2,d,e,i _ p,q⟩
theorem dd{p:Prop}:Has w (eY p*P)↔p∧Has w P:=by
 constructor
 ·intro h
  refine⟨?_,h.right⟩;obtain⟨_,_,h1,_,_,_,⟨hp,_⟩,_⟩:=h;exact hp
 ·rintro⟨hp,x,s,q⟩
  exact⟨x,s,emp,x,fun b=> .inl rfl,by funext b;simp[union,emp],⟨hp,rfl⟩,q⟩
theorem wB{α:Type}(F:α→ab):ex F*P=ex fun x=>F x*P:=by
 funext h
 apply propext;constructor
 ·rintro⟨h1,h2,d,e,⟨x,p⟩,q⟩
  exact⟨x,h1,h2,d,e,p,q⟩
 ·rintro⟨x,h1,h2,d,e,p,q⟩
  exact⟨h1,h2,d,e,⟨x,p⟩,q⟩
theorem yq{α:Type}{F:α→ab}:Has w (ex F)↔∃x,Has w (F x):=by
 constructor
 ·rintro⟨h,s,x,p⟩
  exact⟨x,h,s,p⟩
 ·rintro⟨x,h,s,p⟩
  exact⟨h,s,x,p⟩
theorem aF{α:Type}{F:α→ab}:Has w (ex F*P)↔∃x,Has w (F x*P):=by rw[wB,yq]
theorem Has.heap{b:Nat}{cs:Array I}{t:TypeId}(h:Has w (aa b cs t*R)):w.heap[b]? =G (.cells cs t (0,0)):=by
 obtain⟨_,s,h1,h2,d,rfl,rfl,q⟩:=h;exact s b _ (by simp[union,single])
theorem Has.lt{b:Nat}{cs:Array I}{t:TypeId}(h:Has w (aa b cs t*R)):b<w.heap.size:=(Array.getElem?_eq_some_iff.1 h.heap).1
theorem Has.cell{b:Nat}{cs:Array I}{t:TypeId}(h:Has w (aa b cs t*R))(i:Nat):w.cell? (Z b i J)=cs[i]? :=cell_of_row w b i cs t (0,0) h.heap
theorem Has.free{b:Nat}{cs:Array I}{t:TypeId}(h:Has w (aa b cs t*R))(i:Nat):w.frozen? (Z b i J)=E:=by
 have:=h.heap;simp[World.frozen?,this]
theorem Has.ne{b b':Nat}{cs cs':Array I}{t t':TypeId}(h:Has w (aa b cs t*(aa b' cs' t'*R))):b≠b':=by
 rintro rfl;obtain⟨_,s,h1,h2,d,rfl,rfl,h3,h4,d',rfl,rfl,q⟩:=h;rcases d b with e|e<;>simp[single,union] at e
theorem Has.cells4{b:Nat}{v0 v1 v2 v3:I}{t:TypeId}(h:Has w (aa b #[v0,v1,v2,v3] t*R)):
  w.cell? (Z b 0 J)=G v0∧w.cell? (Z b 1 J)=G v1∧w.cell? (Z b 2 J)=G v2∧w.cell? (Z b 3 J)=G v3:=
 ⟨h.cell 0,h.cell 1,h.cell 2,h.cell 3⟩
theorem Has.drop3{A B X O:ab}(h:Has w (A*(B*(X*O)))):Has w (A*(B*O)):=
 (h.eq (show _=X*(A*(B*O)) by simp only[ay])).right
theorem Has.drop4{A B C X O:ab}(h:Has w (A*(B*(C*(X*O))))):Has w (A*(B*(C*O))):=
 (h.eq (show _=X*(A*(B*(C*O))) by simp only[ay])).right
theorem Has.frees4{b:Nat}{v0 v1 v2 v3:I}{t:TypeId}(h:Has w (aa b #[v0,v1,v2,v3] t*R)):
  w.frozen? (Z b 0 J)=E∧w.frozen? (Z b 1 J)=E∧w.frozen? (Z b 2 J)=E∧w.frozen? (Z b 3 J)=E:=
 ⟨h.free 0,h.free 1,h.free 2,h.free 3⟩
theorem Has.frees3{b:Nat}{v0 v1 v2:I}{t:TypeId}(h:Has w (aa b #[v0,v1,v2] t*R)):
  w.frozen? (Z b 0 J)=E∧w.frozen? (Z b 1 J)=E∧w.frozen? (Z b 2 J)=E:=
 ⟨h.free 0,h.free 1,h.free 2⟩
theorem Has.cells6{b:Nat}{v0 v1 v2 v3 v4 v5:I}{t:TypeId}(h:Has w (aa b #[v0,v1,v2,v3,v4,v5] t*R)):
  w.cell? (Z b 0 J)=G v0∧w.cell? (Z b 1 J)=G v1∧w.cell? (Z b 2 J)=G v2∧w.cell? (Z b 3 J)=G v3∧w.cell? (Z b 4 J)=G v4∧w.cell? (Z b 5 J)=G v5:=
 ⟨h.cell 0,h.cell 1,h.cell 2,h.cell 3,h.cell 4,h.cell 5⟩
theorem Has.cells5{b:Nat}{v0 v1 v2 v3 v4:I}{t:TypeId}(h:Has w (aa b #[v0,v1,v2,v3,v4] t*R)):
  w.cell? (Z b 0 J)=G v0∧w.cell? (Z b 1 J)=G v1∧w.cell? (Z b 2 J)=G v2∧w.cell? (Z b 3 J)=G v3∧w.cell? (Z b 4 J)=G v4:=
 ⟨h.cell 0,h.cell 1,h.cell 2,h.cell 3,h.cell 4⟩
theorem Has.cells3{b:Nat}{v0 v1 v2:I}{t:TypeId}(h:Has w (aa b #[v0,v1,v2] t*R)):
  w.cell? (Z b 0 J)=G v0∧w.cell? (Z b 1 J)=G v1∧w.cell? (Z b 2 J)=G v2:=
 ⟨h.cell 0,h.cell 1,h.cell 2⟩
theorem Has.cells2{b:Nat}{v0 v1:I}{t:TypeId}(h:Has w (aa b #[v0,v1] t*R)):
  w.cell? (Z b 0 J)=G v0∧w.cell? (Z b 1 J)=G v1:=
 ⟨h.cell 0,h.cell 1⟩
theorem Has.cells9{b:Nat}{v0 v1 v2 v3 v4 v5 v6 v7 v8:I}{t:TypeId}(h:Has w (aa b #[v0,v1,v2,v3,v4,v5,v6,v7,v8] t*R)):
  w.cell? (Z b 0 J)=G v0∧w.cell? (Z b 1 J)=G v1∧w.cell? (Z b 2 J)=G v2∧w.cell? (Z b 3 J)=G v3∧w.cell? (Z b 4 J)=G v4∧w.cell? (Z b 5 J)=G v5∧
   w.cell? (Z b 6 J)=G v6∧w.cell? (Z b 7 J)=G v7∧w.cell? (Z b 8 J)=G v8:=
 ⟨h.cell 0,h.cell 1,h.cell 2,h.cell 3,h.cell 4,h.cell 5,h.cell 6,h.cell 7,h.cell 8⟩
theorem Has.upd{b:Nat}{cs:Array I}{t:TypeId}(h:Has w (aa b cs t*R)){cs':Array I}{t':TypeId}
  (hb:w'.heap[b]? =G (.cells cs' t' (0,0))) (ho:∀k,k<w.heap.size→k≠b→w'.heap[k]? =w.heap[k]?):Has w' (aa b cs' t'*R):=by
 obtain⟨_,s,h1,h2,d,rfl,rfl,q⟩:=h;refine⟨union (single b (.cells cs' t' (0,0))) h2,?_,_,_,?_,rfl,rfl,q⟩
 ·refine sub_union ?_ ?_
  ·intro k o e
   simp only[single] at e;split at e
   ·rename_i hk;subst hk;simp at e;subst e;exact hb
   ·cases e
  ·intro k o e
   have hk:k≠b:=by
    rintro rfl;rcases d k with e'|e'
    ·simp[single] at e'
    ·rw[e'] at e;cases e
   have h0:=sub_union_right d s k o e;have hlt:k<w.heap.size:=(Array.getElem?_eq_some_iff.1 h0).1;show w'.heap[k]? =G o;rw[ho k hlt hk];exact h0
 ·intro k
  rcases d k with e|e
  ·left;simp only[single] at e⊢;split at e<;>simp_all
  ·right;exact e
theorem Has.keep(h:Has w P)(ho:∀k,k<w.heap.size→w'.heap[k]? =w.heap[k]?):Has w' P:=by
 obtain⟨x,s,p⟩:=h;refine⟨x,fun k o e=> ?_,p⟩;have h0:=s k o e;have hlt:k<w.heap.size:=(Array.getElem?_eq_some_iff.1 h0).1;show w'.heap[k]? =G o;rw[ho k hlt];exact h0
theorem Has.below(h:Has w P)(hb:Below w.heap.size w w'):Has w' P:=h.keep hb.block
theorem Has.drew(h:Has w P):Has w.drew P:=h
theorem Has.alloc(h:Has w P)(o:Obj):Has (w.alloc o) P:=h.keep fun k hk=>Below.heap_alloc w o k hk
theorem Has.set{b:Nat}{cs:Array I}{t:TypeId}(h:Has w (aa b cs t*R))(i:Nat)(v:I):
  Has (w.setCell (Z b i J) v) (aa b (cs.setIfInBounds i v) t*R):=
 h.upd (by have:=h.heap;simp[World.setCell,Array.getElem?_modify,this]) fun k _ hk=>Below.heap_setCell w _ v k hk
theorem Has.set4{b:Nat}{v0 v1 v2 v3:I}{t:TypeId}(h:Has w (aa b #[v0,v1,v2,v3] t*R))(u0 u1 u2 u3:I):
  Has ((((w.setCell (Z b 0 J) u0).setCell (Z b 1 J) u1).setCell (Z b 2 J) u2).setCell (Z b 3 J) u3) (aa b #[u0,u1,u2,u3] t*R):=
 (((h.set 0 u0).set 1 u1).set 2 u2).set 3 u3
theorem Has.set3{b:Nat}{v0 v1 v2:I}{t:TypeId}(h:Has w (aa b #[v0,v1,v2] t*R))(u0 u1 u2:I):
  Has (((w.setCell (Z b 0 J) u0).setCell (Z b 1 J) u1).setCell (Z b 2 J) u2) (aa b #[u0,u1,u2] t*R):=((h.set 0 u0).set 1 u1).set 2 u2
theorem Has.new(h:Has w P)(cs:Array I)(t:TypeId):Has (w.alloc (.cells cs t)) (aa w.heap.size cs t*P):=by
 obtain⟨x,s,p⟩:=h;have hx:x w.heap.size=J:=by
  cases e:x w.heap.size with
  |none=>rfl
  |some o=>
   have h0:=s _ _ e;have hlt:w.heap.size<w.heap.size:=(Array.getElem?_eq_some_iff.1 h0).1;omega
 refine⟨union (single w.heap.size (.cells cs t (0,0))) x,?_,_,_,?_,rfl,rfl,p⟩
 ·refine sub_union ?_ ?_
  ·intro k o e
   simp only[single] at e;split at e
   ·rename_i hk;subst hk;simp at e;subst e;exact heap_alloc_new w _
   ·cases e
  ·intro k o e
   have h0:=s k o e;have hlt:k<w.heap.size:=(Array.getElem?_eq_some_iff.1 h0).1;show(w.alloc _).heap[k]? =G o;rw[Below.heap_alloc w _ k hlt];exact h0
 ·intro k
  by_cases hk:k=w.heap.size
  ·right;rw[hk];exact hx
  ·left;simp[single,hk]
theorem aT(w:M):Has w (bE w w.heap.size):=
 ⟨_,fun b o e=>by dsimp only at e⊢;split at e<;>simp_all,rfl⟩
theorem Has.oldAt{w0:M}{B:Nat}(h:Has w (bE w0 B*R)){b:Nat}(hb:b<B)(hB:B≤w0.heap.size):w.heap[b]? =w0.heap[b]? :=by
 obtain⟨_,s,h1,h2,d,rfl,rfl,q⟩:=h;have hlt:b<w0.heap.size:=by omega
 have:(fun b=>if b<B then w0.heap[b]? else J) b=G w0.heap[b]:=by simp[hb,hlt]
 have h0:w.heap[b]? =G w0.heap[b]:=s b w0.heap[b] (by simp only[union,this];simp);rw[h0];simp[hlt]
theorem Has.oldCell{w0:M}(h:Has w (bE w0 w0.heap.size*R)){a:af}(hb:a.block<w0.heap.size):w.cell? a=w0.cell? a:=
 World.cell?_of_block (w:=w0) (h.oldAt hb (Nat.le_refl _))
theorem Has.oldCell'{w0:M}(h:Has w (bE w0 w0.heap.size*R)){a:af}{v:I}(hb:w0.cell? a=G v):w.cell? a=G v:=
 (h.oldCell (World.block_lt_of_cell? w0 a hb)).trans hb
end
structure Ext (w w':M):Prop where
 os:w'.os=w.os
 tape:w'.tape=w.tape
 output:w'.output=w.output
 size:w.heap.size≤w'.heap.size
theorem Ext.refl(w:M):Ext w w:=⟨rfl,rfl,rfl,Nat.le_refl _⟩
theorem Ext.trans{a b c:M}(h:Ext a b)(k:Ext b c):Ext a c:=⟨k.os.trans h.os,k.tape.trans h.tape,k.output.trans h.output,Nat.le_trans h.size k.size⟩
theorem Ext.drew{a w:M}(h:Ext a w):Ext a w.drew:=⟨h.os,h.tape,h.output,h.size⟩
theorem Ext.drewN{a w:M}(h:Ext a w)(n:Nat):Ext a (w.drewN n):=⟨h.os,h.tape,h.output,h.size⟩
theorem Ext.alloc{a w:M}(h:Ext a w)(o:Obj):Ext a (w.alloc o):=⟨h.os,h.tape,h.output,Nat.le_trans h.size (by simp)⟩
theorem Ext.set{a w:M}(h:Ext a w)(p:af)(v:I):Ext a (w.setCell p v):=⟨h.os,h.tape,h.output,by simpa [World.setCell] using h.size⟩
theorem Ext.below{a w w':M}{B:Nat}(h:Ext a w)(k:Below B w w'):Ext a w':=h.trans ⟨k.os,k.tape,k.output,k.size⟩
theorem ah{w w':M}(h:Ext w w':=by(repeat(first|with_reducible assumption|with_reducible exact Ext.refl _|with_reducible refine Ext.set ?_ _ _|with_reducible refine Ext.alloc ?_ _|with_reducible refine Ext.drew ?_ |with_reducible refine Ext.drewN ?_ _|assumption|exact Ext.refl _|refine Ext.alloc ?_ _|refine Ext.set ?_ _ _|refine Ext.drew ?_ |refine Ext.drewN ?_ _|refine Ext.below ?_ (by assumption)|refine Ext.trans ?_ (by assumption)))):Ext w w':=h
theorem Ext.grown{a w w':M}{ct:Option Nat}(h:Ext a w)(k:w.grownBy w' ct):Ext a w':=h.trans ⟨k.os,k.tape,k.output,k.size⟩
theorem uC{w0 w:M}{R:ab}(h:Has w (bE w0 w0.heap.size*R))(e:Ext w0 w):Below w0.heap.size w0 w:=
 ⟨e.os,e.tape,e.output,e.size,fun _ hk=>h.oldAt hk (Nat.le_refl _)⟩
theorem ar{w0 w:M}(h:Has w (bE w0 w0.heap.size))(e:Ext w0 w):Below w0.heap.size w0 w:=
 uC (R:=eY True) (Has.swap (dd.2 ⟨trivial,h⟩)) e
def cR(v:I)(Q:ab)(w:M)(e:Ending)(w':M):Prop:=e= .returned v∧Has w' Q∧Ext w w'
def Pure(v:I)(w:M)(e:Ending)(w':M):Prop:=e= .returned v∧Below w.heap.size w w'
def Same(v:I)(w:M)(e:Ending)(w':M):Prop:=e= .returned v∧w=w'
def ct(e size:Nat)(v:I)(n:Nat)(xs:List I):ab:=fun h=>
 xs.length=n*size∧
 ((v= .slice J 0 0∧n=0∧h=emp)∨
  ∃g cap cur,v= .slice (G (Z g 0 J)) n cap∧n≤cap∧cap≤maxLen∧cur.size=cap*size∧cur.toList.take (n*size)=xs∧aa g cur e h)
section
variable {w w':M} {P Q R S:ab} {e size:Nat} {v:I} {n:Nat} {xs:List I}
theorem Has.ownsRow(h:Has w (ct e size v n xs*R)):w.ownsRow 0 e size v n xs:=by
 obtain⟨_,s,h1,h2,d,rfl,⟨hl,h0|⟨g,cap,cur,rfl,hn,hc,hs,ht,rfl⟩⟩,q⟩:=h
 ·exact⟨hl,.inl ⟨h0.1,h0.2.1⟩⟩
 ·exact⟨hl,.inr ⟨g,cap,cur,rfl,Nat.zero_le _,s g _ (by simp[union,single]),hn,hc,hs,ht⟩⟩
theorem Has.rowNil(h:Has w R):Has w (ct e size (.slice J 0 0) 0 []*R):=by
 obtain⟨x,s,q⟩:=h;exact⟨x,s,emp,x,fun _=> .inl rfl,by funext b;simp[union,emp],⟨by simp,.inl ⟨rfl,rfl,rfl⟩⟩,q⟩
theorem Has.rowCases(h:Has w (ct e size v n xs*R)):
  (v= .slice J 0 0∧n=0∧xs=[]∧Has w R)∨
  ∃g cap cur,v= .slice (G (Z g 0 J)) n cap∧n≤cap∧cap≤maxLen∧cur.size=cap*size∧cur.toList.take (n*size)=xs∧Has w (aa g cur e*R):=by
 have hr:=h.right;obtain⟨_,s,h1,h2,d,rfl,⟨hl,h0|⟨g,cap,cur,rfl,hn,hc,hs,ht,hb⟩⟩,q⟩:=h
 ·obtain⟨rfl,rfl,rfl⟩:=h0
  exact .inl ⟨rfl,rfl,by simpa using hl,hr⟩
 ·exact .inr ⟨g,cap,cur,rfl,hn,hc,hs,ht,_,s,h1,h2,d,rfl,hb,q⟩
theorem Has.rowOf{g cap:Nat}{cur:Array I}(h:Has w (aa g cur e*R))(hl:xs.length=n*size)(hn:n≤cap)(hc:cap≤maxLen)(hs:cur.size=cap*size)
  (ht:cur.toList.take (n*size)=xs):Has w (ct e size (.slice (G (Z g 0 J)) n cap) n xs*R):=
 h.imp_left fun _ hb=>⟨hl,.inr ⟨g,cap,cur,rfl,hn,hc,hs,ht,hb⟩⟩
theorem Has.rowGrown{v':I}{n':Nat}{xs':List I}(h:Has w (ct e size v n xs*R)){base:Nat}(ho:w'.ownsRow base e size v' n' xs')(hg:w.grownBy w' v.ownBlock)
  (hb:v'.ownBlock=v.ownBlock∨∀k,v'.ownBlock=G k→w.heap.size≤k):Has w' (ct e size v' n' xs'*R):=by
 rcases ho.2 with ⟨rfl,rfl⟩|⟨g,cap,cur,rfl,_,hh,hn,hc,hs,ht⟩
 ·have hx:xs'=[]:=by simpa using ho.1
  subst hx;refine Has.rowNil ?_;rcases h.rowCases with ⟨rfl,_,_,hR⟩|⟨g,cap,cur,rfl,_,_,_,_,hB⟩
  ·exact hR.keep fun k hk=>hg.block k hk (by simp[Value.ownBlock])
  ·have hgl:=hB.lt
   have hk:=(hB.upd (w':=w.setRow g cur) (cs':=cur) (t':=e) (setRow_heap w g cur cur e (0,0) hB.heap) (fun k _ hk=>setRow_other w g k cur hk));clear hk;obtain⟨_,s,h1,h2,d,rfl,rfl,q⟩:=hB;refine⟨h2,fun k o hk=> ?_,q⟩;have hne:k≠g:=by
    rintro rfl;rcases d k with e'|e'
    ·simp[single] at e'
    ·rw[e'] at hk;cases hk
   have h0:=sub_union_right d s k o hk;have hlt:k<w.heap.size:=(Array.getElem?_eq_some_iff.1 h0).1;show w'.heap[k]? =G o;rw[hg.block k hlt (by simp[Value.ownBlock,hne])];exact h0
 ·refine Has.rowOf (g:=g) (cap:=cap) (cur:=cur) ?_ ho.1 hn hc hs ht
  rcases h.rowCases with ⟨rfl,_,_,hR⟩|⟨g0,cap0,cur0,rfl,_,_,_,_,hB⟩
  ·
   have hge:w.heap.size≤g:=by
    rcases hb with hb|hb
    ·simp[Value.ownBlock] at hb
    ·exact hb g rfl
   obtain⟨x,s,q⟩:=hR;refine⟨union (single g (.cells cur e (0,0))) x,?_,_,_,?_,rfl,rfl,q⟩
   ·refine sub_union ?_ ?_
    ·intro k o hk
     simp only[single] at hk;split at hk
     ·rename_i hkk;subst hkk;simp at hk;subst hk;exact hh
     ·cases hk
    ·intro k o hk
     have h0:=s k o hk;have hlt:k<w.heap.size:=(Array.getElem?_eq_some_iff.1 h0).1;show w'.heap[k]? =G o;rw[hg.block k hlt (by simp[Value.ownBlock])];exact h0
   ·intro k
    by_cases hk:k=g
    ·right
     cases hx:x k with
     |none=>rfl
     |some o=>
      have h0:=s _ _ hx;have hlt:k<w.heap.size:=(Array.getElem?_eq_some_iff.1 h0).1;omega
    ·left;simp[single,hk]
  ·by_cases hgg:g=g0
   ·subst hgg
    exact hB.upd hh fun k hk hne=>hg.block k hk (by simp[Value.ownBlock,hne])
   ·have hge:w.heap.size≤g:=by
     rcases hb with hb|hb
     ·simp[Value.ownBlock] at hb;exact absurd hb hgg
     ·exact hb g rfl
    obtain⟨_,s,h1,h2,d,rfl,rfl,q⟩:=hB;refine⟨union (single g (.cells cur e (0,0))) h2,?_,_,_,?_,rfl,rfl,q⟩
    ·refine sub_union ?_ ?_
     ·intro k o hk
      simp only[single] at hk;split at hk
      ·rename_i hkk;subst hkk;simp at hk;subst hk;exact hh
      ·cases hk
     ·intro k o hk
      have hne:k≠g0:=by
       rintro rfl;rcases d k with e'|e'
       ·simp[single] at e'
       ·rw[e'] at hk;cases hk
      have h0:=sub_union_right d s k o hk;have hlt:k<w.heap.size:=(Array.getElem?_eq_some_iff.1 h0).1;show w'.heap[k]? =G o;rw[hg.block k hlt (by simp[Value.ownBlock,hne])];exact h0
    ·intro k
     by_cases hk:k=g
     ·right
      cases hx:h2 k with
      |none=>rfl
      |some o=>
       have h0:=sub_union_right d s _ _ hx;have hlt:k<w.heap.size:=(Array.getElem?_eq_some_iff.1 h0).1;omega
     ·left;simp[single,hk]
end
structure jD (P:Program) (e:TypeId) (z:I) (size bytes:Nat):Prop where
 info:(P.info? e).map (fun i=>(i.zero,i.size,i.bytes))=G (G z,size,bytes)
 cells:z.cells.size=size
 pos:0<size
section
variable {P:Program} {w:M} {R:ab}
theorem io{t ty e:TypeId}{z:I}{size bytes:Nat}(hT:P.underlying t=G (.slice e))(hE:jD P e z size bytes)
  (v:I) (n:Nat) (xs:List I) (h:Has w (ct e size v n xs*R))
  (ad:af) (m c:Nat) (news:List I) (hl:news.length=m*size) (hnews:∀j u,news[j]? =G u→w.cell? (ad.add j)=G u) (h1:∀u∈news,u.oneCell'=H)
  (h63:n+m≤maxLen) (hbytes:(n+m)*bytes≤140737488355328):
  ∃v' w',(Builtin.append_ #[t,t] ty #[v,.slice (G ad) m c]).run P w= .ok v' w'∧Has w' (ct e size v' (n+m) (xs++news)*R)∧Ext w w':=by
 obtain⟨i,hi,hz,hs,hb⟩:=info_parts hE.info;obtain⟨v',w',hr,ho,hg,_,hbk⟩:=run_append_own_at (P:=P) w 0 t ty e i z size bytes hT hi hz hs hb hE.cells hE.pos v n xs h.ownsRow ad m c news hl hnews h1 h63 hbytes (Nat.zero_le _);refine⟨v',w',hr,h.rowGrown ho hg ?_,(Ext.refl w).grown hg⟩;rcases hbk with hbk|hbk
 ·exact .inl hbk
 ·exact .inr fun k hk=>by rw[hbk] at hk;injection hk with hk;omega
theorem nD{o:Oper}{a:Act}{K:Act→M→Prop}{Q:Exit→Act→M→Prop}(s x:Operand)(t:TypeId)
  (ho:o.op= .call {callee:= .builtin .append,args:= #[s,x],argTypes:= #[t,t]}) {e:TypeId} {z:I} {size bytes:Nat} (hT:P.underlying t=G (.slice e)) (hE:jD P e z size bytes)
  (v:I) (n:Nat) (xs:List I) (hs:a.eval s=v) (h:Has w (ct e size v n xs*R))
  (ad:af) (m c:Nat) (news:List I) (hx:a.eval x= .slice (G ad) m c) (hl:news.length=m*size) (hnews:∀j u,news[j]? =G u→w.cell? (ad.add j)=G u) (h1:∀u∈news,u.oneCell'=H)
  (h63:n+m≤maxLen) (hbytes:(n+m)*bytes≤140737488355328)
  (hk:∀v' w',Has w' (ct e size v' (n+m) (xs++news)*R)→Ext w w'→K (a.put o.dst v') w'):o.wp P a w K Q:=by
 obtain⟨v',w',hr,h2,h3⟩:=io (ty:=o.type) hT hE v n xs h ad m c news hl hnews h1 h63 hbytes;unfold Oper.wp execOp;simp only[ho,resolve,invoke,builtin,Sem.run_bind,Sem.run_pure,Result.andThen_ok,List.map_toArray,List.map_cons,List.map_nil,hs,hx,hr];exact hk v' w' h2 h3
theorem aV{ops:Array Oper}{rest:List Oper}{o:Oper}{a:Act}{Q:Exit→Act→M→Prop}(hgd:o.guard=J)(s x:Operand)(t:TypeId)
  (ho:o.op= .call {callee:= .builtin .append,args:= #[s,x],argTypes:= #[t,t]}) {e:TypeId} {z:I} {size bytes:Nat} (hT:P.underlying t=G (.slice e)) (hE:jD P e z size bytes)
  (v:I) (n:Nat) (xs:List I) (hs:a.eval s=v) (h:Has w (ct e size v n xs*R))
  (ad:af) (m c:Nat) (news:List I) (hx:a.eval x= .slice (G ad) m c) (hl:news.length=m*size) (hnews:∀j u,news[j]? =G u→w.cell? (ad.add j)=G u) (h1:∀u∈news,u.oneCell'=H)
  (h63:n+m≤maxLen) (hbytes:(n+m)*bytes≤140737488355328)
  (hk:∀v' w',Has w' (ct e size v' (n+m) (xs++news)*R)→Ext w w'→wpList P ops Q rest (a.put o.dst v') w'):wpList P ops Q (o::rest) a w:=
 wpList_plain hgd fun _ hK=>nD s x t ho hT hE v n xs hs h ad m c news hx hl hnews h1 h63 hbytes fun v' w' h2 h3=>hK _ _ (hk v' w' h2 h3)
theorem dU(w:M)(u:I)(e:TypeId):∀j x,([u]:List I)[j]? =G x→(w.alloc (.cells #[u] e)).cell? (((Z w.heap.size 0 J):af).add j)=G x:=by
 intro j x hj;match j,hj with
 |0,hj=>simp at hj;subst hj;rw[show(((Z w.heap.size 0 J):af).add 0)=(Z w.heap.size 0 J) from rfl,cell_of_row _ _ 0 #[u] e (0,0) (heap_alloc_new w _)];rfl
theorem eC(w:M)(us:List I)(e:TypeId):∀j x,us[j]? =G x→(w.alloc (.cells us.toArray e)).cell? (((Z w.heap.size 0 J):af).add j)=G x:=by
 intro j x hj;have e1:(((Z w.heap.size 0 J):af).add j)=(Z w.heap.size j J):=by unfold Addr.add;split<;>simp_all
 rw[e1,cell_of_row _ _ j us.toArray e (0,0) (heap_alloc_new w _)];simpa using hj
end
def Rd(w:M)(A:Option af)(n:Nat)(xs:List I):Prop:=
 xs.length=n∧n≤9223372036854775807∧∀j u,xs[j]? =G u→∃b off,A=G (Z b off J)∧b<w.heap.size∧w.cell? ⟨b,off+j,J⟩=G u
theorem Rd.at_{w:M}{A:Option af}{n j:Nat}{xs:List I}{u:I}(h:Rd w A n xs)(hu:xs[j]? =G u):∃b off,A=G (Z b off J)∧b<w.heap.size∧w.cell? ⟨b,off+j,J⟩=G u:=h.2.2 j u hu
theorem Has.rowForm{w:M}{R:ab}{e size:TypeId}{v:I}{n:Nat}{xs:List I}(h:Has w (ct e size v n xs*R)):∃A c,v= .slice A n c:=by
 rcases h.rowCases with ⟨hv,rfl,_,_⟩|⟨g,cap,cur,hv,_⟩
 ·exact⟨_,_,hv⟩
 ·exact⟨_,_,hv⟩
def Arr(w:M)(A:Option af)(n size:Nat)(ls:List (List I)):Prop:=
 ls.length=n∧n≤9223372036854775807∧∀i xs,ls[i]? =G xs→∃b off,A=G (Z b off J)∧b<w.heap.size∧∀j u,xs[j]? =G u→w.cell? ⟨b,off+i*size+j,J⟩=G u
theorem Arr.at_{w:M}{A:Option af}{n size i:Nat}{ls:List (List I)}{xs:List I}(h:Arr w A n size ls)(hi:ls[i]? =G xs):
  ∃b off,A=G (Z b off J)∧b<w.heap.size∧∀j u,xs[j]? =G u→w.cell? ⟨b,off+i*size+j,J⟩=G u:=h.2.2 i xs hi
theorem Arr.old{w0 w:M}{R:ab}{A:Option af}{n size:Nat}{ls:List (List I)}(h:Arr w0 A n size ls)(ho:Has w (bE w0 w0.heap.size*R))(e:Ext w0 w):Arr w A n size ls:=
 ⟨h.1,h.2.1,fun i xs hi=>by
  obtain⟨b,off,ha,hb,hc⟩:=h.2.2 i xs hi;exact⟨b,off,ha,Nat.lt_of_lt_of_le hb e.size,fun j u hu=>ho.oldCell' (hc j u hu)⟩⟩
theorem Has.one{w:M}{P:ab}(h:Has w P):Has w (P*eY True):=Has.swap (dd.2 ⟨trivial,h⟩)
theorem Arr.old1{w0 w:M}{A:Option af}{n size:Nat}{ls:List (List I)}(h:Arr w0 A n size ls)(ho:Has w (Go.Proofs.YtmfheghbgihdmaaGreat.bE w0 w0.heap.size))(e:Ext w0 w):Arr w A n size ls:=h.old ho.one e
open Classical in
noncomputable def gU (w u:M):M:=if Below w.heap.size w u then u else w
theorem aE(w u:M):Below w.heap.size w (gU w u):=by
 unfold gU;split
 ·assumption
 ·exact Below.refl _ _
theorem uD{w u:M}(h:Below w.heap.size w u):∃x,u=gU w x:=⟨u,by unfold gU;rw[if_pos h]⟩
theorem ae{w:M}{a:af}{v:I}(h:w.cell? a=G v)(u:M):(gU w u).cell? a=G v:=
 ((aE w u).cell (World.block_lt_of_cell? w a h)).trans h
theorem au{P:Program}{id:Nat}{Q:Exit→Act→M→Prop}{a:Act}{w:M}{l:List Oper}(hm:P.follows .mixedOrders =H)(hB:Region.lexB .any l.toArray=H)
  (h:wpQuiet P l.toArray (fun w'=>∃u,w'=gU w u) (fun a'=>∀w',(∃u,w'=gU w u)→Q .normal a' w') l a):(Code.region id l.toArray H).wp P Q a w:=
 wp_region_quiet (C:=fun w'=>∃u,w'=gU w u) hm hB (uD ⟨rfl,rfl,rfl,Nat.le_refl _,fun _ _=>rfl⟩) (by simpa using h)
theorem Pure.via{P:Program}{f:FuncId}{args:Array I}{w u:M}{v:I}(h:ag P f args (gU w u) (Pure v (gU w u))):
  ag P f args (Go.Proofs.YtmfheghbgihdmaaGreat.gU w u) fun e w''=>e= .returned v∧∃x,w''=Go.Proofs.YtmfheghbgihdmaaGreat.gU w x:=
 h.mono fun _ _ ⟨he,hw⟩=>⟨he,uD ((aE w u).trans (hw.mono (aE w u).size))⟩
theorem Same.via{P:Program}{f:FuncId}{args:Array I}{w u:M}{v:I}(h:ag P f args (gU w u) (Same v (gU w u))):
  ag P f args (Go.Proofs.YtmfheghbgihdmaaGreat.gU w u) fun e w''=>e= .returned v∧∃x,w''=Go.Proofs.YtmfheghbgihdmaaGreat.gU w x:=
 h.mono fun _ _ ⟨he,hw⟩=>⟨he,u,hw.symm⟩
theorem Has.via{w:M}{P:ab}(h:Has w P)(u:M):Has (gU w u) P:=h.below (aE w u)
def bo(N:Nat)(f:Nat→I):Array I:=(Array.range N).map f
theorem nT(N:Nat)(f:Nat→I):(bo N f).size =N:=by simp[bo]
theorem jE{N j:Nat}{f:Nat→I}(h:j<N):(bo N f)[j]? =G (f j):=by simp[bo,h]
theorem jF{N:Nat}{f g:Nat→I}(h:∀j,j<N→f j=g j):bo N f=bo N g:=by
 unfold bo;apply Array.ext
 ·simp
 ·intro i h1 h2
  simp at h1;simp[h i h1]
def bT{α:Type}(f:Nat→α)(j:Nat)(v:α):Nat→α:=fun i=>if i=j then v else f i
theorem lr{α:Type}(f:Nat→α)(j:Nat)(v:α):bT f j v j=v:=by simp[bT]
theorem iE{α:Type}(f:Nat→α){i j:Nat}(v:α)(h:i≠j):bT f j v i=f i:=by simp[bT,h]
theorem uE(N:Nat)(f:Nat→I)(j:Nat)(v:I):(bo N f).setIfInBounds j v=bo N (bT f j v):=by
 apply Array.ext
 ·simp[bo]
 ·intro i h1 h2
  have hi:i<N:=by simpa [bo] using h2
  have e1:((bo N f).setIfInBounds j v)[i]? =G (bT f j v i):=by
   rw[Array.getElem?_setIfInBounds];by_cases h:j=i
   ·subst h
    simp[nT,hi,bT]
   ·rw[if_neg h,jE hi,iE _ _ (fun e=>h e.symm)]
  have e2:=jE (f:=bT f j v) hi;rw[Array.getElem?_eq_getElem h1] at e1;rw[Array.getElem?_eq_getElem h2] at e2;exact Option.some.inj (e1.trans e2.symm)
theorem sS(z:Array I)(N:Nat):madeCells z N=bo N (fun j=>z[j % z.size]!):=rfl
section
variable {w w':M} {R:ab} {g e N:Nat} {f:Nat→I}
theorem Has.tabGet(h:Has w (aa g (bo N f) e*R)){j:Nat}(hj:j<N):w.cell? (Z g j J)=G (f j):=by rw[h.cell,jE hj]
theorem Has.tabSet(h:Has w (aa g (bo N f) e*R))(j:Nat)(v:I):Has (w.setCell (Z g j J) v) (aa g (bo N (bT f j v)) e*R):=by
 have:=h.set j v;rwa [uE] at this
theorem Has.tabExt{f':Nat→I}(h:Has w (aa g (bo N f) e*R))(he:∀j,j<N→f j=f' j):Has w (aa g (bo N f') e*R):=jF he▸h
theorem Has.rowHead{v:I}{n:Nat}{xs:List I}(h:Has w (ct e 1 v (n+1) xs*R)):
  ∃g cap,v= .slice (G (Z g 0 J)) (n+1) cap∧n+1≤cap∧cap≤maxLen∧g<w.heap.size∧∀x,xs[n]? =G x→w.cell? (Z g n J)=G x:=by
 rcases h.rowCases with ⟨_,h0,_⟩|⟨g,cap,cur,hv,hn,hc,hs,ht,hb⟩
 ·omega
 ·refine⟨g,cap,hv,hn,hc,hb.lt,fun x hx=> ?_⟩
  rw[hb.cell,←hx,←ht];simp
theorem Has.rowPop{n cap:Nat}{xs:List I}(h:Has w (ct e 1 (.slice (G (Z g 0 J)) (n+1) cap) (n+1) xs*R)):Has w (ct e 1 (.slice (G (Z g 0 J)) n cap) n (xs.take n)*R):=by
 rcases h.rowCases with ⟨_,h0,_⟩|⟨g',cap',cur,hv,hn,hc,hs,ht,hb⟩
 ·omega
 ·injection hv with h1 h2 h3
  injection h1 with h1
  injection h1 with h1
  subst h1;subst h3;refine hb.rowOf (xs:=xs.take n) ?_ (by omega) hc hs ?_
  ·rw[←ht]
   simp;omega
  ·rw[←ht]
   simp[List.take_take]
end
theorem Has.in2{w:M}{A B C R:ab}(h:Has w (A*(B*(C*R)))):Has w (A*(C*(B*R))):=h.eq (congrArg _ (ay _ _ _))
theorem Has.in3{w:M}{A B C D R:ab}(h:Has w (A*(B*(C*(D*R))))):Has w (A*(B*(D*(C*R)))):=h.eq (congrArg (fun x=>A*(B*x)) (ay _ _ _))
theorem gV{P:Program}(t e:TypeId)(z:I)(size bytes:Nat)(ht:P.underlying t=G (.slice e))(hinfo:(P.info? e).map (fun i=>(i.zero,i.size,i.bytes))=G (G z,size,bytes))(hz:z.cells.size=size)
  (n:Nat) (hbytes:bytes*n≤281474976710656) (h63:n≤9223372036854775807) (w:M):
  (Instr.makeSlice t (.int .i64 (n:Int)) (.int .i64 (n:Int))).run P w= .ok (.slice (G (Z w.heap.size 0 J)) n n) (w.alloc (.cells (bo (n*size) (fun j=>z.cells[j % size]!)) e)):=by
 obtain⟨i,hi,hzz⟩:=Option.map_eq_some_iff.1 hinfo;simp only[Prod.mk.injEq] at hzz;obtain⟨hz',hs,hb⟩:=hzz;subst hb;have hb':(i.bytes:Int)*(n:Int)≤281474976710656:=by
  have h:((i.bytes*n:Nat):Int)≤281474976710656:=by omega
  rwa [Int.natCast_mul] at h
 have hr:=run_make (P:=P) w t e i z ht hi hz' .i64 .i64 n n (by omega) (Int.le_refl _) hb' (by omega);simp only[Int.toNat_natCast,hs] at hr;rw[hr,sS,hz]
structure Ms where
 n:Nat
 tk:Nat→Bool
 wd:Nat→Nat→Int
 next:Nat
 back:List Nat
theorem dl{l:List Nat}{x:Nat}(h:l.getLast?=G x):l.dropLast++[x]=l:=by
 obtain⟨ys,rfl⟩:=List.getLast?_eq_some_iff.1 h;simp
namespace Ms
def new(n:Nat):Ms:=⟨n,fun _=>E,fun _ _=>0,0,[]⟩
def frees(s:Ms):List Nat:=(List.range' s.next (s.n - s.next)).reverse ++s.back
def top(s:Ms):Option Nat:=match s.back.getLast? with|some k=>G k|none=>if s.next<s.n then G s.next else J
def take(s:Ms)(k:Nat):Ms:={n:=s.n,tk:=bT s.tk k H,wd:=fun a b=>if a=k then 0 else s.wd a b,next:=if s.back=[] then s.next+1 else s.next,back:=s.back.dropLast}
def give(s:Ms)(k:Nat):Ms:={s with tk:=bT s.tk k E,back:=s.back++[k]}
def setW(s:Ms)(k i:Nat)(v:Int):Ms:={s with wd:=fun a b=>if a=k∧b=i then v else s.wd a b}
def has(s:Ms)(k:Int):Bool:=decide (0≤k)&&(decide (k<s.n)&&s.tk k.toNat)
def hasW(s:Ms)(k i:Int):Bool:=s.has k&&(decide (0≤i)&&decide (i<8))
structure Inv (s:Ms):Prop where
 le:s.next≤s.n
 tkl:∀k,s.tk k=H→k<s.next
 nd:s.back.Nodup
 mem:∀k,k∈s.back↔k<s.next∧s.tk k=E
 wok:∀k i,0≤s.wd k i∧s.wd k i<18446744073709551616
theorem frees_new(n:Nat):(new n).frees =(List.range' 0 n).reverse :=by simp[new,frees]
theorem frees_len(s:Ms):s.frees.length=s.n - s.next+s.back.length:=by simp[frees]
theorem frees_give(s:Ms)(k:Nat):(s.give k).frees =s.frees++[k]:=by simp[give,frees]
theorem range'_rev(a m:Nat):(List.range' a (m+1)).reverse =(List.range' (a+1) m).reverse ++[a]:=by
 rw[List.range'_succ,List.reverse_cons]
theorem frees_top(s:Ms):s.frees.getLast?=s.top:=by
 unfold frees top;cases h:s.back.getLast? with
 |some k=>
  have hne:s.back≠[]:=by rintro e;rw[e] at h;cases h
  rw[List.getLast?_append,h];rfl
 |none=>
  have he:s.back=[]:=by simpa using h
  rw[he,List.append_nil];by_cases hlt:s.next<s.n
  ·obtain⟨m,hm⟩:∃m,s.n - s.next=m+1:=⟨s.n - s.next - 1,by omega⟩
   rw[hm,range'_rev];simp[hlt]
  ·have:s.n - s.next=0:=by omega
   rw[this];simp[hlt]
theorem frees_take(s:Ms)(k:Nat)(h:s.top=G k):(s.take k).frees ++[k]=s.frees:=by
 unfold frees take;unfold top at h;cases hb:s.back.getLast? with
 |some k'=>
  rw[hb] at h;obtain rfl:k'=k:=by simpa using h
  have hne:s.back≠[]:=by rintro e;rw[e] at hb;cases hb
  simp only[hne,if_false];rw[List.append_assoc,dl hb]
 |none=>
  have he:s.back=[]:=by simpa using hb
  rw[hb] at h;simp only at h;split at h
  ·rename_i hlt
   obtain rfl:s.next=k:=by simpa using h
   rw[he];obtain⟨m,hm⟩:∃m,s.n - s.next=m+1:=⟨s.n - s.next - 1,by omega⟩;rw[hm,range'_rev];have e2:s.n - (s.next+1)=m:=by omega
   simp[e2]
  ·cases h
theorem top_lt{s:Ms}(i:s.Inv){k:Nat}(h:s.top=G k):k<s.n∧s.tk k=E:=by
 unfold top at h;cases hb:s.back.getLast? with
 |some k'=>
  rw[hb] at h;obtain rfl:k'=k:=by simpa using h
  have:=(i.mem k').1 (List.mem_of_getLast? hb);have:=i.le;refine⟨by omega,?_⟩;exact((i.mem k').1 (List.mem_of_getLast? hb)).2
 |none=>
  rw[hb] at h;simp only at h;split at h
  ·obtain rfl:s.next=k:=by simpa using h
   refine⟨by assumption,?_⟩;cases ht:s.tk s.next with
   |true=>have:=i.tkl _ ht;omega
   |false=>rfl
  ·cases h
theorem has_iff{s:Ms}{k:Int}:s.has k=H↔0≤k∧k<s.n∧s.tk k.toNat=H:=by
 unfold has;simp
theorem has_nat{s:Ms}(i:s.Inv)(k:Nat):s.has k=s.tk k:=by
 unfold has;by_cases h:k<s.n
 ·have h':(k:Int)<s.n:=by omega
  simp[h]
 ·cases ht:s.tk k with
  |false=>simp[ht]
  |true=>have:=i.tkl _ ht;have:=i.le;omega
theorem Inv.new(n:Nat):(Ms.new n).Inv :=⟨Nat.zero_le _,fun k h=>by simp[Ms.new] at h,List.nodup_nil,fun k=>by simp[Ms.new],fun k i=>by simp[Ms.new]⟩
theorem Inv.setW{s:Ms}(i:s.Inv)(k j:Nat){v:Int}(hv:0≤v∧v<18446744073709551616):(s.setW k j v).Inv :=
 ⟨i.le,i.tkl,i.nd,i.mem,fun a b=>by
  unfold Ms.setW;dsimp only;split
  ·exact hv
  ·exact i.wok a b⟩
theorem Inv.give{s:Ms}(i:s.Inv){k:Nat}(hk:s.tk k=H):(s.give k).Inv :=by
 have hlt:=i.tkl k hk;have hn:k ∉ s.back:=fun h=>by rw[((i.mem k).1 h).2] at hk;cases hk
 refine⟨i.le,fun a h=> ?_,?_,fun a=> ?_,i.wok⟩
 ·by_cases e:a=k
  ·rw[e];exact hlt
  ·exact i.tkl a (by simpa [Ms.give,bT,e] using h)
 ·show(s.back++[k]).Nodup
  rw[List.nodup_append];refine⟨i.nd,by simp,fun a ha b hb=> ?_⟩;simp at hb;rintro rfl;exact hn (hb▸ha)
 ·show a∈s.back++[k]↔a<s.next∧bT s.tk k E a=E
  by_cases e:a=k
  ·subst e
   simp[bT,hlt]
  ·simp[bT,e,i.mem a]
theorem dropLast_mem{l:List Nat}{x:Nat}(hx:l.getLast?=G x)(nd:l.Nodup)(a:Nat):a∈l.dropLast↔a∈l∧a≠x:=by
 have e:=dl hx;have nd':=nd;rw[←e] at nd';rw[List.nodup_append] at nd';obtain⟨_,_,n3⟩:=nd';constructor
 ·intro h
  refine⟨(List.dropLast_sublist l).subset h,fun he=> ?_⟩;exact n3 a h x (by simp) he
 ·rintro⟨h,hne⟩
  rw[←e] at h;simpa [hne] using h
theorem Inv.take{s:Ms}(i:s.Inv){k:Nat}(hk:s.top=G k):(s.take k).Inv :=by
 have ht:=top_lt i hk;unfold top at hk;have wok:∀a b,0≤(s.take k).wd a b∧(s.take k).wd a b<18446744073709551616:=fun a b=>by
  unfold Ms.take;dsimp only;split
  ·omega
  ·exact i.wok a b
 cases hb:s.back.getLast? with
 |some k'=>
  rw[hb] at hk;obtain rfl:k'=k:=by simpa using hk
  have hne:s.back≠[]:=by rintro e;rw[e] at hb;cases hb
  have hm:=(i.mem k').1 (List.mem_of_getLast? hb);have en:(s.take k').next =s.next:=by simp[Ms.take,hne]
  refine⟨by rw[en];exact i.le,fun a h=> ?_,List.Sublist.nodup (List.dropLast_sublist _) i.nd,fun a=> ?_,wok⟩
  ·rw[en]
   by_cases e:a=k'
   ·rw[e];exact hm.1
   ·exact i.tkl a (by simpa [Ms.take,bT,e] using h)
  ·rw[en]
   show a∈s.back.dropLast↔a<s.next∧bT s.tk k' H a=E;rw[dropLast_mem hb i.nd,i.mem a];by_cases e:a=k'
   ·simp[e,bT]
   ·simp[e,bT]
 |none=>
  have he:s.back=[]:=by simpa using hb
  rw[hb] at hk;simp only at hk;split at hk
  ·rename_i hlt
   obtain rfl:s.next=k:=by simpa using hk
   have en:(s.take s.next).next =s.next+1:=by simp[Ms.take,he]
   refine⟨by rw[en];exact hlt,fun a h=> ?_,by show s.back.dropLast.Nodup;rw[he];exact List.nodup_nil,fun a=> ?_,wok⟩
   ·rw[en]
    by_cases e:a=s.next
    ·omega
    ·have:=i.tkl a (by simpa [Ms.take,bT,e] using h)
     omega
   ·rw[en]
    show a∈s.back.dropLast↔a<s.next+1∧bT s.tk s.next H a=E;have:=i.mem a;rw[he] at this⊢;simp at this⊢;intro h1;by_cases e:a=s.next
    ·simp[e,bT]
    ·have:=this (by omega)
     simp[e,bT,this]
  ·cases hk
theorem frees_mem{s:Ms}(i:s.Inv)(k:Nat):k∈s.frees↔k<s.n∧s.tk k=E:=by
 have hle:=i.le;unfold frees;rw[List.mem_append,List.mem_reverse,List.mem_range'_1,i.mem k];constructor
 ·rintro(⟨h1,h2⟩|⟨h1,h2⟩)
  ·refine⟨by omega,?_⟩
   cases ht:s.tk k with
   |true=>have:=i.tkl _ ht;omega
   |false=>rfl
  ·exact⟨by omega,h2⟩
 ·rintro⟨h1,h2⟩
  by_cases h:k<s.next
  ·exact .inr ⟨h,h2⟩
  ·exact .inl ⟨by omega,by omega⟩
theorem frees_nodup{s:Ms}(i:s.Inv):s.frees.Nodup:=by
 unfold frees;rw[List.nodup_append];refine⟨List.pairwise_reverse.2 ((List.nodup_range' (step:=1)).imp fun h=>h.symm),i.nd,fun a ha b hb=> ?_⟩;rw[List.mem_reverse,List.mem_range'_1] at ha;have:=(i.mem b).1 hb;omega
end Ms
theorem kS:∀(n:Nat) (l:List Nat),l.Nodup→(∀x∈l,x<n)→l.length≤n
 |0,[],_,_=>Nat.le_refl _
 |0,x::_,_,h=>absurd (h x (by simp)) (by omega)
 |n+1,l,nd,h=>by
  by_cases hm:n∈l
  ·have h1:=kS n (l.erase n) (nd.erase n) (fun x hx=>by
    have hx':=(List.Nodup.mem_erase_iff nd).1 hx;have:=h x hx'.2;have:=hx'.1;omega)
   rw[List.length_erase_of_mem hm] at h1;omega
  ·have h1:=kS n l nd (fun x hx=>by
    have:=h x hx;have:x≠n:=fun e=>hm (e▸hx);omega)
   omega
theorem Ms.frees_le{s:Ms}(i:s.Inv):s.frees.length≤s.n:=kS s.n _ (frees_nodup i) fun x hx=>((frees_mem i x).1 hx).1
structure Mp where
 page:Int
 size:Int
 frame:Int
 rights:Int
 deriving DecidableEq
structure Ac where
 page:Int
 kind:Int
 user:Bool
 deriving DecidableEq
structure An where
 fin:Int
 frame:Int
 rights:Int
 deriving DecidableEq
structure En where
 there:Bool
 leaf:Bool
 rights:Int
 used:Bool
 dirty:Bool
 frame:Int
 deriving DecidableEq
def cW(n:Int):Prop:= -9223372036854775808≤n∧n≤9223372036854775807
def Mp.cells(m:Mp):List I:=[vI vK m.page,vI vK m.size,vI vK m.frame,vI vK m.rights]
def Ac.cells(a:Ac):List I:=[vI vK a.page,vI vK a.kind,vB a.user]
@[go_sem] def Mp.val (m:Mp):I:= .agg #[vI vK m.page,vI vK m.size,vI vK m.frame,vI vK m.rights]
@[go_sem] def Ac.val (a:Ac):I:= .agg #[vI vK a.page,vI vK a.kind,vB a.user]
@[go_sem] def An.val (a:An):I:= .agg #[vI vK a.fin,vI vK a.frame,vI vK a.rights]
@[go_sem] def En.val (e:En):I:= .agg #[vB e.there,vB e.leaf,vI vK e.rights,vB e.used,vB e.dirty,vI vK e.frame]
def Mp.ok(m:Mp):Prop:=cW m.page∧cW m.size∧cW m.frame∧cW m.rights
def Ac.ok(a:Ac):Prop:=cW a.page∧cW a.kind
def Mp.zero:Mp:=⟨0,0,0,0⟩
def Ac.zero:Ac:=⟨0,0,E⟩
def An.zero:An:=⟨0,0,0⟩
def En.zero:En:=⟨E,E,0,E,E,0⟩
def bn(s:Int):Int:=if s=0 then 1 else if s=1 then 8 else if s=2 then 64 else 0
def cY(p:Int):Bool:=decide (0≤p)&&decide (p<4096)
def aw:Nat→Int|0=>1|n+1=>8*aw n
def ap(p l:Int):Int:=if 0≤p∧p<4096∧0≤l∧l<4 then p / aw l.toNat % 8 else -1
def bc(m:Mp):Int:=
 if bn m.size=0 then 2
 else if m.page<0∨4096≤m.page∨m.frame<0∨1048576≤m.frame∨m.rights<0∨7<m.rights then 1
 else if m.page % bn m.size≠0∨m.frame % bn m.size≠0 then 3
 else 0
def over(m:Mp)(p:Int):Bool:=decide (m.page≤p)&&decide (p - m.page<bn m.size)
def dV(a b:Mp):Bool:=over a b.page||over b a.page
def aK(r:Int)(k:Int):Bool:=decide (r / k % 2=1)
def may(r:Int)(a:Ac):Bool:=
 (a.kind !=1||aK r 1)&&(a.kind !=2||aK r 4)&&(!a.user||aK r 2)
def aq(a:Ac):Int:=if a.kind<0∨2<a.kind then 2 else if a.page<0∨4096≤a.page then 1 else 0
def bF(m:Mp)(a:Ac):An:=if may m.rights a then⟨0,wrap64 (wrap64 (m.frame+a.page) - m.page),m.rights⟩ else⟨2,0,0⟩
def aj(e:En)(l:Int):Int:=
 if l<0∨4≤l then 1
 else if e.there=E then(if e=En.zero then 0 else 7)
 else if e.rights<0∨7<e.rights∨e.frame<0∨1048576≤e.frame then 1
 else if(e.leaf=H∧l=3)∨(e.leaf=E∧l=0) then 2
 else if e.leaf=E then(if e.rights≠7∨e.used=H∨e.dirty=H then 7 else 0)
 else if e.frame % bn l≠0 then 3 else 0
def iS(b:Bool)(n:Int):Int:=if b=H then n else 0
def fI(e:En)(l:Int):Int:=e.frame*4096+e.rights*2+1+iS e.used 32+iS e.dirty 64+iS (e.leaf&&(l !=0)) 128
def bq(e:En)(l:Int):Int:=if aj e l=0∧e.there=H then fI e l else 0
def iM(w l:Int):Prop:=w / 16 % 2=0∧w / 256 % 16=0∧w<4294967296∧(w=0∨w % 2=1)∧(l=0→w / 128 % 2=0)
instance (w l:Int):Decidable (iM w l):=by unfold iM;infer_instance
def dC(w l:Int):En:=⟨H,(l==0)||aK w 128,w / 2 % 8,aK w 32,aK w 64,w / 4096⟩
def br(w l:Int):Int:=if l<0∨4≤l then 1 else if¬iM w l then 7 else if w=0 then 0 else aj (dC w l) l
def aD(w l:Int):En:=if br w l=0∧w≠0 then dC w l else En.zero
def aB(e:En)(l at_:Int):Mp:=if aj e l=0∧e.leaf=H∧0≤at_∧at_<4096 then⟨at_ / bn l*bn l,l,e.frame,e.rights⟩ else Mp.zero
theorem ip{e:En}{l:Int}(h:aj e l=0):0≤l∧l<4:=by
 unfold aj at h;split at h
 ·omega
 ·omega
theorem dE{e:En}{l:Int}(h:aj e l=0)(ht:e.there=E):e=En.zero:=by
 unfold aj at h;split at h
 ·omega
 ·try rw[if_pos ht] at h
  split at h
  ·assumption
  ·omega
structure pR (e:En) (l:Int):Prop where
 l0:0≤l
 l4:l<4
 r0:0≤e.rights
 r7:e.rights≤7
 f0:0≤e.frame
 f1:e.frame<1048576
 leaf:e.leaf=H→l<3∧e.frame % bn l=0
 table:e.leaf=E→0<l∧e.rights=7∧e.used=E∧e.dirty=E
theorem dF{e:En}{l:Int}(h:aj e l=0)(ht:e.there=H):pR e l:=by
 unfold aj at h;split at h
 ·omega
 rename_i hl;rw[if_neg (by rw[ht];simp)] at h;split at h
 ·omega
 rename_i hr;split at h
 ·omega
 rename_i hk;refine⟨by omega,by omega,by omega,by omega,by omega,by omega,fun hf=> ?_,fun hf=> ?_⟩
 ·rw[if_neg (by rw[hf];simp)] at h
  split at h
  ·omega
  ·rename_i h3
   have:¬(l=3):=fun e=>hk (.inl ⟨hf,e⟩);exact⟨by omega,by omega⟩
 ·rw[if_pos hf] at h
  split at h
  ·omega
  ·rename_i h7
   have:¬(l=0):=fun e=>hk (.inr ⟨hf,e⟩);refine⟨by omega,by omega,?_,?_⟩
   ·cases hu:e.used with
    |true=>exact absurd (.inr (.inl hu)) h7
    |false=>rfl
   ·cases hu:e.dirty with
    |true=>exact absurd (.inr (.inr hu)) h7
    |false=>rfl
theorem jG{e:En}{l:Int}(ht:e.there=H)(h:pR e l):aj e l=0:=by
 have:=h.l0;have:=h.l4;have:=h.r0;have:=h.r7;have:=h.f0;have:=h.f1;unfold aj;rw[if_neg (by omega),if_neg (by rw[ht];simp),if_neg (by omega)];cases hf:e.leaf with
 |true=>
  have:=h.leaf hf;rw[if_neg (by simp;omega),if_neg (by simp),if_neg (by omega)]
 |false=>
  obtain⟨a,b,c,d⟩:=h.table hf;rw[if_neg (by simp;omega),if_pos rfl,if_neg (by rw[c,d];simp[b])]
theorem ib(b:Bool)(n:Int)(h:0≤n):0≤iS b n∧iS b n≤n:=by cases b<;>simp[iS]<;>omega
theorem jH{e:En}{l:Int}(h:pR e l):fI e l≠0∧0≤fI e l∧fI e l<4294967296:=by
 have:=ib e.used 32 (by omega);have:=ib e.dirty 64 (by omega);have:=ib (e.leaf&&(l !=0)) 128 (by omega);have:=h.r0;have:=h.r7;have:=h.f0;have:=h.f1;unfold fI;omega
theorem q9{e:En}{l:Int}(h:pR e l):((l==0)||(e.leaf&&(l !=0)))=e.leaf:=by
 by_cases h0:l=0
 ·subst h0
  cases hf:e.leaf with
  |true=>rfl
  |false=>have:=(h.table hf).1;omega
 ·have e1:(l==0)=E:=by simpa using h0
  have e2:(l !=0)=H:=by simpa using h0
  rw[e1,e2,Bool.false_or,Bool.and_true]
theorem pS(b:Bool)(x:Int)(h:x=iS b 1):decide (x=1)=b:=by cases b<;>simp[iS] at h<;>simp[h]
theorem jX(b:Bool)(n:Int):iS b n=iS b 1*n:=by cases b<;>simp[iS]
theorem mE(b:Bool)(w n:Int)(h:w / n % 2=iS b 1):aK w n=b:=pS b _ h
theorem pT{e:En}{l:Int}(ht:e.there=H)(h:pR e l):dC (fI e l) l=e∧iM (fI e l) l:=by
 have hb:=q9 h;have u1:=ib e.used 1 (by omega);have d1:=ib e.dirty 1 (by omega);have v1:=ib (e.leaf&&(l !=0)) 1 (by omega);have hl0:l=0→iS (e.leaf&&(l !=0)) 1=0:=fun h0=>by subst h0;simp[iS]
 have:=h.r0;have:=h.r7;have:=h.f0;have:=h.f1;obtain⟨th,leaf,rights,used,dirty,frame⟩:=e;dsimp only at*
 subst ht;have hw:fI ⟨H,leaf,rights,used,dirty,frame⟩ l=frame*4096+rights*2+1+iS used 1*32+iS dirty 1*64+iS (leaf&&(l !=0)) 1*128:=by
  unfold fI;dsimp only;rw[jX used 32,jX dirty 64,jX (leaf&&(l !=0)) 128]
 rw[hw];refine⟨?_,?_⟩
 ·unfold dC
  rw[mE used _ 32 (by omega),mE dirty _ 64 (by omega),mE (leaf&&(l !=0)) _ 128 (by omega),hb];congr 1
  ·omega
  ·omega
 ·unfold iM
  refine⟨by omega,by omega,by omega,.inr (by omega),fun h0=> ?_⟩;have:=hl0 h0;omega
theorem kT{e:En}{l:Int}(h:aj e l=0):br (bq e l) l=0∧aD (bq e l) l=e∧(bq e l=0↔e.there=E):=by
 have hl:=ip h;cases ht:e.there with
 |false=>
  have he:=dE h ht;have hw:bq e l=0:=by unfold bq;rw[if_neg (by rw[ht];simp)]
  rw[hw];have hc:br 0 l=0:=by
   unfold br;rw[if_neg (by omega),if_neg (by unfold iM;simp),if_pos rfl]
  refine⟨hc,?_,by simp⟩;unfold aD;rw[if_neg (by simp),he]
 |true=>
  have hk:=dF h ht;obtain⟨h1,h2⟩:=pT ht hk;have hn:=(jH hk).1;have hw:bq e l=fI e l:=by unfold bq;rw[if_pos ⟨h,ht⟩]
  rw[hw];have hc:br (fI e l) l=0:=by
   unfold br;rw[if_neg (by omega),if_neg (by simpa using h2),if_neg hn,h1];exact h
  refine⟨hc,?_,by simp[hn]⟩;unfold aD;rw[if_pos ⟨hc,hn⟩,h1]
theorem pU{w l:Int}(hb:iM w l)(hn:w≠0):fI (dC w l) l=w:=by
 obtain⟨a,b,c,d,e⟩:=hb;have bi:∀n:Int,iS (aK w n) 1=w / n % 2:=fun n=>by
  unfold iS aK;have:w / n % 2=0∨w / n % 2=1:=by omega
  rcases this with h|h<;>simp[h]
 have hv:iS (((l==0)||aK w 128)&&(l !=0)) 1=w / 128 % 2:=by
  by_cases hl:l=0
  ·have:=e hl
   subst hl;simp[iS,this]
  ·have e1:(l==0)=E:=by simpa using hl
   have e2:(l !=0)=H:=by simpa using hl
   rw[e1,e2,Bool.false_or,Bool.and_true];exact bi 128
 unfold fI dC;dsimp only;rw[jX _ 32,jX _ 64,jX _ 128,hv,bi 32,bi 64];omega
theorem fp{w l:Int}(h:br w l=0):aj (aD w l) l=0∧bq (aD w l) l=w:=by
 have hc:=h;unfold br at h;split at h
 ·omega
 rename_i hl;split at h
 ·omega
 rename_i hb;split at h
 ·rename_i hw
  have he:aD w l=En.zero:=by unfold aD;rw[if_neg (by simp[hw])]
  rw[he];refine⟨?_,by rw[hw];unfold bq;rw[if_neg (by simp[En.zero])]⟩;unfold aj;rw[if_neg hl,if_pos (show En.zero.there=E from rfl)];simp
 ·rename_i hw
  have he:aD w l=dC w l:=by unfold aD;rw[if_pos ⟨hc,hw⟩]
  rw[he];refine⟨h,?_⟩;unfold bq;rw[if_pos ⟨h,rfl⟩];exact pU (Decidable.of_not_not hb) hw
theorem ra{w l:Int}(h:br w l≠0):aD w l=En.zero:=by unfold aD;rw[if_neg (by simp[h])]
theorem mF{e:En}{l:Int}(h:aj e l≠0):bq e l=0:=by unfold bq;rw[if_neg (by simp[h])]
def av(s:Ms)(t i:Int):Int:=s.wd t.toNat i.toNat
structure Wy where
 code:Int
 tabs:List Int
 lev:Int
 e:En
def Wy.err(c:Int):Wy:=⟨c,[],0,En.zero⟩
def iF(s:Ms)(p:Int)(L:Nat)(t:Int)(acc:List Int)(next:Int→Wy):Wy:=
 if s.has t=E then .err 12
 else if br (av s t (ap p L)) L≠0 then .err (br (av s t (ap p L)) L)
 else if(aD (av s t (ap p L)) L).there =E∨(aD (av s t (ap p L)) L).leaf =H then⟨0,acc++[t],L,aD (av s t (ap p L)) L⟩
 else next (aD (av s t (ap p L)) L).frame
def cZ(s:Ms)(p:Int):Nat→Int→List Int→Wy
 |0,t,acc=>iF s p 0 t acc fun _=> .err 7
 |L+1,t,acc=>iF s p (L+1) t acc fun f=>cZ s p L f (acc++[t])
def way(s:Ms)(root p:Int):Wy:=if cY p=H then cZ s p 3 root [] else .err 1
theorem eP{w:Int}(_:br w 0=0):(aD w 0).there =E∨(aD w 0).leaf =H:=by
 unfold aD;split
 ·right;rfl
 ·left;rfl
theorem fY{s:Ms}{p:Int}{L:Nat}{t:Int}{acc:List Int}(h:s.has t=E):cZ s p L t acc= .err 12:=by
 cases L<;>(unfold cZ iF;rw[if_pos h])
theorem iq{s:Ms}{p:Int}{L:Nat}{t:Int}{acc:List Int}(h:s.has t=H)(hc:br (av s t (ap p L)) L≠0):cZ s p L t acc= .err (br (av s t (ap p L)) L):=by
 cases L<;>(unfold cZ iF;rw[if_neg (by rw[h];simp),if_pos hc])
theorem dW{s:Ms}{p:Int}{L:Nat}{t:Int}{acc:List Int}(h:s.has t=H)(hc:br (av s t (ap p L)) L=0)
  (he:(aD (av s t (ap p L)) L).there =E∨(aD (av s t (ap p L)) L).leaf =H):cZ s p L t acc=⟨0,acc++[t],L,aD (av s t (ap p L)) L⟩:=by
 cases L<;>(unfold cZ iF;rw[if_neg (by rw[h];simp),if_neg (by rw[hc];simp),if_pos he])
theorem jh{s:Ms}{p:Int}{L:Nat}{t:Int}{acc:List Int}(h:s.has t=H)(hc:br (av s t (ap p L)) L=0)
  (he:¬((aD (av s t (ap p L)) L).there =E∨(aD (av s t (ap p L)) L).leaf =H)):∃K,L=K+1∧cZ s p L t acc=cZ s p K (aD (av s t (ap p L)) L).frame (acc++[t]):=by
 cases L with
 |zero=>exact absurd (eP hc) he
 |succ K=>
  refine⟨K,rfl,?_⟩;conv=>lhs;unfold cZ iF
  rw[if_neg (by rw[h];simp),if_neg (by rw[hc];simp),if_neg he]
theorem uF(s:Ms)(p:Int):∀(L:Nat) (t:Int) (acc:List Int),(cZ s p L t acc).code =0→0≤(cZ s p L t acc).lev ∧(cZ s p L t acc).lev ≤L∧(cZ s p L t acc).tabs.length =acc.length+1+(L - (cZ s p L t acc).lev.toNat):=by
 intro L;induction L with
 |zero=>
  intro t acc hc;cases h:s.has t with
  |false=>rw[fY h] at hc;cases hc
  |true=>
   by_cases hd:br (av s t (ap p (0:Nat))) (0:Nat)=0
   ·rw[dW h hd (eP hd)]
    simp
   ·rw[iq h hd] at hc
    exact absurd hc hd
 |succ L ih=>
  intro t acc hc;cases h:s.has t with
  |false=>rw[fY h] at hc;cases hc
  |true=>
   by_cases hd:br (av s t (ap p (L+1:Nat))) (L+1:Nat)=0
   ·by_cases he:(aD (av s t (ap p (L+1:Nat))) (L+1:Nat)).there =E∨(aD (av s t (ap p (L+1:Nat))) (L+1:Nat)).leaf =H
    ·rw[dW h hd he]
     simp;omega
    ·obtain⟨K,hK,e⟩:=jh (acc:=acc) h hd he
     obtain rfl:L=K:=by omega
     rw[e] at hc⊢;obtain⟨a,b,c⟩:=ih _ _ hc;rw[W,List.length_singleton] at c;refine⟨a,by omega,by omega⟩
   ·rw[iq h hd] at hc
    exact absurd hc hd
structure lu where
 t:Int
 lev:Int
 at_:Int
 e:En
structure Vs where
 code:Int
 vs:List lu
def dp(s:Ms)(L:Nat)(t a:Int)(sub:Int→Int→Vs):List Nat→Vs
 | []=>⟨0,[]⟩
 |i::is=>
  if br (av s t i) L≠0 then⟨br (av s t i) L,[]⟩
  else
   let e:=aD (av s t i) L
   let r:Vs:=if e.there=H∧e.leaf=E then sub e.frame (a*8+i) else⟨0,[]⟩
   if r.code≠0 then⟨r.code,⟨t,L,a*8+i,e⟩::r.vs⟩
   else⟨(dp s L t a sub is).code,⟨t,L,a*8+i,e⟩::(r.vs++(dp s L t a sub is).vs)⟩
def cu(s:Ms):Nat→Int→Int→Vs
 |0,t,a=>if s.has t=E then⟨12,[]⟩ else dp s 0 t a (fun _ _=>⟨7,[]⟩) (List.range 8)
 |L+1,t,a=>if s.has t=E then⟨12,[]⟩ else dp s (L+1) t a (cu s L) (List.range 8)
def gW(s:Ms):Nat→Int→Int→Vs
 |0=>fun _ _=>⟨7,[]⟩
 |L+1=>cu s L
theorem iX(s:Ms)(L:Nat)(t a:Int):cu s L t a=if s.has t=E then⟨12,[]⟩ else dp s L t a (gW s L) (List.range 8):=by
 cases L<;>rfl
def bR(vs:List lu):List Mp:=vs.filterMap fun v=>if v.e.leaf=H then G (aB v.e v.lev (v.at_*aw v.lev.toNat)) else J
def bU(vs:List lu):List Int:=vs.filterMap fun v=>if v.e.there=H∧v.e.leaf=E then G v.e.frame else J
def jI:Nat→Nat|0=>8|L+1=>8+8*jI L
theorem lx(s:Ms)(L:Nat)(t a:Int)(sub:Int→Int→Vs)(m:Nat)(h:∀f p,(sub f p).vs.length ≤m):∀is:List Nat,(dp s L t a sub is).vs.length ≤is.length*(1+m)
 | []=>by simp[dp]
 |i::is=>by
  have ih:=lx s L t a sub m h is;have h0:(is.length+1)*(1+m)=is.length*(1+m)+(1+m):=by rw[Nat.add_mul,Nat.one_mul]
  unfold dp;rw[List.length_cons,h0];split
  ·simp
  ·have hr:(if(aD (av s t i) L).there =H∧(aD (av s t i) L).leaf =E then sub (aD (av s t i) L).frame (a*8+i) else(⟨0,[]⟩:Vs)).vs.length ≤m:=by
    split
    ·exact h _ _
    ·simp
   dsimp only;generalize (if(aD (av s t i) L).there =H∧(aD (av s t i) L).leaf =E then sub (aD (av s t i) L).frame (a*8+i) else(⟨0,[]⟩:Vs))=r at*
   split
   ·simp only[List.length_cons];omega
   ·simp only[List.length_cons,W];omega
theorem nU(s:Ms):∀(L:Nat) (t a:Int),(cu s L t a).vs.length ≤jI L
 |0,t,a=>by
  rw[iX];split
  ·simp
  ·have:=lx s 0 t a (gW s 0) 0 (fun _ _=>Nat.le_refl _) (List.range 8)
   simpa [jI] using this
 |L+1,t,a=>by
  rw[iX];split
  ·simp
  ·have:=lx s (L+1) t a (gW s (L+1)) (jI L) (fun f p=>nU s L f p) (List.range 8)
   simp only[List.length_range] at this;unfold jI;omega
theorem pV{s:Int}(h:bn s≠0):(s=0∧bn s=1)∨(s=1∧bn s=8)∨(s=2∧bn s=64):=by
 unfold bn at*
 by_cases h0:s=0
 ·left;simp[h0]
 ·by_cases h1:s=1
  ·right;left;simp[h1]
  ·by_cases h2:s=2
   ·right;right;simp[h2]
   ·simp[h0,h1,h2] at h
structure MapOk (m:Mp):Prop where
 p0:0≤m.page
 p1:m.page+bn m.size≤4096
 sp:0<bn m.size
 al:m.page % bn m.size=0
 size:(m.size=0∧bn m.size=1)∨(m.size=1∧bn m.size=8)∨(m.size=2∧bn m.size=64)
 f0:0≤m.frame
 f1:m.frame<1048576
 fa:m.frame % bn m.size=0
 r0:0≤m.rights
 r7:m.rights≤7
theorem fh{m:Mp}(h:bc m=0):MapOk m:=by
 unfold bc at h;split at h
 ·omega
 rename_i hs;split at h
 ·omega
 rename_i hr;split at h
 ·omega
 rename_i ha;have hsp:=pV hs;have h1:m.page % bn m.size=0:=by omega
 have h2:m.frame % bn m.size=0:=by omega
 refine⟨by omega,?_,?_,h1,hsp,by omega,by omega,h2,by omega,by omega⟩
 ·rcases hsp with ⟨_,e⟩|⟨_,e⟩|⟨_,e⟩<;>rw[e] at h1⊢ <;>omega
 ·rcases hsp with ⟨_,e⟩|⟨_,e⟩|⟨_,e⟩<;>omega
theorem dX{m:Mp}{p:Int}:over m p=H↔m.page≤p∧p<m.page+bn m.size:=by
 unfold over;simp only[Bool.and_eq_true,decide_eq_true_eq];omega
theorem dy{m:Mp}{p:Int}:over m p=E↔p<m.page∨m.page+bn m.size≤p:=by
 rw[←Bool.not_eq_true,dX];omega
theorem fZ{a b:Mp}(ha:MapOk a)(hb:MapOk b):dV a b=E↔a.page+bn a.size≤b.page∨b.page+bn b.size≤a.page:=by
 unfold dV;rw[Bool.or_eq_false_iff,dy,dy];have:=ha.sp;have:=hb.sp;omega
namespace Bk
def before(p:Int)(m:Mp):Bool:= !over m p&&decide (m.page<p)
structure Ok (l:List Mp):Prop where
 chk:∀x∈l,MapOk x
 up:l.Pairwise fun a b=>a.page+bn a.size≤b.page
def pos(l:List Mp)(p:Int):Nat:=(l.takeWhile (before p)).length
def find(l:List Mp)(p:Int):Option Mp:=l.find? fun x=>over x p
def ins(l:List Mp)(m:Mp):List Mp:=l.takeWhile (before m.page)++m::l.dropWhile (before m.page)
def bad(l:List Mp)(m:Mp):Bool:=l.any fun x=>dV x m
def add(l:List Mp)(m:Mp):List Mp:=if bc m=0∧bad l m=E then ins l m else l
def addC(l:List Mp)(m:Mp):Int:=if bc m≠0 then bc m else if bad l m=H then 4 else 0
def del(l:List Mp)(p:Int):List Mp:=l.filter fun x=> !over x p
def prot(l:List Mp)(p r:Int):List Mp:=l.map fun x=>if over x p then {x with rights:=r} else x
theorem Ok.nil:Ok []:=⟨fun x h=>(by cases h),List.Pairwise.nil⟩
theorem before_iff{p:Int}{m:Mp}(h:MapOk m):before p m=H↔m.page+bn m.size≤p:=by
 unfold before;have:=h.sp;rw[Bool.and_eq_true,Bool.not_eq_true',dy,decide_eq_true_eq];omega
theorem Ok.tail{x:Mp}{l:List Mp}(h:Ok (x::l)):Ok l:=⟨fun y hy=>h.chk y (List.mem_cons_of_mem _ hy),(List.pairwise_cons.1 h.up).2⟩
theorem Ok.sub{k l:List Mp}(h:Ok l)(s:k.Sublist l):Ok k:=⟨fun y hy=>h.chk y (s.subset hy),h.up.sublist s⟩
theorem Ok.del{l:List Mp}(h:Ok l)(p:Int):Ok (del l p):=h.sub List.filter_sublist
theorem after{l:List Mp}(h:Ok l)(p:Int):∀x∈l.dropWhile (before p),before p x=E:=by
 induction l with
 |nil=>intro x hx;cases hx
 |cons y l ih=>
  intro x hx;rw[List.dropWhile_cons] at hx;split at hx
  ·exact ih h.tail x hx
  ·rename_i hy
   rcases List.mem_cons.1 hx with rfl|hx
   ·simpa using hy
   ·have h1:=(List.pairwise_cons.1 h.up).1 x hx
    have hx':=h.chk x (List.mem_cons_of_mem _ hx);have hy':=h.chk y (List.mem_cons_self ..);rw[before_iff hy'] at hy;rw[←Bool.not_eq_true,before_iff hx'];have:=hx'.sp;have:=hy'.sp;omega
theorem ahead(l:List Mp)(p:Int):∀x∈l.takeWhile (before p),before p x=H:=by
 induction l with
 |nil=>intro x hx;cases hx
 |cons y l ih=>
  intro x hx;rw[List.takeWhile_cons] at hx;split at hx
  ·rename_i hy
   rcases List.mem_cons.1 hx with rfl|hx
   ·exact hy
   ·exact ih x hx
  ·cases hx
theorem split(l:List Mp)(p:Int):l.takeWhile (before p)++l.dropWhile (before p)=l:=List.takeWhile_append_dropWhile
theorem pos_le(l:List Mp)(p:Int):pos l p≤l.length:=by
 have:=congrArg List.length (split l p);rw[W] at this;unfold pos;omega
theorem pos_iff{l:List Mp}(h:Ok l)(p:Int){k:Nat}(hk:k<l.length):before p l[k]=decide (k<pos l p):=by
 have e:=split l p;by_cases hlt:k<pos l p
 ·have hl:k< (l.takeWhile (before p)).length :=hlt
  have:l[k]=(l.takeWhile (before p))[k]:=by
   have:=List.getElem_append_left (as:=l.takeWhile (before p)) (bs:=l.dropWhile (before p)) (h':=by rw[e];exact hk) hl;rw[←this];simp only[e]
  rw[this,ahead l p _ (List.getElem_mem hl),decide_eq_true hlt]
 ·have hge:(l.takeWhile (before p)).length ≤k:=by unfold pos at hlt;omega
  have hl:k - (l.takeWhile (before p)).length < (l.dropWhile (before p)).length :=by
   have:=congrArg List.length e;rw[W] at this;omega
  have:l[k]=(l.dropWhile (before p))[k - (l.takeWhile (before p)).length]:=by
   have:=List.getElem_append_right (as:=l.takeWhile (before p)) (bs:=l.dropWhile (before p)) (i:=k) (h₂:=by rw[e];exact hk) hge;rw[←this];simp only[e]
  rw[this,after h p _ (List.getElem_mem hl),decide_eq_false hlt]
theorem mem_split{l:List Mp}{p:Int}{x:Mp}(hx:x∈l):x∈l.takeWhile (before p)∨x∈l.dropWhile (before p):=by
 rw[←List.mem_append,split];exact hx
theorem bad_false{l:List Mp}{m:Mp}(h:bad l m=E):∀x∈l,dV x m=E:=by
 unfold bad at h;rw[List.any_eq_false] at h;intro x hx;have:=h x hx;simpa using this
theorem Ok.ins{l:List Mp}(h:Ok l){m:Mp}(hm:MapOk m)(hb:bad l m=E):Ok (ins l m):=by
 have h1:∀x∈l.takeWhile (before m.page),x.page+bn x.size≤m.page:=fun x hx=>
  (before_iff (h.chk x ((List.takeWhile_sublist _).subset hx))).1 (ahead l m.page x hx)
 have h2:∀x∈l.dropWhile (before m.page),m.page+bn m.size≤x.page:=fun x hx=>by
  have hxl:=(List.dropWhile_sublist _).subset hx;have hxm:=h.chk x hxl;have ha:=after h m.page x hx;rw[←Bool.not_eq_true,before_iff hxm] at ha;have:=(fZ hxm hm).1 (bad_false hb x hxl);omega
 refine⟨fun x hx=> ?_,?_⟩
 ·unfold Bk.ins at hx
  rcases List.mem_append.1 hx with hx|hx
  ·exact h.chk x ((List.takeWhile_sublist _).subset hx)
  ·rcases List.mem_cons.1 hx with rfl|hx
   ·exact hm
   ·exact h.chk x ((List.dropWhile_sublist _).subset hx)
 ·unfold Bk.ins
  rw[List.pairwise_append];refine⟨h.up.sublist (List.takeWhile_sublist _),List.pairwise_cons.2 ⟨h2,h.up.sublist (List.dropWhile_sublist _)⟩,fun a ha b hb'=> ?_⟩;have a1:=h1 a ha;rcases List.mem_cons.1 hb' with rfl|hb'
  ·exact a1
  ·have:=h2 b hb'
   have:=hm.sp;omega
theorem Ok.add{l:List Mp}(h:Ok l)(m:Mp):Ok (add l m):=by
 unfold Bk.add;split
 ·rename_i hc
  exact h.ins (fh hc.1) hc.2
 ·exact h
theorem drop_head{l:List Mp}{p:Int}{y:Mp}{r:List Mp}(e:l.dropWhile (before p)=y::r):∃h:pos l p<l.length,l[pos l p]=y:=by
 have hl:=congrArg List.length (split l p);rw[W,e,List.length_cons] at hl;have hp:pos l p<l.length:=by unfold pos;omega
 refine⟨hp,?_⟩;have hs:=split l p;rw[e] at hs;have:l[pos l p]? =G y:=by
  have h2:(l.takeWhile (before p)++y::r)[(l.takeWhile (before p)).length]? =G y:=by
   rw[List.getElem?_append_right (Nat.le_refl _)];simp
  rw[hs] at h2;exact h2
 rw[List.getElem?_eq_getElem hp] at this;exact Option.some.inj this
theorem drop_nil{l:List Mp}{p:Int}(e:l.dropWhile (before p)=[]):pos l p=l.length:=by
 have hl:=congrArg List.length (split l p);rw[W,e] at hl;unfold pos;simpa using hl
theorem bad_head{l:List Mp}(h:Ok l){m:Mp}(hm:MapOk m):bad l m=match l.dropWhile (before m.page) with| []=>E|y::_=>dV y m:=by
 have hno:∀x∈l.takeWhile (before m.page),dV x m=E:=fun x hx=>by
  have hx':=h.chk x ((List.takeWhile_sublist _).subset hx);have:=(before_iff hx').1 (ahead l m.page x hx);exact(fZ hx' hm).2 (.inl this)
 cases e:l.dropWhile (before m.page) with
 |nil=>
  show bad l m=E;unfold bad;rw[List.any_eq_false];intro x hx;rcases mem_split (p:=m.page) hx with hx|hx
  ·rw[hno x hx];simp
  ·rw[e] at hx;cases hx
 |cons y r=>
  show bad l m=dV y m;have hy:y∈l:=(List.dropWhile_sublist _).subset (by rw[e];exact List.mem_cons_self ..);cases hq:dV y m with
  |true=>exact List.any_eq_true.2 ⟨y,hy,hq⟩
  |false=>
   unfold bad;rw[List.any_eq_false];intro x hx;rcases mem_split (p:=m.page) hx with hx'|hx'
   ·rw[hno x hx'];simp
   ·rw[e] at hx'
    rcases List.mem_cons.1 hx' with rfl|hx'
    ·rw[hq];simp
    ·have hu:=(h.up.sublist (List.dropWhile_sublist (before m.page)))
     rw[e] at hu;have h1:=(List.pairwise_cons.1 hu).1 x hx';have hym:=h.chk y hy;have hxm:=h.chk x hx;have ha:=after h m.page y (by rw[e];exact List.mem_cons_self ..);rw[←Bool.not_eq_true,before_iff hym] at ha;have:=(fZ hym hm).1 hq;have h3:=hym.sp;rw[(fZ hxm hm).2 (.inr (by omega))];simp
theorem find_head{l:List Mp}(h:Ok l)(p:Int):find l p=match l.dropWhile (before p) with| []=>J|y::_=>if over y p then G y else J:=by
 have hno:∀x∈l.takeWhile (before p),over x p=E:=fun x hx=>by
  have:=ahead l p x hx;unfold before at this;simp only[Bool.and_eq_true,Bool.not_eq_true'] at this;exact this.1
 have e0:find l p=(l.dropWhile (before p)).find? fun x=>over x p:=by
  unfold find;conv=>lhs;rw[←split l p]
  rw[List.find?_append,List.find?_eq_none.2 (fun x hx=>by rw[hno x hx];simp)];rfl
 rw[e0];cases e:l.dropWhile (before p) with
 |nil=>rfl
 |cons y r=>
  show(y::r).find? _=if over y p then G y else J
  rw[List.find?_cons];cases hq:over y p with
  |true=>rfl
  |false=>
   show r.find? (fun x=>over x p)=J;rw[List.find?_eq_none];intro x hx;have hym:=h.chk y ((List.dropWhile_sublist _).subset (by rw[e];exact List.mem_cons_self ..));have hu:=h.up.sublist (List.dropWhile_sublist (before p));rw[e] at hu;have h1:=(List.pairwise_cons.1 hu).1 x hx;have ha:=after h p y (by rw[e];exact List.mem_cons_self ..);rw[←Bool.not_eq_true,before_iff hym] at ha;have:=dy.1 hq;rw[dy.2 (.inl (by omega))];simp
theorem del_head{l:List Mp}(h:Ok l)(p:Int):del l p=match l.dropWhile (before p) with| []=>l|y::r=>if over y p then l.takeWhile (before p)++r else l:=by
 have hno:∀x∈l.takeWhile (before p),(!over x p)=H:=fun x hx=>by
  have:=ahead l p x hx;unfold before at this;simp only[Bool.and_eq_true] at this;exact this.1
 have e0:del l p=l.takeWhile (before p)++(l.dropWhile (before p)).filter fun x=> !over x p:=by
  unfold del;conv=>lhs;rw[←split l p]
  rw[List.filter_append,List.filter_eq_self.2 hno]
 rw[e0];cases e:l.dropWhile (before p) with
 |nil=>
  have:=split l p;rw[e] at this;simpa using this
 |cons y r=>
  have hr:∀x∈r,(!over x p)=H:=fun x hx=>by
   have hym:=h.chk y ((List.dropWhile_sublist _).subset (by rw[e];exact List.mem_cons_self ..));have hu:=h.up.sublist (List.dropWhile_sublist (before p));rw[e] at hu;have h1:=(List.pairwise_cons.1 hu).1 x hx;have ha:=after h p y (by rw[e];exact List.mem_cons_self ..);rw[←Bool.not_eq_true,before_iff hym] at ha;rw[dy.2 (.inl (by omega))];rfl
  show _=if over y p then _ else _
  rw[List.filter_cons];cases hq:over y p with
  |true=>simp[List.filter_eq_self.2 hr]
  |false=>
   have:=split l p;rw[e] at this;simp[List.filter_eq_self.2 hr,this]
theorem Ok.count:∀(l:List Mp) (lo:Int),Ok l→0≤lo→lo≤4096→(∀x∈l,lo≤x.page)→(l.length:Int)≤4096 - lo
 | [],lo,_,_,_,_=>by simp;omega
 |x::l,lo,h,h0,_,hl=>by
  have hx:=h.chk x (List.mem_cons_self ..);have hlx:=hl x (List.mem_cons_self ..);have:=hx.p1;have:=hx.sp;have:=Ok.count l (x.page+bn x.size) h.tail (by omega) (by omega) (List.pairwise_cons.1 h.up).1;simp only[List.length_cons];omega
theorem Ok.le{l:List Mp}(h:Ok l):l.length≤4096:=by
 have:=Ok.count l 0 h (by omega) (by omega) (fun x hx=>(h.chk x hx).p0);omega
theorem Ok.ext:∀{a b:List Mp},Ok a→Ok b→(∀x,x∈a↔x∈b)→a=b
 | [],[],_,_,_=>rfl
 | [],y::b,_,_,h=>by have:=(h y).2 (List.mem_cons_self ..);cases this
 |x::a,[],_,_,h=>by have:=(h x).1 (List.mem_cons_self ..);cases this
 |x::a,y::b,ha,hb,h=>by
  have hxs:=(ha.chk x (List.mem_cons_self ..)).sp;have hys:=(hb.chk y (List.mem_cons_self ..)).sp;have hx:∀z∈a,x.page<z.page:=fun z hz=>by have:=(List.pairwise_cons.1 ha.up).1 z hz;omega
  have hy:∀z∈b,y.page<z.page:=fun z hz=>by have:=(List.pairwise_cons.1 hb.up).1 z hz;omega
  have e:x=y:=by
   rcases List.mem_cons.1 ((h x).1 (List.mem_cons_self ..)) with e|h1
   ·exact e
   ·rcases List.mem_cons.1 ((h y).2 (List.mem_cons_self ..)) with e|h2
    ·exact e.symm
    ·have:=hy x h1
     have:=hx y h2;omega
  subst e;have:=Ok.ext ha.tail hb.tail (fun z=>by
   constructor
   ·intro hz
    rcases List.mem_cons.1 ((h z).1 (List.mem_cons_of_mem _ hz)) with e|h1
    ·have:=hx z hz;rw[e] at this;omega
    ·exact h1
   ·intro hz
    rcases List.mem_cons.1 ((h z).2 (List.mem_cons_of_mem _ hz)) with e|h1
    ·have:=hy z hz;rw[e] at this;omega
    ·exact h1)
  rw[this]
theorem Ok.rights{m:Mp}(h:MapOk m){r:Int}(h0:0≤r)(h7:r≤7):MapOk {m with rights:=r}:=⟨h.p0,h.p1,h.sp,h.al,h.size,h.f0,h.f1,h.fa,h0,h7⟩
theorem Ok.prot{l:List Mp}(h:Ok l)(p:Int){r:Int}(h0:0≤r)(h7:r≤7):Ok (prot l p r):=by
 refine⟨fun x hx=> ?_,?_⟩
 ·obtain⟨y,hy,rfl⟩:=List.mem_map.1 hx
  split
  ·exact Ok.rights (h.chk y hy) h0 h7
  ·exact h.chk y hy
 ·unfold Bk.prot
  rw[List.pairwise_map];refine h.up.imp fun {a b} hab=> ?_;split<;>split<;>exact hab
theorem prot_head{l:List Mp}(h:Ok l)(p r:Int):prot l p r=match l.dropWhile (before p) with| []=>l|y::k=>if over y p then l.takeWhile (before p)++{y with rights:=r}::k else l:=by
 have hid:∀k:List Mp,(∀x∈k,over x p=E)→k.map (fun x=>if over x p then {x with rights:=r} else x)=k:=fun k hk=>by
  conv=>rhs;rw[←List.map_id k]
  refine List.map_congr_left fun x hx=> ?_;rw[hk x hx];rfl
 have hno:∀x∈l.takeWhile (before p),over x p=E:=fun x hx=>by
  have:=ahead l p x hx;unfold before at this;simp only[Bool.and_eq_true,Bool.not_eq_true'] at this;exact this.1
 have e0:prot l p r=l.takeWhile (before p)++(l.dropWhile (before p)).map fun x=>if over x p then {x with rights:=r} else x:=by
  unfold prot;conv=>lhs;rw[←split l p]
  rw[List.map_append,hid _ hno]
 rw[e0];cases e:l.dropWhile (before p) with
 |nil=>
  have:=split l p;rw[e] at this;simpa using this
 |cons y k=>
  have hk:∀x∈k,over x p=E:=fun x hx=>by
   have hym:=h.chk y ((List.dropWhile_sublist _).subset (by rw[e];exact List.mem_cons_self ..));have hu:=h.up.sublist (List.dropWhile_sublist (before p));rw[e] at hu;have h1:=(List.pairwise_cons.1 hu).1 x hx;have ha:=after h p y (by rw[e];exact List.mem_cons_self ..);rw[←Bool.not_eq_true,before_iff hym] at ha;exact dy.2 (.inl (by omega))
  show _=if over y p then _ else _
  rw[List.map_cons,hid k hk];cases hq:over y p with
  |true=>simp
  |false=>
   have:=split l p;rw[e] at this;simp[this]
end Bk
theorem eD(n:Nat):aw (n+1)=8*aw n:=rfl
theorem eF:∀n:Nat,0<aw n
 |0=>by decide
 |n+1=>by have:=eF n;rw[eD];omega
theorem ir{w l:Int}(hc:br w l=0)(hl:(aD w l).leaf =H):(aD w l).there =H∧0≤l∧l<3∧bn l=aw l.toNat∧aj (aD w l) l=0:=by
 have hf:=(fp hc).1;have ht:(aD w l).there =H:=by
  cases h:(aD w l).there with
  |true=>rfl
  |false=>
   have:=dE hf h;rw[this] at hl;cases hl
 have hk:=dF hf ht;have h3:=(hk.leaf hl).1;have h0:=hk.l0;refine⟨ht,h0,h3,?_,hf⟩;have:l=0∨l=1∨l=2:=by omega
 rcases this with rfl|rfl|rfl<;>rfl
def gF(s:Ms)(L:Nat)(t a:Int)(i:Nat):List Mp:=
 let e:=aD (av s t i) L
 if e.leaf=H then [aB e L ((a*8+i)*aw L)] else if e.there=H then bR (gW s L e.frame (a*8+i)).vs else []
def eJ(s:Ms)(L:Nat)(t a:Int)(i:Nat):List Int:=
 let e:=aD (av s t i) L
 if e.there=H∧e.leaf=E then e.frame::bU (gW s L e.frame (a*8+i)).vs else []
theorem lL(v:lu)(l:List lu):bR (v::l)=(if v.e.leaf=H then [aB v.e v.lev (v.at_*aw v.lev.toNat)] else [])++bR l:=by
 unfold bR;rw[List.filterMap_cons];split<;>rename_i h<;>(split at h<;>simp_all)
theorem iN(a b:List lu):bR (a++b)=bR a++bR b:=List.filterMap_append
theorem lM(v:lu)(l:List lu):bU (v::l)=(if v.e.there=H∧v.e.leaf=E then [v.e.frame] else [])++bU l:=by
 unfold bU;rw[List.filterMap_cons];split<;>rename_i h<;>(split at h<;>simp_all)
theorem iO(a b:List lu):bU (a++b)=bU a++bU b:=List.filterMap_append
theorem lW(s:Ms)(L:Nat)(t a:Int):∀is:List Nat,(dp s L t a (gW s L) is).code =0→
  (∀i∈is,br (av s t i) L=0∧((aD (av s t i) L).there =H∧(aD (av s t i) L).leaf =E→(gW s L (aD (av s t i) L).frame (a*8+i)).code =0))∧
  bR (dp s L t a (gW s L) is).vs =is.flatMap (gF s L t a)∧bU (dp s L t a (gW s L) is).vs =is.flatMap (eJ s L t a)
 | [],_=>⟨fun i h=>(by cases h),rfl,rfl⟩
 |i::is,hc=>by
  unfold dp at hc⊢;by_cases hd:br (av s t i) L=0
  ·rw[if_neg (by rw[hd];simp)] at hc⊢
   dsimp only at hc⊢;by_cases he:(aD (av s t i) L).there =H∧(aD (av s t i) L).leaf =E
   ·rw[if_pos he] at hc⊢
    by_cases hr:(gW s L (aD (av s t i) L).frame (a*8+i)).code =0
    ·rw[if_neg (by rw[hr];simp)] at hc⊢
     obtain⟨h1,h2,h3⟩:=lW s L t a is hc;refine⟨fun j hj=> ?_,?_,?_⟩
     ·rcases List.mem_cons.1 hj with rfl|hj
      ·exact⟨hd,fun _=>hr⟩
      ·exact h1 j hj
     ·rw[lL,iN,h2,List.flatMap_cons]
      show _++(_++_)=gF s L t a i++_;unfold gF;dsimp only;rw[he.2,he.1];simp
     ·rw[lM,iO,h3,List.flatMap_cons]
      show _++(_++_)=eJ s L t a i++_;unfold eJ;dsimp only;rw[if_pos he,if_pos he];simp
    ·rw[if_pos hr] at hc
     exact absurd hc hr
   ·rw[if_neg he] at hc⊢
    rw[if_neg (by simp)] at hc⊢;obtain⟨h1,h2,h3⟩:=lW s L t a is hc;refine⟨fun j hj=> ?_,?_,?_⟩
    ·rcases List.mem_cons.1 hj with rfl|hj
     ·exact⟨hd,fun h=>absurd h he⟩
     ·exact h1 j hj
    ·rw[lL,List.nil_append,h2,List.flatMap_cons]
     show _++_=gF s L t a i++_;unfold gF;dsimp only;by_cases hf:(aD (av s t i) L).leaf =H
     ·rw[if_pos hf,if_pos hf]
      simp
     ·rw[if_neg hf,if_neg hf,if_neg (fun ht=>he ⟨ht,by simpa using hf⟩)]
    ·rw[lM,List.nil_append,h3,List.flatMap_cons]
     show _++_=eJ s L t a i++_;unfold eJ;dsimp only;rw[if_neg he,if_neg he]
  ·rw[if_pos hd] at hc
   exact absurd hc hd
theorem zu{α:Type}(f:Nat→List α)(k:Nat)(hk:k<8)(h:∀i,i<8→i≠k→f i=[]):(List.range 8).flatMap f=f k:=by
 have e:List.range 8=[0,1,2,3,4,5,6,7]:=rfl;rw[e];have hk':k=0∨k=1∨k=2∨k=3∨k=4∨k=5∨k=6∨k=7:=by omega
 rcases hk' with rfl|rfl|rfl|rfl|rfl|rfl|rfl|rfl<;>
  simp (config:={decide:=H}) only[List.flatMap_cons,List.flatMap_nil,h 0,h 1,h 2,h 3,h 4,h 5,h 6,h 7,List.nil_append,List.append_nil]
theorem sU{α:Type}(f:Nat→List α)(h:∀i,i<8→f i=[]):(List.range 8).flatMap f=[]:=by
 rw[List.flatMap_eq_nil_iff];intro x hx;exact h x (List.mem_range.1 hx)
theorem pW{α β:Type}(p:β→Bool)(f:α→List β)(l:List α):(l.flatMap f).filter p=l.flatMap fun x=>(f x).filter p:=by
 induction l with
 |nil=>rfl
 |cons x l ih=>rw[List.flatMap_cons,List.flatMap_cons,List.filter_append,ih]
theorem nV{w:Int}{L:Nat}(hc:br w L=0)(hl:(aD w L).leaf =H){b p:Int}(hb:0≤b)(hb':b*aw L<4096)(hp:0≤p):
  over (aB (aD w L) L (b*aw L)) p=decide (p / aw L=b)∧(p / aw L=b→p<4096→aB (aD w L) L (b*aw L)=aB (aD w L) L p):=by
 obtain⟨ht,h0,h3,hs,hf⟩:=ir hc hl;rw[Int.toNat_natCast] at hs;have hpos:=eF L;have hbp:0≤b*aw L:=Int.mul_nonneg hb (Int.le_of_lt hpos);have e1:aB (aD w L) L (b*aw L)=⟨b*aw L,L,(aD w L).frame,(aD w L).rights⟩:=by
  unfold aB;rw[if_pos ⟨hf,hl,hbp,hb'⟩,hs,Int.mul_ediv_cancel _ (by omega)]
 have hL:L=0∨L=1∨L=2:=by omega
 rw[e1];constructor
 ·unfold over
  dsimp only;rw[hs];rcases hL with rfl|rfl|rfl
  ·show(decide (b*1≤p)&&decide (p - b*1<1))=decide (p / 1=b)
   by_cases h:p / 1=b
   ·rw[decide_eq_true h,decide_eq_true (by omega),decide_eq_true (by omega)];rfl
   ·rw[decide_eq_false h,Bool.and_eq_false_iff,decide_eq_false_iff_not,decide_eq_false_iff_not];omega
  ·show(decide (b*8≤p)&&decide (p - b*8<8))=decide (p / 8=b)
   by_cases h:p / 8=b
   ·rw[decide_eq_true h,decide_eq_true (by omega),decide_eq_true (by omega)];rfl
   ·rw[decide_eq_false h,Bool.and_eq_false_iff,decide_eq_false_iff_not,decide_eq_false_iff_not];omega
  ·show(decide (b*64≤p)&&decide (p - b*64<64))=decide (p / 64=b)
   by_cases h:p / 64=b
   ·rw[decide_eq_true h,decide_eq_true (by omega),decide_eq_true (by omega)];rfl
   ·rw[decide_eq_false h,Bool.and_eq_false_iff,decide_eq_false_iff_not,decide_eq_false_iff_not];omega
 ·intro h hp2
  unfold aB;rw[if_pos ⟨hf,hl,hp,hp2⟩,hs,h]
theorem Az{L:Nat}(hL:L≤3){a:Int}(_:0≤a)(h:a*aw (L+1)<4096){i:Nat}(hi:i<8):(a*8+i)*aw L<4096:=by
 have:L=0∨L=1∨L=2∨L=3:=by omega
 rcases this with rfl|rfl|rfl|rfl<;>simp[aw] at h⊢ <;>omega
theorem pX{p:Int}(h0:0≤p)(h1:p<4096){L:Nat}(hL:L≤3):ap p L=((p / aw L % 8).toNat :Int):=by
 unfold ap;rw[if_pos ⟨h0,h1,by omega,by omega⟩,Int.toNat_natCast];omega
theorem nW(s:Ms)(p:Int)(hp0:0≤p)(hp1:p<4096)(L:Nat)(hL:L≤3)(t a:Int)(acc:List Int)
  (ih:∀K,L=K+1→∀(t a:Int) (acc:List Int),(cu s K t a).code =0→0≤a→a*aw (K+1)<4096→
   (p / aw (K+1)≠a→(bR (cu s K t a).vs).filter (fun m=>over m p)=[])∧
   (p / aw (K+1)=a→(cZ s p K t acc).code =0∧
    (bR (cu s K t a).vs).filter (fun m=>over m p)=(if(cZ s p K t acc).e.leaf =H then [aB (cZ s p K t acc).e (cZ s p K t acc).lev p] else [])∧
    (cZ s p K t acc).e.there =(cZ s p K t acc).e.leaf ∧∀x∈(cZ s p K t acc).tabs,x∈acc∨x=t∨x∈bU (cu s K t a).vs))
  (hc:(cu s L t a).code =0) (ha:0≤a) (hb:a*aw (L+1)<4096):
  (p / aw (L+1)≠a→(bR (cu s L t a).vs).filter (fun m=>over m p)=[])∧
  (p / aw (L+1)=a→(cZ s p L t acc).code =0∧
   (bR (cu s L t a).vs).filter (fun m=>over m p)=(if(cZ s p L t acc).e.leaf =H then [aB (cZ s p L t acc).e (cZ s p L t acc).lev p] else [])∧
   (cZ s p L t acc).e.there =(cZ s p L t acc).e.leaf ∧∀x∈(cZ s p L t acc).tabs,x∈acc∨x=t∨x∈bU (cu s L t a).vs):=by
 rw[iX] at hc⊢;cases hh:s.has t with
 |false=>rw[hh] at hc;cases hc
 |true=>
  rw[hh] at hc;rw[if_neg (by simp)] at hc⊢;obtain⟨h1,h2,h3⟩:=lW s L t a (List.range 8) hc;rw[h2,h3];have hdiv:p / aw (L+1)=p / aw L / 8:=by
   have:=eF L;rw[eD,Int.mul_comm,Int.ediv_ediv_of_nonneg (by omega)]
  have hpos:=eF L;have hq:0≤p / aw L:=Int.ediv_nonneg hp0 (by omega);have hix:=pX hp0 hp1 hL;rw[hdiv,pW];generalize hqq:p / aw L=q at*
  have hoff:∀i:Nat,i<8→q≠a*8+i→(gF s L t a i).filter (fun m=>over m p)=[]:=fun i hi hne=>by
   obtain⟨hd,hsub⟩:=h1 i (List.mem_range.2 hi);have hbi:=Az hL ha hb hi;unfold gF;dsimp only;split
   ·rename_i hl
    have:=(nV hd hl (show 0≤a*8+(i:Int) by omega) hbi hp0).1;rw[hqq,decide_eq_false hne] at this;rw[List.filter_cons,this];rfl
   ·rename_i hl
    split
    ·rename_i ht
     have hl':(aD (av s t i) L).leaf =E:=by simpa using hl
     have hcs:=hsub ⟨ht,hl'⟩;cases L with
     |zero=>cases hcs
     |succ K=>
      refine(ih K rfl (aD (av s t i) (K+1:Nat)).frame (a*8+i) [] hcs (by omega) hbi).1 ?_;rw[hqq];exact hne
    ·rfl
  refine⟨fun hne=>sU _ fun i hi=>hoff i hi (by omega),fun he=> ?_⟩;have hi8:(q % 8).toNat <8:=by omega
  have hon:q=a*8+((q % 8).toNat :Int):=by omega
  rw[zu _ (q % 8).toNat hi8 (fun i hi hne=>hoff i hi (by omega))];obtain⟨hd,hsub⟩:=h1 _ (List.mem_range.2 hi8);have hbi:=Az hL ha hb hi8;have hct:∀x∈eJ s L t a (q % 8).toNat,x∈(List.range 8).flatMap (eJ s L t a):=fun x hx=>List.mem_flatMap.2 ⟨_,List.mem_range.2 hi8,hx⟩;have hdw:=hd;rw[←hix] at hdw;by_cases hend:(aD (av s t (ap p L)) L).there =E∨(aD (av s t (ap p L)) L).leaf =H
  ·rw[dW hh hdw hend]
   refine⟨rfl,?_,?_,fun x hx=> ?_⟩
   ·rw[hix]
    unfold gF;dsimp only;by_cases hl:(aD (av s t ((q % 8).toNat :Nat)) L).leaf =H
    ·rw[if_pos hl,if_pos hl]
     have:=nV hd hl (show 0≤a*8+((q % 8).toNat :Int) by omega) hbi hp0;rw[hqq,decide_eq_true hon] at this;rw[List.filter_cons,this.1,this.2 hon hp1];rfl
    ·rw[if_neg hl,if_neg hl]
     rw[hix] at hend;have ht:(aD (av s t ((q % 8).toNat :Nat)) L).there =E:=by
      rcases hend with h|h
      ·exact h
      ·exact absurd h hl
     rw[if_neg (by rw[ht];simp)];rfl
   ·rcases hend with h|h
    ·show(aD _ _).there =(aD _ _).leaf
     rw[h];cases hl:(aD (av s t (ap p L)) L).leaf with
     |false=>rfl
     |true=>have:=(ir hdw hl).1;rw[h] at this;cases this
    ·show(aD _ _).there =(aD _ _).leaf
     rw[h,(ir hdw h).1]
   ·rcases List.mem_append.1 hx with hx|hx
    ·exact .inl hx
    ·exact .inr (.inl (List.mem_singleton.1 hx))
  ·obtain⟨K,hK,e⟩:=jh (acc:=acc) hh hdw hend
   rw[e];have hne:=hend;rw[not_or] at hne;have ht:(aD (av s t (ap p L)) L).there =H:=by simpa using hne.1
   have hl:(aD (av s t (ap p L)) L).leaf =E:=by simpa using hne.2
   subst hK;rw[hix] at ht hl⊢;have hcs:=hsub ⟨ht,hl⟩;have hi:=(ih K rfl (aD (av s t ((q % 8).toNat :Nat)) (K+1:Nat)).frame (a*8+((q % 8).toNat :Int)) (acc++[t]) hcs (by omega) hbi).2 (by rw[hqq];exact hon);obtain⟨i1,i2,i3,i4⟩:=hi;refine⟨i1,?_,i3,fun x hx=> ?_⟩
   ·unfold gF
    dsimp only;rw[if_neg (by rw[hl];simp),if_pos ht];exact i2
   ·have hcT:eJ s (K+1) t a (q % 8).toNat =(aD (av s t ((q % 8).toNat :Nat)) (K+1:Nat)).frame ::bU (gW s (K+1) (aD (av s t ((q % 8).toNat :Nat)) (K+1:Nat)).frame (a*8+((q % 8).toNat :Int))).vs :=by
     unfold eJ;dsimp only;rw[if_pos ⟨ht,hl⟩]
    rcases i4 x hx with h|h|h
    ·rcases List.mem_append.1 h with h|h
     ·exact .inl h
     ·exact .inr (.inl (List.mem_singleton.1 h))
    ·exact .inr (.inr (hct x (by rw[hcT,h];exact List.mem_cons_self ..)))
    ·exact .inr (.inr (hct x (by rw[hcT];exact List.mem_cons_of_mem _ h)))
theorem uG(s:Ms)(p:Int)(hp0:0≤p)(hp1:p<4096):∀(L:Nat),L≤3→∀(t a:Int) (acc:List Int),(cu s L t a).code =0→0≤a→a*aw (L+1)<4096→
  (p / aw (L+1)≠a→(bR (cu s L t a).vs).filter (fun m=>over m p)=[])∧
  (p / aw (L+1)=a→(cZ s p L t acc).code =0∧
   (bR (cu s L t a).vs).filter (fun m=>over m p)=(if(cZ s p L t acc).e.leaf =H then [aB (cZ s p L t acc).e (cZ s p L t acc).lev p] else [])∧
   (cZ s p L t acc).e.there =(cZ s p L t acc).e.leaf ∧∀x∈(cZ s p L t acc).tabs,x∈acc∨x=t∨x∈bU (cu s L t a).vs):=by
 intro L;induction L with
 |zero=>
  intro hL t a acc hc ha hb;exact nW s p hp0 hp1 0 hL t a acc (fun K hK=>by omega) hc ha hb
 |succ L ih=>
  intro hL t a acc hc ha hb;exact nW s p hp0 hp1 (L+1) hL t a acc (fun K hK=>by
   have e:L=K:=by omega
   subst e;exact ih (by omega)) hc ha hb
def cN(s:Ms)(p t:Int)(L:Nat):En:=aD (av s t (ap p L)) L
def it(s:Ms)(p t:Int)(L:Nat):Bool:=s.has t&&(decide (br (av s t (ap p L)) L=0)&&((cN s p t L).there && !(cN s p t L).leaf))
def bm(s:Ms)(r p:Int):Nat→Option Int
 |0=>G r
 |d+1=>(bm s r p d).bind fun u=>if it s p u (3 - d)=H then G (cN s p u (3 - d)).frame else J
def cO(s:Ms)(r p:Int)(n:Nat):List Int:=(List.range n).map fun d=>(bm s r p d).getD 0
structure Ends (s:Ms) (r p:Int) (d:Nat) (t:Int):Prop where
 le:d≤3
 tab:bm s r p d=G t
 use:s.has t=H
 dec:br (av s t (ap p (3 - d:Nat))) (3 - d:Nat)=0
 no:it s p t (3 - d)=E
theorem ji{s:Ms}{r p t:Int}{d:Nat}(h:bm s r p d=G t):cO s r p (d+1)=cO s r p d++[t]:=by
 unfold cO;rw[List.range_succ,List.map_append,List.map_singleton,h];rfl
theorem ly(s:Ms)(r p:Int)(n:Nat):(cO s r p n).length =n:=by simp[cO]
theorem fJ{s:Ms}{r p t:Int}{d:Nat}:bm s r p (d+1)=G t↔∃u,bm s r p d=G u∧it s p u (3 - d)=H∧(cN s p u (3 - d)).frame =t:=by
 show(bm s r p d).bind _=G t↔_;cases bm s r p d with
 |none=>simp
 |some u=>
  simp only[Option.bind_some,Option.some.injEq,exists_eq_left'];split
  ·rename_i h;simp[h]
  ·rename_i h;simp[h]
theorem dv{s:Ms}{r p t:Int}{d:Nat}(h:bm s r p d=G t)(hg:it s p t (3 - d)=E):bm s r p (d+1)=J:=by
 show(bm s r p d).bind _=J;rw[h];simp[hg]
theorem bC{s:Ms}{r p:Int}{d:Nat}(h:bm s r p d=J):∀e,d≤e→bm s r p e=J:=by
 intro e he;induction he with
 |refl=>exact h
 |step _ ih=>show(bm s r p _).bind _=J;rw[ih];rfl
theorem dY{s:Ms}{r p t:Int}{e:Nat}(h:bm s r p e=G t){d:Nat}(hd:d≤e):∃u,bm s r p d=G u:=by
 cases hh:bm s r p d with
 |some u=>exact⟨u,rfl⟩
 |none=>rw[bC hh e hd] at h;cases h
theorem jk{s:Ms}{p t:Int}{L:Nat}:it s p t L=H↔s.has t=H∧br (av s t (ap p L)) L=0∧(cN s p t L).there =H∧(cN s p t L).leaf =E:=by
 unfold it;simp only[Bool.and_eq_true,decide_eq_true_eq,Bool.not_eq_true']
theorem Ends.unique{s:Ms}{r p t u:Int}{d e:Nat}(h:Ends s r p d t)(k:Ends s r p e u):d=e∧t=u:=by
 have h1:=dv h.tab h.no;have h2:=dv k.tab k.no;have hde:d=e:=by
  rcases Nat.lt_trichotomy d e with hlt|rfl|hlt
  ·have:=bC h1 e hlt;rw[k.tab] at this;cases this
  ·rfl
  ·have:=bC h2 d hlt;rw[h.tab] at this;cases this
 subst hde;have:=h.tab.symm.trans k.tab;injection this with this
 exact⟨rfl,this⟩
theorem Ends.stop{s:Ms}{r p t:Int}{d:Nat}(h:Ends s r p d t):(cN s p t (3 - d)).there =E∨(cN s p t (3 - d)).leaf =H:=by
 have h1:=h.no;unfold it at h1;rw[h.use,decide_eq_true h.dec] at h1;simp only[Bool.true_and,Bool.and_eq_false_iff,Bool.not_eq_false'] at h1;exact h1
theorem sV{s:Ms}{r p:Int}:∀(L d:Nat) (t:Int),L+d=3→bm s r p d=G t→∀(e:Nat) (u:Int),d≤e→Ends s r p e u→
  cZ s p L t (cO s r p d)=⟨0,cO s r p (e+1),((3 - e:Nat):Int),cN s p u (3 - e)⟩:=by
 intro L;induction L with
 |zero=>
  intro d t hL ht e u hde he;have:=he.le;obtain rfl:e=d:=by omega
  obtain rfl:t=u:=by have:=ht.symm.trans he.tab;injection this
  obtain rfl:e=3:=by omega
  rw[dW he.use he.dec he.stop,ji ht];rfl
 |succ L ih=>
  intro d t hL ht e u hde he;by_cases hd:d=e
  ·subst hd
   obtain rfl:t=u:=by have:=ht.symm.trans he.tab;injection this
   have e3:3 - d=L+1:=by omega
   have hu:=he.use;have hc:=he.dec;have hs:=he.stop;rw[e3] at hc hs⊢;rw[dW hu hc hs,ji ht];rfl
  ·obtain⟨v,hv⟩:=dY he.tab (show d+1≤e by omega)
   obtain⟨t',h1,h2,h3⟩:=fJ.1 hv;obtain rfl:t'=t:=by have:=h1.symm.trans ht;injection this
   have e3:3 - d=L+1:=by omega
   rw[e3] at h2 h3;obtain⟨g1,g2,g3,g4⟩:=jk.1 h2;have hne:¬((aD (av s t' (ap p (L+1:Nat))) (L+1:Nat)).there =E∨(aD (av s t' (ap p (L+1:Nat))) (L+1:Nat)).leaf =H):=by
    unfold cN at g3 g4;rw[g3,g4];simp
   obtain⟨K,hK,ew⟩:=jh (acc:=cO s r p d) g1 g2 hne;obtain rfl:L=K:=by omega
   rw[ew,←ji ht];have h3':(aD (av s t' (ap p (L+1:Nat))) (L+1:Nat)).frame =v:=h3;rw[h3'];exact ih (d+1) v (by omega) hv e u (by omega) he
theorem bV{s:Ms}{r p t:Int}{d:Nat}(h0:0≤p)(h1:p<4096)(h:Ends s r p d t):way s r p=⟨0,cO s r p (d+1),((3 - d:Nat):Int),cN s p t (3 - d)⟩:=by
 unfold way;rw[if_pos (by unfold cY;rw[decide_eq_true h0,decide_eq_true h1];rfl)];exact sV 3 0 r rfl rfl d t (Nat.zero_le _) h
theorem fi(n:Nat):0<aw n:=eF n
theorem iu{p q:Int}{a b:Nat}(hab:a≤b)(h:p / aw a=q / aw a):p / aw b=q / aw b:=by
 induction hab with
 |refl=>exact h
 | @step n _ ih=>
  have:=fi n;rw[eD,Int.mul_comm,←Int.ediv_ediv_of_nonneg (by omega),←Int.ediv_ediv_of_nonneg (by omega),ih]
theorem ic{p q:Int}(hp:0≤p∧p<4096)(hq:0≤q∧q<4096){L:Nat}(h:p / aw L=q / aw L):ap p L=ap q L:=by
 unfold ap;by_cases hL:L<4
 ·rw[if_pos ⟨hp.1,hp.2,by omega,by omega⟩,if_pos ⟨hq.1,hq.2,by omega,by omega⟩,Int.toNat_natCast,h]
 ·rw[if_neg (by omega),if_neg (by omega)]
theorem oO{p q:Int}(hp:0≤p∧p<4096)(hq:0≤q∧q<4096){L:Nat}(hL:L≤3)(h:p / aw (L+1)=q / aw (L+1))(hi:ap p L=ap q L):p / aw L=q / aw L:=by
 have h0:=fi L;have e:∀x:Int,x / aw (L+1)=x / aw L / 8:=fun x=>by rw[eD,Int.mul_comm,←Int.ediv_ediv_of_nonneg (by omega)]
 rw[e,e] at h;unfold ap at hi;rw[if_pos ⟨hp.1,hp.2,by omega,by omega⟩,if_pos ⟨hq.1,hq.2,by omega,by omega⟩,Int.toNat_natCast] at hi;omega
theorem bX{p:Int}(hp:0≤p∧p<4096){L:Nat}(hL:L≤3):0≤ap p L∧ap p L<8:=by
 unfold ap;rw[if_pos ⟨hp.1,hp.2,by omega,by omega⟩];omega
theorem wC{p q:Int}(hp:0≤p∧p<4096)(hq:0≤q∧q<4096):p / aw 4=q / aw 4:=by
 have:aw 4=4096:=rfl;rw[this];omega
theorem sX{p:Int}(hp:0≤p∧p<4096){L:Nat}(hL:L≤3):ap p L=p / aw L % 8:=by
 unfold ap;rw[if_pos ⟨hp.1,hp.2,by omega,by omega⟩,Int.toNat_natCast]
theorem lY{p:Int}(hp:0≤p∧p<4096){L:Nat}(hL:L≤3)(i:Nat)(hi:i<8):∃q,(0≤q∧q<4096)∧q / aw (L+1)=p / aw (L+1)∧ap q L=i∧q % aw L=0:=by
 have h:(0≤(p / aw (L+1)*8+i)*aw L∧(p / aw (L+1)*8+i)*aw L<4096)∧(p / aw (L+1)*8+i)*aw L / aw (L+1)=p / aw (L+1)∧(p / aw (L+1)*8+i)*aw L / aw L % 8=i∧(p / aw (L+1)*8+i)*aw L % aw L=0:=by
  have hL':L=0∨L=1∨L=2∨L=3:=by omega
  rcases hL' with rfl|rfl|rfl|rfl<;>simp only[aw]<;>omega
 exact⟨(p / aw (L+1)*8+i)*aw L,h.1,h.2.1,(sX h.1 hL).trans h.2.2.1,h.2.2.2⟩
theorem bS(s:Ms)(r:Int){p q:Int}(hp:0≤p∧p<4096)(hq:0≤q∧q<4096):∀(d:Nat),d≤4→p / aw (4 - d)=q / aw (4 - d)→bm s r p d=bm s r q d:=by
 intro d;induction d with
 |zero=>intro _ _;rfl
 |succ d ih=>
  intro hd h;have h3:p / aw (3 - d)=q / aw (3 - d):=by rw[show 4 - (d+1)=3 - d by omega] at h;exact h
  have hi:=ic hp hq h3;show(bm s r p d).bind _=(bm s r q d).bind _;rw[ih (by omega) (iu (by omega) h)];congr 1
  funext u
  unfold it cN;rw[hi]
def de(p:Int):Prop:=0≤p∧p<4096
def rL(s:Ms)(r t:Int):Prop:=∃p d,de p∧d≤3∧bm s r p d=G t
structure Wf (s:Ms) (r:Int) (gone:List Int) (X:Int→Prop):Prop where
 ends:∀p,de p→∃d t,Ends s r p d t
 inj:∀p q d e t,de p→de q→d≤3→e≤3→bm s r p d=G t→bm s r q e=G t→d=e∧p / aw (4 - d)=q / aw (4 - d)
 full:∀p d t,de p→d<3→bm s r p (d+1)=G t→X t∨∃i:Nat,i<8∧av s t i≠0
 use:∀k:Nat,s.tk k=H↔rL s r k∨(k:Int)∈gone
 nd:gone.Nodup
 gz:∀g∈gone,0≤g∧∀i:Nat,i<8→av s g i=0
 gt:∀g∈gone,¬rL s r g
section
variable {s:Ms} {r:Int} {gone:List Int} {X:Int→Prop}
theorem Wf.mono{Y:Int→Prop}(h:Wf s r gone X)(hxy:∀t,X t→Y t):Wf s r gone Y:=
 ⟨h.ends,h.inj,fun p d t a b c=>(h.full p d t a b c).imp (hxy t) id,h.use,h.nd,h.gz,h.gt⟩
theorem Wf.at_(h:Wf s r gone X){p t:Int}{d:Nat}(hp:de p)(hd:d≤3)(ht:bm s r p d=G t):
  s.has t=H∧br (av s t (ap p (3 - d:Nat))) (3 - d:Nat)=0:=by
 cases hg:it s p t (3 - d) with
 |true=>have:=jk.1 hg;exact⟨this.1,this.2.1⟩
 |false=>
  obtain⟨e,u,he⟩:=h.ends p hp;have h1:=dv ht hg;have hle:e≤d:=by
   rcases Nat.lt_or_ge d e with hlt|hge
   ·have:=bC h1 e hlt;rw[he.tab] at this;cases this
   ·exact hge
  rcases Nat.lt_or_ge e d with hlt|hge
  ·have:=bC (dv he.tab he.no) d hlt;rw[ht] at this;cases this
  ·obtain rfl:e=d:=by omega
   obtain rfl:t=u:=by have:=ht.symm.trans he.tab;injection this
   exact⟨he.use,he.dec⟩
theorem Wf.nat(h:Wf s r gone X){p t:Int}{d:Nat}(hp:de p)(hd:d≤3)(ht:bm s r p d=G t):0≤t∧t<s.n∧s.tk t.toNat=H:=Ms.has_iff.1 (h.at_ hp hd ht).1
theorem Wf.dec(h:Wf s r gone X){p t:Int}{d:Nat}(hp:de p)(hd:d≤3)(ht:bm s r p d=G t)(i:Nat)(hi:i<8):br (av s t i) (3 - d:Nat)=0:=by
 obtain⟨q,hq,hpre,hix,_⟩:=lY hp (show 3 - d≤3 by omega) i hi;have e1:bm s r q d=G t:=by
  rw[←ht];exact bS s r hq hp d (by omega) (by rw[show 4 - d=3 - d+1 by omega];exact hpre)
 have:=(h.at_ hq hd e1).2;rw[hix] at this;exact this
theorem Ends.same{p q t:Int}{d:Nat}(hp:de p)(hq:de q)(h:Ends s r p d t)(hpre:q / aw (3 - d)=p / aw (3 - d)):Ends s r q d t∧cN s q t (3 - d)=cN s p t (3 - d):=by
 have hi:=ic hq hp hpre;have:=h.le;refine⟨⟨h.le,?_,h.use,by rw[hi];exact h.dec,?_⟩,by unfold cN;rw[hi]⟩
 ·rw[←h.tab]
  exact bS s r hq hp d (by omega) (iu (by omega) hpre)
 ·have:=h.no
  unfold it cN at this⊢;rw[hi];exact this
theorem dz{s:Ms}{t i u j:Int}{v:Int}(hu:0≤u)(ht:0≤t)(hi:0≤i)(hj:0≤j):av (s.setW t.toNat i.toNat v) u j=if u=t∧j=i then v else av s u j:=by
 show(if u.toNat=t.toNat∧j.toNat=i.toNat then v else s.wd u.toNat j.toNat)=_;by_cases h:u=t∧j=i
 ·rw[if_pos h,if_pos ⟨by rw[h.1],by rw[h.2]⟩]
 ·rw[if_neg h,if_neg (by omega)]
  rfl
theorem iY(s:Ms)(t i:Nat)(v u:Int):(s.setW t i v).has u=s.has u:=rfl
section leaf
variable {p t v:Int} {d:Nat}
abbrev cM(s:Ms)(p t:Int)(d:Nat)(v:Int):Ms:=s.setW t.toNat (ap p (3 - d:Nat)).toNat v
theorem yr(h:Wf s r gone X)(hp:de p)(hd:d≤3)(ht:bm s r p d=G t){q u:Int}{e:Nat}(hq:de q)(he:e≤3)(hu:bm s r q e=G u):
  (u=t∧ap q (3 - e:Nat)=ap p (3 - d:Nat))↔(e=d∧q / aw (3 - d)=p / aw (3 - d)):=by
 constructor
 ·rintro⟨rfl,hi⟩
  obtain⟨rfl,hpre⟩:=h.inj q p e d u hq hp he hd hu ht;refine⟨rfl,oO hq hp (by omega) ?_ hi⟩;rw[show 3 - e+1=4 - e by omega];exact hpre
 ·rintro⟨rfl,hpre⟩
  have:bm s r q e=bm s r p e:=bS s r hq hp e (by omega) (iu (by omega) hpre);rw[hu,ht] at this;injection this with this
  exact⟨this,ic hq hp hpre⟩
theorem jJ(h:Wf s r gone X)(hp:de p)(hd:d≤3)(ht:bm s r p d=G t){q u:Int}{e:Nat}(hq:de q)(he:e≤3)(hu:bm s r q e=G u):
  av (cM s p t d v) u (ap q (3 - e:Nat))=if e=d∧q / aw (3 - d)=p / aw (3 - d) then v else av s u (ap q (3 - e:Nat)):=by
 have h1:=(h.nat hp hd ht).1;have h2:=(h.nat hq he hu).1;have i1:=bX hp (show 3 - d≤3 by omega);have i2:=bX hq (show 3 - e≤3 by omega);rw[dz h2 h1 i1.1 i2.1];have:=yr h hp hd ht hq he hu;by_cases hs:u=t∧ap q (3 - e:Nat)=ap p (3 - d:Nat)
 ·rw[if_pos hs,if_pos (this.1 hs)]
 ·rw[if_neg hs,if_neg (fun x=>hs (this.2 x))]
def kd(v:Int)(L:Nat):Prop:=br v L=0∧¬((aD v L).there =H∧(aD v L).leaf =E)
theorem fN(h:Wf s r gone X)(hp:de p)(hd:d≤3)(ht:bm s r p d=G t)(hg:it s p t (3 - d)=E)(hv:kd v (3 - d)){q:Int}(hq:de q):
  ∀e,e≤4→bm (cM s p t d v) r q e=bm s r q e:=by
 intro e;induction e with
 |zero=>intro _;rfl
 |succ e ih=>
  intro he;show(bm (cM s p t d v) r q e).bind _=(bm s r q e).bind _;rw[ih (by omega)];cases hu:bm s r q e with
  |none=>rfl
  |some u=>
   have hw:=jJ (v:=v) h hp hd ht hq (show e≤3 by omega) hu;simp only[Option.bind_some];by_cases hs:e=d∧q / aw (3 - d)=p / aw (3 - d)
   ·rw[if_pos hs] at hw
    obtain⟨rfl,hpre⟩:=hs;have g1:it (cM s p t e v) q u (3 - e)=E:=by
     unfold it cN;rw[hw];have:=hv.2;cases h1:(aD v (3 - e:Nat)).there <;>cases h2:(aD v (3 - e:Nat)).leaf <;>simp_all
    have g2:it s q u (3 - e)=E:=by
     have hix:=ic hq hp hpre;obtain⟨rfl,_⟩:=(yr h hp hd ht hq hd hu).2 ⟨rfl,hpre⟩;unfold it cN at hg⊢;rw[hix];exact hg
    rw[g1,g2];simp
   ·rw[if_neg hs] at hw
    unfold it cN;rw[hw,iY]
theorem wD(h:Wf s r gone X)(hp:de p)(hd:d≤3)(ht:bm s r p d=G t)(hg:it s p t (3 - d)=E)(hv:kd v (3 - d))(u:Int):rL (cM s p t d v) r u↔rL s r u:=by
 constructor
 ·rintro⟨q,e,hq,he,hu⟩
  rw[fN h hp hd ht hg hv hq e (by omega)] at hu;exact⟨q,e,hq,he,hu⟩
 ·rintro⟨q,e,hq,he,hu⟩
  rw[←fN h hp hd ht hg hv hq e (by omega)] at hu;exact⟨q,e,hq,he,hu⟩
theorem mG(h:Wf s r gone X)(hp:de p)(hd:d≤3)(ht:bm s r p d=G t)(hg:it s p t (3 - d)=E)(hv:kd v (3 - d)){q u:Int}{e:Nat}(hq:de q)(he:Ends s r q e u):
  Ends (cM s p t d v) r q e u∧cN (cM s p t d v) q u (3 - e)=if e=d∧q / aw (3 - d)=p / aw (3 - d) then aD v (3 - d:Nat) else cN s q u (3 - e):=by
 have hle:=he.le;have hw:=jJ (v:=v) h hp hd ht hq he.le he.tab;have ht':=(fN h hp hd ht hg hv hq e (by omega)).trans he.tab;by_cases hs:e=d∧q / aw (3 - d)=p / aw (3 - d)
 ·rw[if_pos hs] at hw⊢
  obtain⟨rfl,hpre⟩:=hs;refine⟨⟨hle,ht',he.use,by rw[hw];exact hv.1,?_⟩,by unfold cN;rw[hw]⟩;unfold it cN;rw[hw];have:=hv.2;cases h1:(aD v (3 - e:Nat)).there <;>cases h2:(aD v (3 - e:Nat)).leaf <;>simp_all
 ·rw[if_neg hs] at hw⊢
  refine⟨⟨hle,ht',he.use,by rw[hw];exact he.dec,?_⟩,by unfold cN;rw[hw]⟩;have:=he.no;unfold it cN at this⊢;rw[hw,iY];exact this
theorem Wf.put(h:Wf s r gone X)(hp:de p)(hd:d≤3)(ht:bm s r p d=G t)(hg:it s p t (3 - d)=E)(hv:kd v (3 - d)):
  Wf (cM s p t d v) r gone (fun u=>(X u∧(v=0∨u≠t))∨(v=0∧u=t)):=by
 have hT:=wD h hp hd ht hg hv;have hn:=h.nat hp hd ht;have i1:=bX hp (show 3 - d≤3 by omega);refine⟨fun q hq=> ?_,fun q q' e e' u a b c c' k k'=> ?_,fun q e u hq he hu=> ?_,fun k=> ?_,h.nd,fun g hg'=> ?_,fun g hg'=> ?_⟩
 ·obtain⟨e,u,he⟩:=h.ends q hq
  exact⟨e,u,(mG h hp hd ht hg hv hq he).1⟩
 ·rw[fN h hp hd ht hg hv a e (by omega)] at k
  rw[fN h hp hd ht hg hv b e' (by omega)] at k';exact h.inj q q' e e' u a b c c' k k'
 ·rw[fN h hp hd ht hg hv hq (e+1) (by omega)] at hu
  have hun:=h.nat hq (by omega) hu;by_cases hut:u=t
  ·subst hut
   by_cases hv0:v=0
   ·exact .inl (.inr ⟨hv0,rfl⟩)
   ·refine .inr ⟨(ap p (3 - d:Nat)).toNat,by omega,?_⟩
    rw[dz hn.1 hn.1 i1.1 (by omega),if_pos ⟨rfl,by omega⟩];exact hv0
  ·rcases h.full q e u hq he hu with hx|⟨i,hi,hw⟩
   ·exact .inl (.inl ⟨hx,.inr hut⟩)
   ·refine .inr ⟨i,hi,?_⟩
    rw[dz hun.1 hn.1 i1.1 (by omega),if_neg (fun x=>hut x.1)];exact hw
 ·rw[hT]
  exact h.use k
 ·obtain⟨g0,gz⟩:=h.gz g hg'
  refine⟨g0,fun i hi=> ?_⟩;rw[dz g0 hn.1 i1.1 (by omega),if_neg]
  ·exact gz i hi
  ·rintro⟨rfl,_⟩
   exact h.gt g hg' ⟨p,d,hp,hd,ht⟩
 ·rw[hT]
  exact h.gt g hg'
end leaf
end
theorem eu{L:Nat}(hL:L≤3):br 0 L=0∧aD 0 L=En.zero:=by
 have h1:br 0 L=0:=by
  unfold br;rw[if_neg (by omega),if_neg (by unfold iM;simp),if_pos rfl]
 refine⟨h1,?_⟩;unfold aD;rw[if_neg (by simp)]
def sY(k:Int):En:=⟨H,E,7,E,E,k⟩
def iP(k:Int)(L:Nat):Int:=bq (sY k) L
theorem rM{k:Int}(h0:0≤k)(h1:k<1048576){L:Nat}(hL:0<L)(hL3:L≤3):aj (sY k) L=0:=by
 unfold aj sY;simp;omega
theorem pY{k:Int}(h0:0≤k)(h1:k<1048576){L:Nat}(hL:0<L)(hL3:L≤3):br (iP k L) L=0∧aD (iP k L) L=sY k:=by
 have:=kT (rM h0 h1 hL hL3);exact⟨this.1,this.2.1⟩
theorem iZ{s:Ms}{p t:Int}{L:Nat}(hL:L≤3)(h:av s t (ap p L)=0):cN s p t L=En.zero:=by
 unfold cN;rw[h];exact(eu hL).2
theorem fO{s:Ms}{p t:Int}{L:Nat}(hL:L≤3)(h:av s t (ap p L)=0):it s p t L=E:=by
 unfold it;rw[iZ hL h];simp[En.zero]
section
variable {s:Ms} {r:Int} {gone:List Int} {X:Int→Prop} {p t:Int} {d:Nat}
def dG(s:Ms)(p t:Int)(d k:Nat):Ms:=cM (s.take k) p t d (iP k (3 - d))
section graft
variable {k:Nat}
theorem mH{u:Int}(s:Ms)(k:Nat)(h:u≠k):(s.take k).has u=s.has u:=by
 unfold Ms.has;by_cases h0:0≤u
 ·have:u.toNat≠k:=by omega
  show(_&&(_&&bT s.tk k H u.toNat))=_;rw[iE _ _ this];rfl
 ·simp[h0]
theorem dK{s:Ms}{k:Nat}(h:k<s.n):(s.take k).has k=H:=by
 refine Ms.has_iff.2 ⟨by omega,?_,?_⟩
 ·show(k:Int)<s.n;omega
 ·show bT s.tk k H (k:Int).toNat =H
  rw[Int.toNat_natCast,lr]
theorem jl{s:Ms}{k:Nat}{u:Int}(hu:0≤u)(j:Int):av (s.take k) u j=if u=k then 0 else av s u j:=by
 show(if u.toNat=k then 0 else s.wd u.toNat j.toNat)=_;by_cases h:u=k
 ·rw[if_pos h,if_pos (by omega)]
 ·rw[if_neg h,if_neg (by omega)]
  rfl
theorem Wf.fresh(h:Wf s r gone X)(hk:s.tk k=E):¬rL s r k∧(k:Int) ∉ gone:=by
 constructor
 ·intro hi
  have:=(h.use k).2 (.inl hi);rw[hk] at this;cases this
 ·intro hi
  have:=(h.use k).2 (.inr hi);rw[hk] at this;cases this
theorem mI(h:Wf s r gone X)(he:Ends s r p d t)(hp:de p)(hk:s.tk k=E){q u:Int}{e:Nat}(hq:de q)(hle:e≤3)(hu:bm s r q e=G u):
  (dG s p t d k).has u=s.has u∧av (dG s p t d k) u (ap q (3 - e:Nat))=if e=d∧q / aw (3 - d)=p / aw (3 - d) then iP k (3 - d) else av s u (ap q (3 - e:Nat)):=by
 have hn:=h.nat hp he.le he.tab;have hun:=h.nat hq hle hu;have i1:=bX hp (show 3 - d≤3 by omega);have i2:=bX hq (show 3 - e≤3 by omega);have huk:u≠k:=by
  intro e;have:=hun.2.2;rw[e,Int.toNat_natCast,hk] at this;cases this
 refine⟨by unfold dG cM;rw[iY,mH s k huk],?_⟩;unfold dG cM;rw[dz hun.1 hn.1 i1.1 i2.1,jl hun.1,if_neg huk];have:=yr h hp he.le he.tab hq hle hu;by_cases hs:u=t∧ap q (3 - e:Nat)=ap p (3 - d:Nat)
 ·rw[if_pos hs,if_pos (this.1 hs)]
 ·rw[if_neg hs,if_neg (fun x=>hs (this.2 x))]
theorem nX(h:Wf s r gone X)(he:Ends s r p d t)(hp:de p)(hk:s.tk k=E)(hn:k<s.n)(j:Int)(hj:0≤j):(dG s p t d k).has k=H∧av (dG s p t d k) k j=0:=by
 have htn:=h.nat hp he.le he.tab;have i1:=bX hp (show 3 - d≤3 by omega);have hkt:(k:Int)≠t:=by
  intro e;have:=htn.2.2;rw[←e,Int.toNat_natCast,hk] at this;cases this
 unfold dG cM;rw[iY];refine⟨dK hn,?_⟩;rw[dz (by omega) htn.1 i1.1 hj,if_neg (fun x=>hkt x.1),jl (by omega),if_pos rfl]
theorem eR(h:Wf s r gone X)(he:Ends s r p d t)(hp:de p)(hd:d≤2)(hk:s.tk k=E)(hn:k<s.n)(hs:s.n≤128){q:Int}(hq:de q):
  ∀e,e≤4→bm (dG s p t d k) r q e=if e=d+1∧q / aw (3 - d)=p / aw (3 - d) then G (k:Int) else bm s r q e:=by
 intro e;induction e with
 |zero=>intro _;rw[if_neg (by omega)];rfl
 |succ e ih=>
  intro hle;have ih:=ih (by omega);by_cases h1:e=d+1∧q / aw (3 - d)=p / aw (3 - d)
  ·rw[if_pos h1] at ih
   have g0:it (dG s p t d k) q k (3 - e)=E:=fO (by omega) (nX h he hp hk hn _ (bX hq (by omega)).1).2;rw[dv ih g0,if_neg (by omega)];obtain⟨rfl,hpre⟩:=h1;have hq':=(he.same hp hq hpre).1;exact(bC (dv hq'.tab hq'.no) _ (by omega)).symm
  ·rw[if_neg h1] at ih
   cases hu:bm s r q e with
   |none=>
    rw[hu] at ih;rw[bC ih (e+1) (by omega),bC hu (e+1) (by omega)];rw[if_neg];rintro⟨h2,hpre⟩;obtain rfl:e=d:=by omega
    rw[(he.same hp hq hpre).1.tab] at hu;cases hu
   |some u=>
    rw[hu] at ih;obtain⟨w1,w2⟩:=mI h he hp hk hq (show e≤3 by omega) hu;show(bm (dG s p t d k) r q e).bind _=_;rw[ih,Option.bind_some];by_cases h2:e=d∧q / aw (3 - d)=p / aw (3 - d)
    ·rw[if_pos h2] at w2
     obtain⟨rfl,hpre⟩:=h2;obtain⟨t1,t2⟩:=pY (k:=(k:Int)) (by omega) (by omega) (show 0<3 - e by omega) (by omega);have hhas:=(h.at_ hq (by omega) hu).1;have g1:it (dG s p t e k) q u (3 - e)=H:=by
      refine jk.2 ⟨w1.trans hhas,by rw[w2];exact t1,?_,?_⟩
      ·unfold cN;rw[w2,t2];rfl
      ·unfold cN;rw[w2,t2];rfl
     rw[if_pos g1,if_pos ⟨rfl,hpre⟩];unfold cN;rw[w2,t2];rfl
    ·rw[if_neg h2] at w2
     have hn2:¬(e+1=d+1∧q / aw (3 - d)=p / aw (3 - d)):=fun z=>h2 ⟨by omega,z.2⟩;rw[if_neg hn2];show _=(bm s r q e).bind _;rw[hu,Option.bind_some];unfold it cN;rw[w1,w2]
theorem sZ(h:Wf s r gone X)(he:Ends s r p d t)(hp:de p)(hd:d≤2)(hk:s.tk k=E)(hn:k<s.n)(hs:s.n≤128)(u:Int):rL (dG s p t d k) r u↔rL s r u∨u=k:=by
 constructor
 ·rintro⟨q,e,hq,hle,hu⟩
  rw[eR h he hp hd hk hn hs hq e (by omega)] at hu;split at hu
  ·injection hu with hu;exact .inr hu.symm
  ·exact .inl ⟨q,e,hq,hle,hu⟩
 ·rintro(⟨q,e,hq,hle,hu⟩|rfl)
  ·refine⟨q,e,hq,hle,?_⟩
   rw[eR h he hp hd hk hn hs hq e (by omega),if_neg]
   ·exact hu
   ·rintro⟨rfl,hpre⟩
    have hq':=(he.same hp hq hpre).1;rw[dv hq'.tab hq'.no] at hu;cases hu
  ·refine⟨p,d+1,hp,by omega,?_⟩
   rw[eR h he hp hd hk hn hs hp (d+1) (by omega),if_pos ⟨rfl,rfl⟩]
theorem mJ(h:Wf s r gone X)(he:Ends s r p d t)(hp:de p)(hd:d≤2)(hk:s.tk k=E)(hn:k<s.n)(hs:s.n≤128){q u:Int}{e:Nat}(hq:de q)(hu:Ends s r q e u):
  if q / aw (3 - d)=p / aw (3 - d) then Ends (dG s p t d k) r q (d+1) k∧cN (dG s p t d k) q k (2 - d)=En.zero
  else Ends (dG s p t d k) r q e u∧cN (dG s p t d k) q u (3 - e)=cN s q u (3 - e):=by
 by_cases hpre:q / aw (3 - d)=p / aw (3 - d)
 ·rw[if_pos hpre]
  have e3:3 - (d+1)=2 - d:=by omega
  have i2:=bX hq (show 2 - d≤3 by omega);obtain⟨n1,n2⟩:=nX h he hp hk hn _ i2.1;refine⟨⟨by omega,?_,n1,?_,?_⟩,iZ (by omega) n2⟩
  ·rw[eR h he hp hd hk hn hs hq (d+1) (by omega),if_pos ⟨rfl,hpre⟩]
  ·rw[e3,n2];exact(eu (by omega)).1
  ·rw[e3];exact fO (by omega) n2
 ·rw[if_neg hpre]
  have hle:=hu.le;obtain⟨w1,w2⟩:=mI h he hp hk hq hle hu.tab;rw[if_neg (fun x=>hpre x.2)] at w2;refine⟨⟨hle,?_,w1.trans hu.use,by rw[w2];exact hu.dec,?_⟩,by unfold cN;rw[w2]⟩
  ·rw[eR h he hp hd hk hn hs hq e (by omega),if_neg (fun x=>hpre x.2)]
   exact hu.tab
  ·have:=hu.no
   unfold it cN at this⊢;rw[w1,w2];exact this
theorem Wf.graft(h:Wf s r gone X)(he:Ends s r p d t)(hp:de p)(hd:d≤2)(hk:s.tk k=E)(hn:k<s.n)(hs:s.n≤128):Wf (dG s p t d k) r gone (fun u=>(X u∧u≠t)∨u=k):=by
 have hT:=sZ h he hp hd hk hn hs;have htn:=h.nat hp he.le he.tab;have i1:=bX hp (show 3 - d≤3 by omega);obtain⟨f1,f2⟩:=h.fresh hk;refine⟨fun q hq=> ?_,fun q q' e e' u a b c c' x x'=> ?_,fun q e u hq hle hu=> ?_,fun j=> ?_,h.nd,fun g hg'=> ?_,fun g hg'=> ?_⟩
 ·obtain⟨e,u,hu⟩:=h.ends q hq
  have:=mJ h he hp hd hk hn hs hq hu;split at this
  ·exact⟨_,_,this.1⟩
  ·exact⟨_,_,this.1⟩
 ·rw[eR h he hp hd hk hn hs a e (by omega)] at x
  rw[eR h he hp hd hk hn hs b e' (by omega)] at x';split at x<;>split at x'
  ·rename_i y y'
   obtain⟨rfl,y⟩:=y;obtain⟨rfl,y'⟩:=y';exact⟨rfl,by rw[show 4 - (d+1)=3 - d by omega];exact y.trans y'.symm⟩
  ·injection x with x;subst x
   exact absurd ⟨q',e',b,c',x'⟩ f1
  ·injection x' with x';subst x'
   exact absurd ⟨q,e,a,c,x⟩ f1
  ·exact h.inj q q' e e' u a b c c' x x'
 ·by_cases huk:u=k
  ·exact .inl (.inr huk)
  ·rw[eR h he hp hd hk hn hs hq (e+1) (by omega)] at hu
   split at hu
   ·injection hu with hu;exact absurd hu.symm huk
   have hun:=h.nat hq (by omega) hu;by_cases hut:u=t
   ·subst hut
    refine .inr ⟨(ap p (3 - d:Nat)).toNat,by omega,?_⟩;unfold Go.Proofs.YtmfheghbgihdmaaGreat.dG cM;rw[dz hun.1 hun.1 i1.1 (by omega),if_pos ⟨rfl,by omega⟩];intro h0;obtain⟨_,t2⟩:=pY (k:=(k:Int)) (by omega) (by omega) (show 0<3 - d by omega) (by omega);rw[h0,(eu (by omega)).2] at t2;cases t2
   ·rcases h.full q e u hq hle hu with hx|⟨i,hi,hw⟩
    ·exact .inl (.inl ⟨hx,hut⟩)
    ·refine .inr ⟨i,hi,?_⟩
     unfold Go.Proofs.YtmfheghbgihdmaaGreat.dG cM;rw[dz hun.1 htn.1 i1.1 (by omega),if_neg (fun x=>hut x.1),jl hun.1,if_neg huk];exact hw
 ·rw[hT]
  show bT s.tk k H j=H↔_;by_cases hj:j=k
  ·subst hj
   simp[lr]
  ·rw[iE _ _ hj,h.use j]
   constructor
   ·rintro(a|a)
    ·exact .inl (.inl a)
    ·exact .inr a
   ·rintro((a|a)|a)
    ·exact .inl a
    ·omega
    ·exact .inr a
 ·obtain⟨g0,gz⟩:=h.gz g hg'
  refine⟨g0,fun i hi=> ?_⟩;unfold Go.Proofs.YtmfheghbgihdmaaGreat.dG cM;have hgk:g≠k:=fun e=>f2 (e▸hg');rw[dz g0 htn.1 i1.1 (by omega),if_neg,jl g0,if_neg hgk]
  ·exact gz i hi
  ·rintro⟨rfl,_⟩
   exact h.gt g hg' ⟨p,d,hp,he.le,he.tab⟩
 ·rw[hT]
  rintro(a|a)
  ·exact h.gt g hg' a
  ·exact f2 (a▸hg')
end graft
section prune
variable {u:Int}
abbrev fP(s:Ms)(p u:Int)(d:Nat):Ms:=cM s p u d 0
theorem gv(h:Wf s r gone X)(hp:de p)(hd:d≤2)(hu:bm s r p d=G u)(ht:bm s r p (d+1)=G t)(hz:∀i:Nat,i<8→av s t i=0){q:Int}(hq:de q):
  ∀e,e≤4→bm (fP s p u d) r q e=if e=d+1∧q / aw (3 - d)=p / aw (3 - d) then J else bm s r q e:=by
 intro e;induction e with
 |zero=>intro _;rw[if_neg (by omega)];rfl
 |succ e ih=>
  intro hle;have ih:=ih (by omega);by_cases h1:e=d+1∧q / aw (3 - d)=p / aw (3 - d)
  ·rw[if_pos h1] at ih
   rw[bC ih (e+1) (by omega),if_neg (by omega)];obtain⟨rfl,hpre⟩:=h1;have hq':bm s r q (d+1)=G t:=by
    rw[←ht];exact bS s r hq hp (d+1) (by omega) (by rw[show 4 - (d+1)=3 - d by omega];exact hpre)
   have i2:=bX hq (show 3 - (d+1)≤3 by omega);refine(dv hq' (fO (by omega) ?_)).symm;have:=hz (ap q (3 - (d+1):Nat)).toNat (by omega);rwa [Int.toNat_of_nonneg i2.1] at this
  ·rw[if_neg h1] at ih
   cases hx:bm s r q e with
   |none=>
    rw[hx] at ih;rw[bC ih (e+1) (by omega),bC hx (e+1) (by omega)];simp
   |some x=>
    rw[hx] at ih;have w2:=jJ (v:=0) h hp (show d≤3 by omega) hu hq (show e≤3 by omega) hx;show(bm (fP s p u d) r q e).bind _=_;rw[ih,Option.bind_some];by_cases h2:e=d∧q / aw (3 - d)=p / aw (3 - d)
    ·rw[if_pos h2] at w2
     obtain⟨rfl,hpre⟩:=h2;have hp2:e+1=e+1∧q / aw (3 - e)=p / aw (3 - e):=⟨rfl,hpre⟩;rw[fO (by omega) w2,if_pos hp2];simp
    ·rw[if_neg h2] at w2
     have hn2:¬(e+1=d+1∧q / aw (3 - d)=p / aw (3 - d)):=fun z=>h2 ⟨by omega,z.2⟩;rw[if_neg hn2];show _=(bm s r q e).bind _;rw[hx,Option.bind_some];unfold it cN;rw[w2,iY]
theorem wE(h:Wf s r gone X)(hp:de p)(hd:d≤2)(hu:bm s r p d=G u)(ht:bm s r p (d+1)=G t)(hz:∀i:Nat,i<8→av s t i=0)(x:Int):rL (fP s p u d) r x↔rL s r x∧x≠t:=by
 constructor
 ·rintro⟨q,e,hq,hle,hx⟩
  rw[gv h hp hd hu ht hz hq e (by omega)] at hx;split at hx
  ·cases hx
  ·rename_i hne
   refine⟨⟨q,e,hq,hle,hx⟩,fun hxt=> ?_⟩;subst hxt;obtain⟨rfl,hpre⟩:=h.inj q p e (d+1) x hq hp hle (by omega) hx ht;rw[show 4 - (d+1)=3 - d by omega] at hpre;exact hne ⟨rfl,hpre⟩
 ·rintro⟨⟨q,e,hq,hle,hx⟩,hne⟩
  refine⟨q,e,hq,hle,?_⟩;rw[gv h hp hd hu ht hz hq e (by omega),if_neg]
  ·exact hx
  ·rintro⟨rfl,hpre⟩
   have:bm s r q (d+1)=bm s r p (d+1):=bS s r hq hp (d+1) (by omega) (by rw[show 4 - (d+1)=3 - d by omega];exact hpre);rw[hx,ht] at this;injection this with this
   exact hne this
theorem mK(h:Wf s r gone X)(hp:de p)(hd:d≤2)(hu:bm s r p d=G u)(ht:bm s r p (d+1)=G t)(hz:∀i:Nat,i<8→av s t i=0){q x:Int}{e:Nat}(hq:de q)(hx:Ends s r q e x):
  if q / aw (3 - d)=p / aw (3 - d) then Ends (fP s p u d) r q d u∧cN (fP s p u d) q u (3 - d)=En.zero
  else Ends (fP s p u d) r q e x∧cN (fP s p u d) q x (3 - e)=cN s q x (3 - e):=by
 by_cases hpre:q / aw (3 - d)=p / aw (3 - d)
 ·rw[if_pos hpre]
  have hqu:bm s r q d=G u:=by
   rw[←hu];exact bS s r hq hp d (by omega) (iu (by omega) hpre)
  have w2:=jJ (v:=0) h hp (show d≤3 by omega) hu hq (show d≤3 by omega) hqu;rw[if_pos ⟨rfl,hpre⟩] at w2;refine⟨⟨by omega,?_,(h.at_ hq (by omega) hqu).1,by rw[w2];exact(eu (by omega)).1,fO (by omega) w2⟩,iZ (by omega) w2⟩;rw[gv h hp hd hu ht hz hq d (by omega),if_neg (by omega)];exact hqu
 ·rw[if_neg hpre]
  have hle:=hx.le;have w2:=jJ (v:=0) h hp (show d≤3 by omega) hu hq hle hx.tab;rw[if_neg (fun y=>hpre y.2)] at w2;refine⟨⟨hle,?_,hx.use,by rw[w2];exact hx.dec,?_⟩,by unfold cN;rw[w2]⟩
  ·rw[gv h hp hd hu ht hz hq e (by omega),if_neg (fun y=>hpre y.2)]
   exact hx.tab
  ·have:=hx.no
   unfold it cN at this⊢;rw[w2,iY];exact this
theorem Wf.cut(h:Wf s r gone X)(hp:de p)(hd:d≤2)(hu:bm s r p d=G u)(ht:bm s r p (d+1)=G t)(hz:∀i:Nat,i<8→av s t i=0):Wf (fP s p u d) r (t::gone) (fun x=>(X x∧x≠t)∨x=u):=by
 have hT:=wE h hp hd hu ht hz;have hun:=h.nat hp (show d≤3 by omega) hu;have htn:=h.nat hp (show d+1≤3 by omega) ht;have i1:=bX hp (show 3 - d≤3 by omega);have hut:t≠u:=by
  rintro rfl;have:=(h.inj p p d (d+1) t hp hp (by omega) (by omega) hu ht).1;omega
 have htT:rL s r t:=⟨p,d+1,hp,by omega,ht⟩;refine⟨fun q hq=> ?_,fun q q' e e' x a b c c' y y'=> ?_,fun q e x hq hle hx=> ?_,fun j=> ?_,?_,fun g hg=> ?_,fun g hg=> ?_⟩
 ·obtain⟨e,x,hx⟩:=h.ends q hq
  have:=mK h hp hd hu ht hz hq hx;split at this
  ·exact⟨_,_,this.1⟩
  ·exact⟨_,_,this.1⟩
 ·rw[gv h hp hd hu ht hz a e (by omega)] at y
  rw[gv h hp hd hu ht hz b e' (by omega)] at y';split at y
  ·cases y
  split at y'
  ·cases y'
  exact h.inj q q' e e' x a b c c' y y'
 ·rw[gv h hp hd hu ht hz hq (e+1) (by omega)] at hx
  split at hx
  ·cases hx
  rename_i hne;have hxn:=h.nat hq (by omega) hx;by_cases hxu:x=u
  ·exact .inl (.inr hxu)
  ·rcases h.full q e x hq hle hx with hX|⟨i,hi,hw⟩
   ·refine .inl (.inl ⟨hX,fun hxt=> ?_⟩)
    subst hxt;obtain⟨h1,hpre⟩:=h.inj q p (e+1) (d+1) x hq hp (by omega) (by omega) hx ht;obtain rfl:e=d:=by omega
    rw[show 4 - (e+1)=3 - e by omega] at hpre;exact hne ⟨rfl,hpre⟩
   ·refine .inr ⟨i,hi,?_⟩
    rw[dz hxn.1 hun.1 i1.1 (by omega),if_neg (fun y=>hxu y.1)];exact hw
 ·rw[hT,List.mem_cons]
  show s.tk j=H↔_;rw[h.use j];by_cases hj:(j:Int)=t
  ·rw[hj]
   constructor
   ·intro _;exact .inr (.inl rfl)
   ·intro _;exact .inl htT
  ·constructor
   ·rintro(a|a)
    ·exact .inl ⟨a,hj⟩
    ·exact .inr (.inr a)
   ·rintro(a|a|a)
    ·exact .inl a.1
    ·exact absurd a hj
    ·exact .inr a
 ·rw[List.nodup_cons]
  exact⟨fun hm=>h.gt t hm htT,h.nd⟩
 ·have hgu:g≠u:=by
   rcases List.mem_cons.1 hg with rfl|hg
   ·exact hut
   ·rintro rfl
    exact h.gt g hg ⟨p,d,hp,by omega,hu⟩
  have g0:0≤g:=by
   rcases List.mem_cons.1 hg with rfl|hg
   ·exact htn.1
   ·exact(h.gz g hg).1
  refine⟨g0,fun i hi=> ?_⟩;rw[dz g0 hun.1 i1.1 (by omega),if_neg (fun y=>hgu y.1)];rcases List.mem_cons.1 hg with rfl|hg
  ·exact hz i hi
  ·exact(h.gz g hg).2 i hi
 ·rw[hT]
  rintro⟨a,b⟩;rcases List.mem_cons.1 hg with rfl|hg
  ·exact b rfl
  ·exact h.gt g hg a
end prune
end
namespace Bk
theorem take_pos(l:List Mp)(p:Int):l.takeWhile (before p)=l.take (pos l p):=by
 conv=>rhs;rw[←split l p]
 unfold pos;rw[List.take_append_of_le_length (by rw[split];exact Nat.le_refl _),split,List.take_of_length_le (Nat.le_refl _)]
theorem drop_pos(l:List Mp)(p:Int):l.dropWhile (before p)=l.drop (pos l p):=by
 have h:=split l p;rw[take_pos] at h;have h2:=List.take_append_drop (pos l p) l;exact List.append_cancel_left (h.trans h2.symm)
theorem ins_eq(l:List Mp)(m:Mp):ins l m=l.take (pos l m.page)++m::l.drop (pos l m.page):=by
 unfold ins;rw[take_pos,drop_pos]
theorem behind{l:List Mp}(h:Ok l){m:Mp}(hm:MapOk m){i:Nat}(hi:i<l.length)(hn:dV l[i] m=E):decide (m.page<l[i].page)=decide (pos l m.page≤i):=by
 have hx:=h.chk l[i] (List.getElem_mem hi);have hb:=pos_iff h m.page hi;have h1:=(fZ hx hm).1 hn;have h2:=before_iff (p:=m.page) hx;have:=hx.sp;have:=hm.sp;by_cases hp:pos l m.page≤i
 ·rw[decide_eq_true hp]
  rw[decide_eq_false (by omega)] at hb;have:¬l[i].page +bn l[i].size ≤m.page:=fun e=>by rw[h2.2 e] at hb;cases hb
  exact decide_eq_true (by omega)
 ·rw[decide_eq_false hp]
  rw[decide_eq_true (by omega)] at hb;have:=h2.1 hb;exact decide_eq_false (by omega)
theorem mem_ins{l:List Mp}{m x:Mp}:x∈ins l m↔x=m∨x∈l:=by
 unfold ins;conv=>rhs;rw[←split l m.page]
 simp only[List.mem_append,List.mem_cons];constructor
 ·rintro(a|a|a)
  ·exact .inr (.inl a)
  ·exact .inl a
  ·exact .inr (.inr a)
 ·rintro(a|a|a)
  ·exact .inr (.inl a)
  ·exact .inl a
  ·exact .inr (.inr a)
end Bk
theorem tb(a b:Mp):dV a b=dV b a:=Bool.or_comm _ _
namespace Bk
theorem place{l:List Mp}(h:Ok l)(p:Int):(find l p=J∧del l p=l∧∀r,prot l p r=l)∨
  ∃hl:pos l p<l.length,over l[pos l p] p=H∧find l p=G l[pos l p]∧0≤p∧p<4096∧del l p=l.take (pos l p)++l.drop (pos l p+1)∧
   ∀r,prot l p r=l.take (pos l p)++{l[pos l p] with rights:=r}::l.drop (pos l p+1):=by
 have hf:=find_head h p;have hd:=del_head h p;have hp:=fun r=>prot_head h p r;cases e:l.dropWhile (before p) with
 |nil=>
  rw[e] at hf hd;exact .inl ⟨hf,hd,fun r=>by rw[hp r,e]⟩
 |cons y k=>
  obtain⟨hl,hy⟩:=drop_head e;rw[e] at hf hd;have hk:l.drop (pos l p+1)=k:=by
   have h1:=drop_pos l p;rw[e,List.drop_eq_getElem_cons hl] at h1;injection h1 with _ h1
   exact h1.symm
  cases ho:over y p with
  |false=>
   refine .inl ⟨?_,?_,fun r=> ?_⟩
   ·rw[hf];exact if_neg (by rw[ho];simp)
   ·rw[hd];exact if_neg (by rw[ho];simp)
   ·rw[hp r,e];exact if_neg (by rw[ho];simp)
  |true=>
   have hm:=h.chk y (hy▸List.getElem_mem hl);have hov:=dX.1 ho;have:=hm.p0;have:=hm.p1;refine .inr ⟨hl,by rw[hy];exact ho,?_,by omega,by omega,?_,fun r=> ?_⟩
   ·rw[hf,hy];exact if_pos ho
   ·rw[hd,hk,←take_pos];exact if_pos ho
   ·rw[hp r,e,hk,hy,←take_pos];exact if_pos ho
theorem over_at{l:List Mp}(h:Ok l){p:Int}{k:Nat}(hk:k<l.length)(ho:over l[k] p=H):k=pos l p∧find l p=G l[k]:=by
 have hb:=pos_iff h p hk;have hn:before p l[k]=E:=by unfold before;rw[ho];rfl
 rw[hn] at hb;have hge:=of_decide_eq_false hb.symm;rcases place h p with ⟨hf,_⟩|⟨hl,ho2,hf,_⟩
 ·unfold find at hf
  have:=List.find?_eq_none.1 hf l[k] (List.getElem_mem hk);exact absurd ho this
 ·by_cases e:k=pos l p
  ·subst e;exact⟨rfl,hf⟩
  ·have:=List.pairwise_iff_getElem.1 h.up (pos l p) k hl hk (by omega)
   have a:=dX.1 ho;have b:=dX.1 ho2;omega
theorem bad_at{l:List Mp}(h:Ok l){m:Mp}(hm:MapOk m):bad l m=if h:pos l m.page<l.length then dV m l[pos l m.page] else E:=by
 have hb:=bad_head h hm;cases e:l.dropWhile (before m.page) with
 |nil=>
  have:=drop_nil e;rw[e] at hb;rw[dif_neg (by omega)];exact hb
 |cons y k=>
  obtain⟨hl,hy⟩:=drop_head e;rw[e] at hb;rw[dif_pos hl,hy,tb];exact hb
theorem bad_find{l:List Mp}{m:Mp}(hf:(find l m.page).isSome =H):bad l m=H:=by
 obtain⟨y,hy⟩:=Option.isSome_iff_exists.1 hf;have hm:=List.mem_of_find?_eq_some hy;have ho:=List.find?_some hy;exact List.any_eq_true.2 ⟨y,hm,by show(over y m.page||over m y.page)=H;rw[ho];rfl⟩
theorem addC_check{l:List Mp}{m:Mp}(h:bc m≠0):addC l m=bc m∧add l m=l:=by
 unfold addC Bk.add;exact⟨if_pos h,if_neg fun e=>h e.1⟩
theorem addC_bad{l:List Mp}{m:Mp}(h:bc m=0)(hb:bad l m=H):addC l m=4∧add l m=l:=by
 unfold addC Bk.add;exact⟨by rw[if_neg (by omega),if_pos hb],if_neg fun e=>by rw[hb] at e;cases e.2⟩
theorem addC_ok{l:List Mp}{m:Mp}(h:bc m=0)(hb:bad l m=E):addC l m=0∧add l m=l.take (pos l m.page)++m::l.drop (pos l m.page):=by
 unfold addC Bk.add;exact⟨by rw[if_neg (by omega),if_neg (by rw[hb];simp)],by rw[if_pos ⟨h,hb⟩,ins_eq]⟩
def dropR(l:List Mp)(p:Int):Option Mp:=if cY p=H then find l p else J
def dropC(l:List Mp)(p:Int):Int:=if cY p=H then(if(find l p).isSome =H then 0 else 5) else 1
def dropL(l:List Mp)(p:Int):List Mp:=if cY p=H then del l p else l
theorem Ok.dropL{l:List Mp}(h:Ok l)(p:Int):Ok (dropL l p):=by
 unfold Bk.dropL;split
 ·exact h.del p
 ·exact h
def protB(p r:Int):Bool:=cY p&&decide (0≤r)&&decide (r≤7)
def protR(l:List Mp)(p r:Int):Option Mp:=if protB p r=H then(find l p).map fun x=>{x with rights:=r} else J
def protC(l:List Mp)(p r:Int):Int:=if protB p r=H then(if(find l p).isSome =H then 0 else 5) else 1
def protL(l:List Mp)(p r:Int):List Mp:=if protB p r=H then prot l p r else l
theorem protB_iff{p r:Int}:protB p r=H↔0≤p∧p<4096∧0≤r∧r≤7:=by
 unfold protB cY;simp only[Bool.and_eq_true,decide_eq_true_eq];omega
theorem Ok.protL{l:List Mp}(h:Ok l)(p r:Int):Ok (protL l p r):=by
 unfold Bk.protL;split
 ·rename_i hb
  have:=protB_iff.1 hb;exact h.prot p this.2.2.1 this.2.2.2
 ·exact h
def ans(l:List Mp)(a:Ac):An:=match find l a.page with|none=>⟨1,0,0⟩|some m=>bF m a
end Bk
def rb:Option Mp→I
 |none=> .agg #[vI vK 0,vI vK 0,vI vK 0,vI vK 0]
 |some x=> .agg #[vI vK x.page,vI vK x.size,vI vK x.frame,vI vK x.rights]
def bt(s:Ms)(r p:Int):Option Mp:=if(way s r p).e.leaf =H then G (aB (way s r p).e (way s r p).lev p) else J
theorem be{s:Ms}{r p t:Int}{d:Nat}(hp:de p)(h:Ends s r p d t):
  bt s r p=if(cN s p t (3 - d)).leaf =H then G (aB (cN s p t (3 - d)) ((3 - d:Nat):Int) p) else J:=by
 unfold bt;rw[bV hp.1 hp.2 h]
theorem Ends.not{s:Ms}{r p t:Int}{d:Nat}(h:Ends s r p d t)(ht:(cN s p t (3 - d)).there =E):cN s p t (3 - d)=En.zero∧av s t (ap p (3 - d:Nat))=0:=by
 obtain⟨h1,h2⟩:=fp h.dec;have h3:cN s p t (3 - d)=En.zero:=dE h1 ht;refine⟨h3,?_⟩;unfold cN at h3;rw[h3] at h2;rw[←h2];unfold bq;rw[if_neg (by simp[En.zero])]
theorem Ends.leafOf{s:Ms}{r p t:Int}{d:Nat}(h:Ends s r p d t)(ht:(cN s p t (3 - d)).there =H):(cN s p t (3 - d)).leaf =H:=by
 rcases h.stop with e|e
 ·rw[ht] at e;cases e
 ·exact e
theorem ga{e:En}{L:Nat}{p:Int}(hp:de p)(hf:aj e L=0)(hl:e.leaf=H)(hs:bn L=aw L):aB e L p=⟨p / aw L*aw L,L,e.frame,e.rights⟩:=by
 unfold aB;rw[if_pos ⟨hf,hl,hp.1,hp.2⟩,hs]
theorem eK{L:Nat}(h:L<3):bn L=aw L:=by
 have:L=0∨L=1∨L=2:=by omega
 rcases this with rfl|rfl|rfl<;>rfl
theorem mL{L:Nat}(h:L<3)(b p:Int)(f ri:Int):over ⟨b*aw L,L,f,ri⟩ p=decide (p / aw L=b):=by
 have hs:=eK h;have h8:=fi L;have hL:L=0∨L=1∨L=2:=by omega
 cases ho:over ⟨b*aw L,L,f,ri⟩ p with
 |true=>
  have:=dX.1 ho;dsimp only at this;rw[hs] at this;symm;refine decide_eq_true ?_;rcases hL with rfl|rfl|rfl<;>simp[aw] at this⊢ <;>omega
 |false=>
  have:=dy.1 ho;dsimp only at this;rw[hs] at this;symm;refine decide_eq_false ?_;rcases hL with rfl|rfl|rfl<;>simp[aw] at this⊢ <;>omega
theorem Ends.map{s:Ms}{r p t:Int}{d:Nat}(hp:de p)(h:Ends s r p d t)(hl:(cN s p t (3 - d)).leaf =H):
  3 - d<3∧aB (cN s p t (3 - d)) ((3 - d:Nat):Int) p=⟨p / aw (3 - d)*aw (3 - d),((3 - d:Nat):Int),(cN s p t (3 - d)).frame,(cN s p t (3 - d)).rights⟩∧
  ∀q,over (aB (cN s p t (3 - d)) ((3 - d:Nat):Int) p) q=decide (q / aw (3 - d)=p / aw (3 - d)):=by
 obtain⟨_,_,h3,_,hf⟩:=ir h.dec hl;have h3':3 - d<3:=by omega
 have e:=ga hp hf hl (eK h3');refine⟨h3',e,fun q=> ?_⟩;have e':aB (cN s p t (3 - d)) ((3 - d:Nat):Int) p=⟨p / aw (3 - d)*aw (3 - d),((3 - d:Nat):Int),(cN s p t (3 - d)).frame,(cN s p t (3 - d)).rights⟩:=e;rw[e'];exact mL h3' _ _ _ _
theorem Wf.overMap{s:Ms}{r:Int}{gone:List Int}{X:Int→Prop}(_:Wf s r gone X){p q:Int}{m:Mp}(hp:de p)(hq:de q)(hm:bt s r p=G m)(ho:over m q=H)(hw:Wf s r gone X):bt s r q=G m:=by
 obtain⟨d,t,he⟩:=hw.ends p hp;rw[be hp he] at hm;split at hm
 ·rename_i hl
  injection hm with hm
  obtain⟨h3,e1,e2⟩:=he.map hp hl;rw[←hm,e2 q] at ho;have hpre:=of_decide_eq_true ho;obtain⟨hq',e3⟩:=he.same hp hq hpre;rw[be hq hq',e3,if_pos hl,←hm];have hl':=hl;rw[←e3] at hl';rw[←e3,(hq'.map hq hl').2.1,e3,e1,hpre]
 ·cases hm
theorem Wf.self{s:Ms}{r:Int}{gone:List Int}{X:Int→Prop}(hw:Wf s r gone X){p:Int}{m:Mp}(hp:de p)(hm:bt s r p=G m):over m p=H∧MapOk m:=by
 obtain⟨d,t,he⟩:=hw.ends p hp;rw[be hp he] at hm;split at hm
 ·rename_i hl
  injection hm with hm
  obtain⟨h3,e1,e2⟩:=he.map hp hl;subst hm;refine⟨by rw[e2 p];exact decide_eq_true rfl,?_⟩;have hf:=(fp he.dec).1;have ht:=(ir he.dec hl).1;have hk:=dF hf ht;have hs:=eK h3;have h8:=fi (3 - d);have hL:=hk.leaf hl;have k1:0≤(cN s p t (3 - d)).rights :=hk.r0;have k2:(cN s p t (3 - d)).rights ≤7:=hk.r7;have k3:0≤(cN s p t (3 - d)).frame :=hk.f0;have k4:(cN s p t (3 - d)).frame <1048576:=hk.f1;have k5:(cN s p t (3 - d)).frame % bn ((3 - d:Nat):Int)=0:=hL.2;rw[hs] at k5;rw[e1];have hp':0≤p∧p<4096:=hp;have hd:3 - d=0∨3 - d=1∨3 - d=2:=by omega
  refine fh ?_;unfold bc;dsimp only;rw[hs];rw[if_neg (by omega),if_neg,if_neg]
  ·rw[Int.mul_emod_left]
   omega
  ·generalize (cN s p t (3 - d)).rights =ri at*
   generalize (cN s p t (3 - d)).frame =fr at*
   clear e1 e2 hf ht hl he hk hL k5 hs h8;rcases hd with h|h|h<;>rw[h]<;>simp only[aw]<;>omega
 ·cases hm
def dH(s:Ms)(p lw:Int)(sz:Nat):Nat→Int→Ms
 |0,t=>s.setW t.toNat (ap p sz).toNat lw
 |n+1,t=>match s.top with
  |some k=>dH ((s.take k).setW t.toNat (ap p (sz+n+1:Nat)).toNat (iP k (sz+n+1))) p lw sz n k
  |none=>s
theorem jm{s:Ms}(h:0<s.frees.length):∃k,s.top=G k:=by
 have:=Ms.frees_top s;cases ht:s.top with
 |some k=>exact⟨k,rfl⟩
 |none=>
  rw[ht] at this;have:=List.getLast?_eq_none_iff.1 this;rw[this] at h;cases h
theorem jK{s:Ms}{k:Nat}(h:s.top=G k):(s.take k).frees.length +1=s.frees.length:=by
 have:=congrArg List.length (Ms.frees_take s k h);rw[W,List.length_singleton] at this;exact this
theorem uH(s:Ms)(p t:Int)(d k:Nat):dG s p t d k=(s.take k).setW t.toNat (ap p (3 - d:Nat)).toNat (iP k (3 - d)):=rfl
theorem mM{k:Int}(h0:0≤k)(h1:k<1048576){L:Nat}(hL:0<L)(hL3:L≤3):0≤iP k L∧iP k L<18446744073709551616:=by
 have hf:=rM h0 h1 hL hL3;have:=jH (dF hf rfl);unfold iP bq;rw[if_pos ⟨hf,rfl⟩];omega
theorem uI{p lw:Int}{sz:Nat}(hp:de p)(h3:sz<3)(hc:br lw sz=0)(hl:(aD lw sz).leaf =H)(hlw:0≤lw∧lw<18446744073709551616):∀(n d:Nat) (t:Int) (s:Ms) (r:Int) (gone:List Int) (X:Int→Prop),sz+n+d=3→s.Inv→s.n≤128→n≤s.frees.length→
  Wf s r gone X→(∀u,X u→u=t)→Ends s r p d t→(cN s p t (3 - d)).there =E→
  Wf (dH s p lw sz n t) r gone (fun _=>False)∧(dH s p lw sz n t).Inv ∧(dH s p lw sz n t).n =s.n∧(dH s p lw sz n t).frees.length +n=s.frees.length∧
  ∀q,de q→if q / aw sz=p / aw sz then bt (dH s p lw sz n t) r q=G (aB (aD lw sz) sz q)∧(way (dH s p lw sz n t) r q).e =aD lw sz else(bt (dH s p lw sz n t) r q=bt s r q∧(bt s r q≠J→way (dH s p lw sz n t) r q=way s r q)):=by
 intro n;induction n with
 |zero=>
  intro d t s r gone X hd hi hn hf hw hX he ht;have e3:3 - d=sz:=by omega
  have hv:kd lw (3 - d):=by
   rw[e3];exact⟨hc,fun h=>by rw[hl] at h;cases h.2⟩
  have hlw0:lw≠0:=by
   intro h0;rw[h0,(eu (by omega)).2] at hl;cases hl
  have hW:=hw.put hp he.le he.tab he.no hv;have es:dH s p lw sz 0 t=cM s p t d lw:=by unfold dH cM;rw[e3]
  rw[es];refine⟨hW.mono ?_,hi.setW _ _ hlw,rfl,rfl,fun q hq=> ?_⟩
  ·rintro u (⟨a,b⟩|⟨a,b⟩)
   ·rcases b with b|b
    ·exact hlw0 b
    ·exact b (hX u a)
   ·exact hlw0 a
  ·obtain⟨e,u,hu⟩:=hw.ends q hq
   obtain⟨hu',hE⟩:=mG hw hp he.le he.tab he.no hv hq hu;by_cases hpre:q / aw sz=p / aw sz
   ·rw[if_pos hpre]
    rw[←e3] at hpre;obtain⟨hs,_⟩:=he.same hp hq hpre;obtain⟨rfl,rfl⟩:=hs.unique hu;rw[if_pos ⟨rfl,hpre⟩] at hE;rw[be hq hu',hE,bV hq.1 hq.2 hu',hE,e3,if_pos hl];exact⟨rfl,rfl⟩
   ·rw[if_neg hpre]
    rw[if_neg (by rw[e3];exact fun h=>hpre h.2)] at hE;rw[be hq hu',be hq hu,hE];refine⟨rfl,fun _=> ?_⟩;rw[bV hq.1 hq.2 hu',bV hq.1 hq.2 hu,hE];have:cO (cM s p t d lw) r q (e+1)=cO s r q (e+1):=by
     unfold cO;refine List.map_congr_left fun x hx=> ?_;rw[fN hw hp he.le he.tab he.no hv hq x (by have:=List.mem_range.1 hx;have:=hu.le;omega)]
    rw[this]
 |succ n ih=>
  intro d t s r gone X hd hi hn hf hw hX he ht;obtain⟨k,hk⟩:=jm (show 0<s.frees.length by omega);obtain⟨hkn,hkt⟩:=Ms.top_lt hi hk;have hd2:d≤2:=by omega
  have e3:3 - d=sz+n+1:=by omega
  have es:dH s p lw sz (n+1) t=dH (dG s p t d k) p lw sz n k:=by
   rw[uH,e3];conv=>lhs;unfold dH
   rw[hk]
  have hG:=hw.graft he hp hd2 hkt hkn hn;have hgE:=fun q (hq:de q) e u hu=>mJ (e:=e) (u:=u) hw he hp hd2 hkt hkn hn hq hu;have hEnd:=hgE p hp d t he;rw[if_pos rfl] at hEnd;have hGi:(dG s p t d k).Inv :=(hi.take hk).setW _ _ (mM (by omega) (by omega) (by omega) (by omega));have hGf:(dG s p t d k).frees.length +1=s.frees.length:=jK hk;have hGn:(dG s p t d k).n =s.n:=rfl;have hE0:(cN (dG s p t d k) p k (3 - (d+1))).there =E:=by
   rw[show 3 - (d+1)=2 - d by omega,hEnd.2];rfl
  obtain⟨i1,i2,i3,i4,i5⟩:=ih (d+1) k (dG s p t d k) r gone _ (by omega) hGi (by omega) (by omega) hG (fun u hu=>by
   rcases hu with ⟨a,b⟩|a
   ·exact absurd (hX u a) b
   ·exact a) hEnd.1 hE0
  rw[es];refine⟨i1,i2,i3.trans hGn,by omega,fun q hq=> ?_⟩;have hm:bt (dG s p t d k) r q=bt s r q∧(bt s r q≠J→way (dG s p t d k) r q=way s r q):=by
   obtain⟨e,u,hu⟩:=hw.ends q hq;have hg:=hgE q hq e u hu;split at hg
   ·rename_i hpre
    obtain⟨hs,hsE⟩:=he.same hp hq hpre;obtain⟨rfl,rfl⟩:=hs.unique hu;have hz:=(he.not ht).1;have e2:bt s r q=J:=by rw[be hq hu,hsE,hz];rfl
    rw[e2];refine⟨?_,fun h=>absurd rfl h⟩;rw[be hq hg.1,show 3 - (d+1)=2 - d by omega,hg.2];rfl
   ·rename_i hpre
    refine⟨by rw[be hq hg.1,hg.2,be hq hu],fun _=> ?_⟩;rw[bV hq.1 hq.2 hg.1,bV hq.1 hq.2 hu,hg.2];have:cO (dG s p t d k) r q (e+1)=cO s r q (e+1):=by
     unfold cO;refine List.map_congr_left fun x hx=> ?_;rw[eR hw he hp hd2 hkt hkn hn hq x (by have:=List.mem_range.1 hx;have:=hu.le;omega),if_neg (fun y=>hpre y.2)]
    rw[this]
  have:=i5 q hq;split at this
  ·rename_i hpre
   rw[if_pos hpre];exact this
  ·rename_i hpre
   rw[if_neg hpre];refine⟨this.1.trans hm.1,fun hne=> ?_⟩;rw[this.2 (by rw[hm.1];exact hne),hm.2 hne]
def dq(x:Mp):En:=⟨H,H,x.rights,E,E,x.frame⟩
def cU(s:Ms)(r:Int)(x:Mp):Int:=
 if bc x≠0 then bc x
 else if(way s r x.page).code ≠0 then(way s r x.page).code
 else if(way s r x.page).e.there =H∨(way s r x.page).lev <x.size then 4
 else if(s.frees.length:Int)< (way s r x.page).lev - x.size then 6 else 0
def dR(s:Ms)(r:Int)(x:Mp):Ms:=
 if cU s r x=0 then dH s x.page (bq (dq x) x.size) x.size.toNat ((way s r x.page).lev - x.size).toNat ((way s r x.page).tabs.getLastD 0) else s
def bu(s:Ms)(r p:Int):Int:=if(way s r p).code ≠0 then(way s r p).code else if(way s r p).e.there =E then 5 else 0
def bK(s:Ms)(r p:Int):Mp:=if bu s r p=0 then aB (way s r p).e (way s r p).lev p else Mp.zero
def i7(s:Ms)(r p:Int):En:=if bu s r p=0 then(way s r p).e else En.zero
def fx(s:Ms)(t:Int):Bool:=(List.range 8).all fun i=>av s t i==0
def ed(p:Int)(tabs:List Int):Nat→Ms→Ms×List Int
 |0,s=>(s.setW (tabs.getD 0 0).toNat (ap p (3:Nat)).toNat 0,[])
 |k+1,s=>
  if fx (s.setW (tabs.getD (k+1) 0).toNat (ap p (3 - (k+1):Nat)).toNat 0) (tabs.getD (k+1) 0)=H then
   ((ed p tabs k (s.setW (tabs.getD (k+1) 0).toNat (ap p (3 - (k+1):Nat)).toNat 0)).1,tabs.getD (k+1) 0::(ed p tabs k (s.setW (tabs.getD (k+1) 0).toNat (ap p (3 - (k+1):Nat)).toNat 0)).2)
  else(s.setW (tabs.getD (k+1) 0).toNat (ap p (3 - (k+1):Nat)).toNat 0,[])
def dm(s:Ms)(r p:Int):Ms:=if bu s r p=0 then(ed p (way s r p).tabs ((way s r p).tabs.length - 1) s).1 else s
def fy(s:Ms)(r p:Int):List Int:=if bu s r p=0 then(ed p (way s r p).tabs ((way s r p).tabs.length - 1) s).2 else []
def iQ(s:Ms)(r p ri:Int):Int:=if ri<0∨7<ri then 1 else bu s r p
def kU(s:Ms)(r p ri:Int):Mp:=if iQ s r p ri=0 then {bK s r p with rights:=ri} else Mp.zero
def gX(s:Ms)(r p ri:Int):Ms:=
 if iQ s r p ri=0 then s.setW ((way s r p).tabs.getLastD 0).toNat (ap p (way s r p).lev).toNat (bq {(way s r p).e with rights:=ri} (way s r p).lev) else s
theorem mN{s:Ms}{t:Int}:fx s t=H↔∀i:Nat,i<8→av s t i=0:=by
 unfold fx;rw[List.all_eq_true];constructor
 ·intro h i hi
  have:=h i (List.mem_range.2 hi);simpa using this
 ·intro h i hi
  have:=h i (List.mem_range.1 hi);simpa using this
theorem jn{s:Ms}{r p t:Int}{d:Nat}(h:bm s r p d=G t):(cO s r p (d+1)).getLastD 0=t:=by rw[ji h];simp
theorem i9{s:Ms}{r p t:Int}{d n:Nat}(h:bm s r p d=G t)(hn:d<n):(cO s r p n).getD d 0=t:=by
 unfold cO;rw[List.getD_eq_getElem?_getD,List.getElem?_map,List.getElem?_range hn];simp[h]
theorem jL{s:Ms}{r:Int}{gone:List Int}{X:Int→Prop}(hw:Wf s r gone X){p:Int}(hp:de p):(way s r p).code =0∧((way s r p).e.there =H↔(way s r p).e.leaf =H):=by
 obtain⟨d,t,he⟩:=hw.ends p hp;rw[bV hp.1 hp.2 he];refine⟨rfl,fun h=>he.leafOf h,fun h=>(ir he.dec h).1⟩
theorem pZ{s:Ms}{r p:Int}(hp:¬de p):(way s r p).code =1:=by
 unfold way;rw[if_neg]
 ·rfl
 ·unfold cY
  rw[Bool.and_eq_true,decide_eq_true_eq,decide_eq_true_eq];exact hp
section
variable {s:Ms} {r:Int} {gone:List Int} {X:Int→Prop}
theorem Wf.find(hw:Wf s r gone X){p:Int}(hp:de p):bu s r p=(if(bt s r p).isSome then 0 else 5)∧bK s r p=(bt s r p).getD Mp.zero:=by
 obtain⟨h1,h2⟩:=jL hw hp;unfold bK bu bt;rw[h1,if_neg (by simp)];by_cases hl:(way s r p).e.leaf =H
 ·have ht:=h2.2 hl
  rw[if_pos hl,if_neg (by rw[ht];simp)];simp
 ·have ht:(way s r p).e.there =E:=by
   cases h:(way s r p).e.there with
   |true=>exact absurd (h2.1 h) hl
   |false=>rfl
  rw[if_neg hl,if_pos ht];simp
theorem Wf.no_root(hw:Wf s r gone (fun u=>u=r)):Wf s r gone (fun _=>False):=by
 refine⟨hw.ends,hw.inj,fun p d t hp hd ht=> ?_,hw.use,hw.nd,hw.gz,hw.gt⟩;rcases hw.full p d t hp hd ht with rfl|h
 ·have:=(hw.inj p p (d+1) 0 t hp hp (by omega) (by omega) ht rfl).1
  omega
 ·exact .inr h
theorem Wf.no_full{t:Int}(hw:Wf s r gone (fun u=>u=t))(h:fx s t=E):Wf s r gone (fun _=>False):=by
 refine⟨hw.ends,hw.inj,fun p d u hp hd hu=> ?_,hw.use,hw.nd,hw.gz,hw.gt⟩;rcases hw.full p d u hp hd hu with rfl|h'
 ·refine .inr ?_
  apply Classical.byContradiction;intro hn;have:fx s u=H:=mN.2 fun i hi=>Classical.byContradiction fun hne=>hn ⟨i,hi,hne⟩;rw[this] at h;cases h
 ·exact .inr h'
theorem wF{p:Int}(hp:de p):∀(k:Nat) (s:Ms) (r:Int) (gone:List Int) (t:Int) (tabs:List Int),k≤2→s.Inv→Wf s r gone (fun u=>u=t)→bm s r p (k+1)=G t→fx s t=H→(∀j,j≤k→tabs.getD j 0=(bm s r p j).getD 0)→
  Wf (ed p tabs k s).1 r ((ed p tabs k s).2.reverse++t::gone) (fun _=>False)∧(ed p tabs k s).1.Inv∧(ed p tabs k s).1.n=s.n∧(ed p tabs k s).1.frees=s.frees∧(∀u,(ed p tabs k s).1.tk u=s.tk u)∧
  ∀q,de q→bt (ed p tabs k s).1 r q=bt s r q∧(bt s r q≠J→way (ed p tabs k s).1 r q=way s r q):=by
 intro k;induction k with
 |zero=>
  intro s r gone t tabs hk hi hw ht hz htabs;have hz':=mN.1 hz;have h0:tabs.getD 0 0=r:=htabs 0 (Nat.le_refl _);have hC:=hw.cut hp (show 0≤2 by omega) (show bm s r p 0=G r from rfl) ht hz';have es:(ed p tabs 0 s).1=fP s p r 0:=by unfold ed;rw[h0]
  have eg:(ed p tabs 0 s).2=[]:=rfl;rw[es,eg];refine⟨(hC.mono ?_).no_root,hi.setW _ _ (by omega),rfl,rfl,fun _=>rfl,fun q hq=> ?_⟩
  ·rintro u (⟨a,b⟩|a)
   ·exact absurd a b
   ·exact a
  ·obtain⟨e,x,hx⟩:=hw.ends q hq
   have hg:=mK hw hp (show 0≤2 by omega) (show bm s r p 0=G r from rfl) ht hz' hq hx;split at hg
   ·rename_i hpre
    have hq':bm s r q (0+1)=G t:=by
     rw[←ht];exact bS s r hq hp 1 (by omega) hpre
    have i2:=bX hq (show 3 - (0+1)≤3 by omega);have hw0:av s t (ap q (3 - (0+1):Nat))=0:=by
     have:=hz' (ap q (3 - (0+1):Nat)).toNat (by omega);rwa [Int.toNat_of_nonneg i2.1] at this
    have hnone:bt s r q=J:=by
     have he1:Ends s r q (0+1) t:=⟨by omega,hq',(hw.at_ hq (by omega) hq').1,(hw.at_ hq (by omega) hq').2,fO (by omega) hw0⟩;rw[be hq he1,iZ (by omega) hw0];rfl
    rw[hnone];refine⟨?_,fun h=>absurd rfl h⟩;rw[be hq hg.1,hg.2];rfl
   ·rename_i hpre
    refine⟨by rw[be hq hg.1,hg.2,be hq hx],fun _=> ?_⟩;rw[bV hq.1 hq.2 hg.1,bV hq.1 hq.2 hx,hg.2];have:cO (fP s p r 0) r q (e+1)=cO s r q (e+1):=by
     unfold cO;refine List.map_congr_left fun y hy=> ?_;rw[gv hw hp (show 0≤2 by omega) (show bm s r p 0=G r from rfl) ht hz' hq y (by have:=List.mem_range.1 hy;have:=hx.le;omega),if_neg (fun z=>hpre z.2)]
    rw[this]
 |succ k ih=>
  intro s r gone t tabs hk hi hw ht hz htabs;have hz':=mN.1 hz;obtain⟨u,hu⟩:=dY ht (show k+1≤k+1+1 by omega);have h0:tabs.getD (k+1) 0=u:=by rw[htabs (k+1) (Nat.le_refl _),hu];rfl
  have hC:=hw.cut hp (show k+1≤2 by omega) hu ht hz';have hCi:(fP s p u (k+1)).Inv :=hi.setW _ _ (by omega);have hmap:∀q,de q→bt (fP s p u (k+1)) r q=bt s r q∧(bt s r q≠J→way (fP s p u (k+1)) r q=way s r q):=by
   intro q hq;obtain⟨e,x,hx⟩:=hw.ends q hq;have hg:=mK hw hp (show k+1≤2 by omega) hu ht hz' hq hx;split at hg
   ·rename_i hpre
    have hq':bm s r q (k+1+1)=G t:=by
     rw[←ht];exact bS s r hq hp (k+1+1) (by omega) (by rw[show 4 - (k+1+1)=3 - (k+1) by omega];exact hpre)
    have i2:=bX hq (show 3 - (k+1+1)≤3 by omega);have hw0:av s t (ap q (3 - (k+1+1):Nat))=0:=by
     have:=hz' (ap q (3 - (k+1+1):Nat)).toNat (by omega);rwa [Int.toNat_of_nonneg i2.1] at this
    have hnone:bt s r q=J:=by
     have he1:Ends s r q (k+1+1) t:=⟨by omega,hq',(hw.at_ hq (by omega) hq').1,(hw.at_ hq (by omega) hq').2,fO (by omega) hw0⟩;rw[be hq he1,iZ (by omega) hw0];rfl
    rw[hnone];refine⟨?_,fun h=>absurd rfl h⟩;rw[be hq hg.1,hg.2];rfl
   ·rename_i hpre
    refine⟨by rw[be hq hg.1,hg.2,be hq hx],fun _=> ?_⟩;rw[bV hq.1 hq.2 hg.1,bV hq.1 hq.2 hx,hg.2];have:cO (fP s p u (k+1)) r q (e+1)=cO s r q (e+1):=by
     unfold cO;refine List.map_congr_left fun y hy=> ?_;rw[gv hw hp (show k+1≤2 by omega) hu ht hz' hq y (by have:=List.mem_range.1 hy;have:=hx.le;omega),if_neg (fun z=>hpre z.2)]
    rw[this]
  have hX:Wf (fP s p u (k+1)) r (t::gone) (fun x=>x=u):=hC.mono (by
   rintro x (⟨a,b⟩|a)
   ·exact absurd a b
   ·exact a)
  have hpar:∀j,j≤k+1→bm (fP s p u (k+1)) r p j=bm s r p j:=fun j hj=>by
   rw[gv hw hp (show k+1≤2 by omega) hu ht hz' hp j (by omega),if_neg (by omega)]
  have ez:s.setW (tabs.getD (k+1) 0).toNat (ap p (3 - (k+1):Nat)).toNat 0=fP s p u (k+1):=by rw[h0]
  unfold ed;rw[ez,h0];by_cases hzu:fx (fP s p u (k+1)) u=H
  ·rw[if_pos hzu]
   obtain⟨i1,i2,i3,i4,i5,i6⟩:=ih (fP s p u (k+1)) r (t::gone) u tabs (by omega) hCi hX (by rw[hpar (k+1) (by omega)];exact hu) hzu (fun j hj=>by rw[hpar j (by omega)];exact htabs j (by omega));refine⟨?_,i2,i3,i4,i5,fun q hq=> ?_⟩
   ·rw[List.reverse_cons,List.append_assoc]
    exact i1
   ·have a:=i6 q hq
    have b:=hmap q hq;refine⟨a.1.trans b.1,fun hne=> ?_⟩;rw[a.2 (by rw[b.1];exact hne),b.2 hne]
  ·rw[if_neg hzu]
   exact⟨hX.no_full (by simpa using hzu),hCi,rfl,rfl,fun _=>rfl,hmap⟩
end
structure Lk (s:Ms) (r:Int) (L:List Mp):Prop where
 ok:Bk.Ok L
 same:∀q,de q→Bk.find L q=bt s r q
section
variable {s:Ms} {r:Int} {gone:List Int} {X:Int→Prop} {L:List Mp}
theorem MapOk.inP{x:Mp}(h:MapOk x):de x.page:=⟨h.p0,by have:=h.p1;have:=h.sp;omega⟩
theorem Bk.mem_find{L:List Mp}(h:Bk.Ok L){m:Mp}(hm:m∈L):Bk.find L m.page=G m:=by
 obtain⟨k,hk,rfl⟩:=List.getElem_of_mem hm;have hc:=h.chk _ (List.getElem_mem hk);exact(Bk.over_at h hk (dX.2 ⟨by omega,by have:=hc.sp;omega⟩)).2
theorem Bk.find_mem{L:List Mp}{p:Int}{m:Mp}(h:Bk.find L p=G m):m∈L∧over m p=H:=⟨List.mem_of_find?_eq_some h,by have:=List.find?_some h;exact this⟩
theorem Lk.mem(h:Lk s r L){m:Mp}(hm:m∈L):bt s r m.page=G m:=by
 rw[←h.same _ (h.ok.chk _ hm).inP];exact Bk.mem_find h.ok hm
theorem Bk.ext_find{a b:List Mp}(ha:Bk.Ok a)(hb:Bk.Ok b)(h:∀q,de q→Bk.find a q=Bk.find b q):a=b:=by
 refine Bk.Ok.ext ha hb fun x=> ?_;constructor
 ·intro hx
  have:=Bk.mem_find ha hx;rw[h _ (ha.chk _ hx).inP] at this;exact(Bk.find_mem this).1
 ·intro hx
  have:=Bk.mem_find hb hx;rw[←h _ (hb.chk _ hx).inP] at this;exact(Bk.find_mem this).1
theorem Lk.unique{K:List Mp}(h:Lk s r L)(k:Lk s r K):L=K:=Bk.ext_find h.ok k.ok fun q hq=>(h.same q hq).trans (k.same q hq).symm
theorem rN{a b:Mp}(ha:MapOk a)(hb:MapOk b){q:Int}(h1:over a q=H)(h2:over b q=H):dV a b=H:=by
 cases h:dV a b with
 |true=>rfl
 |false=>
  have:=(fZ ha hb).1 h;have:=dX.1 h1;have:=dX.1 h2;omega
theorem Wf.some_map(hw:Wf s r gone (fun _=>False)):∀(n d:Nat),n+d=2→∀{p t:Int},de p→bm s r p (d+1)=G t→∃q,de q∧q / aw (3 - d)=p / aw (3 - d)∧bt s r q≠J:=by
 intro n;induction n with
 |zero=>
  intro d hd p t hp ht;obtain rfl:d=2:=by omega
  rcases hw.full p 2 t hp (by omega) ht with h|⟨i,hi,hne⟩
  ·cases h
  obtain⟨q,hq,hpre,hix,_⟩:=lY hp (show 0≤3 by omega) i hi;have hq':bm s r q 3=G t:=by rw[←ht];exact bS s r hq hp 3 (by omega) hpre
  obtain⟨h1,h2⟩:=hw.at_ hq (by omega) hq';have hd0:br (av s t (ap q (0:Nat))) (0:Nat)=0:=h2;have hl:=eP hd0;have hE:Ends s r q 3 t:=by
   refine⟨by omega,hq',h1,h2,?_⟩;unfold it cN;show(_&&(_&&((aD (av s t (ap q (0:Nat))) (0:Nat)).there && !(aD (av s t (ap q (0:Nat))) (0:Nat)).leaf)))=E;rcases hl with e|e<;>simp_all
  refine⟨q,hq,hpre,?_⟩;rw[be hq hE];have ht':(cN s q t (3 - 3)).there =H:=by
   cases h:(cN s q t (3 - 3)).there with
   |true=>rfl
   |false=>
    have:=(hE.not h).2;have hix':ap q (3 - 3:Nat)=i:=hix;rw[hix'] at this;exact absurd this hne
  rw[if_pos (hE.leafOf ht')];simp
 |succ n ih=>
  intro d hd p t hp ht;rcases hw.full p d t hp (by omega) ht with h|⟨i,hi,hne⟩
  ·cases h
  obtain⟨q,hq,hpre,hix,_⟩:=lY hp (show 2 - d≤3 by omega) i hi;have e1:2 - d+1=3 - d:=by omega
  have e2:3 - (d+1)=2 - d:=by omega
  rw[e1] at hpre;have hq':bm s r q (d+1)=G t:=by rw[←ht];exact bS s r hq hp (d+1) (by omega) (by rw[show 4 - (d+1)=3 - d by omega];exact hpre)
  cases hg:it s q t (3 - (d+1)) with
  |true=>
   have hv:bm s r q (d+1+1)=G (cN s q t (3 - (d+1))).frame :=fJ.2 ⟨t,hq',hg,rfl⟩;obtain⟨x,hx,hxp,hxm⟩:=ih (d+1) (by omega) hq hv;refine⟨x,hx,?_,hxm⟩;rw[←hpre];exact iu (by omega) hxp
  |false=>
   obtain⟨h1,h2⟩:=hw.at_ hq (by omega) hq';have hE:Ends s r q (d+1) t:=⟨by omega,hq',h1,h2,hg⟩;refine⟨q,hq,hpre,?_⟩;rw[be hq hE];have ht':(cN s q t (3 - (d+1))).there =H:=by
    cases h:(cN s q t (3 - (d+1))).there with
    |true=>rfl
    |false=>
     have:=(hE.not h).2;rw[e2,hix] at this;exact absurd this hne
   rw[if_pos (hE.leafOf ht')];simp
theorem tf(hw:Wf s r gone (fun _=>False))(hL:Lk s r L){x:Mp}(hx:MapOk x):((way s r x.page).e.there =H∨(way s r x.page).lev <x.size)↔Bk.bad L x=H:=by
 have hp:=hx.inP;obtain⟨d,t,he⟩:=hw.ends _ hp;have hle:=he.le;obtain⟨z,hz,hz3⟩:∃z:Nat,x.size=z∧z<3:=by
  rcases hx.size with ⟨a,_⟩|⟨a,_⟩|⟨a,_⟩
  ·exact⟨0,a,by omega⟩
  ·exact⟨1,a,by omega⟩
  ·exact⟨2,a,by omega⟩
 have hsp:bn x.size=aw z:=by rw[hz];exact eK hz3
 have hxe:x=⟨x.page / aw z*aw z,z,x.frame,x.rights⟩:=by
  have:=hx.al;rw[hsp] at this;have h8:=fi z;have e:x.page / aw z*aw z=x.page:=by have:=Int.mul_ediv_add_emod x.page (aw z);rw[Int.mul_comm];omega
  rw[e,←hz]
 have hov:∀q,over x q=decide (q / aw z=x.page / aw z):=fun q=>by
  conv=>lhs;rw[hxe]
  exact mL hz3 _ _ _ _
 rw[bV hp.1 hp.2 he];dsimp only;rw[hz];constructor
 ·rintro(h|h)
  ·have hl:=he.leafOf h
   have hm:bt s r x.page=G (aB (cN s x.page t (3 - d)) ((3 - d:Nat):Int) x.page):=by rw[be hp he,if_pos hl]
   obtain⟨h1,h2⟩:=hw.self hp hm;rw[←hL.same _ hp] at hm;exact Bk.bad_find (by rw[hm];rfl)
  ·have hz1:3 - d<z:=by omega
   obtain⟨u,hu⟩:=dY he.tab (show 3 - z+1≤d by omega);obtain⟨q,hq,hpre,hqm⟩:=hw.some_map (z - 1) (3 - z) (by omega) hp hu;rw[show 3 - (3 - z)=z by omega] at hpre;cases hm:bt s r q with
   |none=>exact absurd hm hqm
   |some m=>
    obtain⟨h1,h2⟩:=hw.self hq hm;rw[←hL.same _ hq] at hm;have hmem:=(Bk.find_mem hm).1;have:dV m x=H:=rN h2 hx h1 (by rw[hov];exact decide_eq_true hpre);exact List.any_eq_true.2 ⟨m,hmem,this⟩
 ·intro hb
  obtain⟨m,hm,hmeet⟩:=List.any_eq_true.1 hb;have hmo:=hL.ok.chk _ hm;have hma:=hL.mem hm;apply Classical.byContradiction;intro hn;rw[not_or] at hn;have ht:(cN s x.page t (3 - d)).there =E:=by simpa using hn.1
  have hzl:z≤3 - d:=by omega
  unfold dV at hmeet;rcases Bool.or_eq_true_iff.1 hmeet with h|h
  ·have:=Wf.overMap hw hmo.inP hp hma h hw
   rw[be hp he,(he.not ht).1] at this;cases this
  ·rw[hov] at h
   have hpre:=iu hzl (of_decide_eq_true h);obtain⟨hs,hse⟩:=he.same hp hmo.inP hpre;rw[be hmo.inP hs,hse,(he.not ht).1] at hma;cases hma
theorem uJ(hw:Wf s r gone (fun _=>False))(hL:Lk s r L)(x:Mp):(cU s r x=6∧bc x=0∧Bk.bad L x=E∧s.frees.length<3)∨cU s r x=Bk.addC L x:=by
 unfold cU Bk.addC;by_cases hc:bc x=0
 ·have hx:=fh hc
  have hp:=hx.inP;have hwc:=(jL hw hp).1;have hb:=tf hw hL hx;have hcn:¬(bc x≠0):=by omega
  have hwn:¬((way s r x.page).code ≠0):=by rw[hwc];simp
  rw[if_neg hcn,if_neg hwn,if_neg hcn];by_cases h:(way s r x.page).e.there =H∨(way s r x.page).lev <x.size
  ·rw[if_pos h,if_pos (hb.1 h)]
   exact .inr rfl
  ·rw[if_neg h]
   have hbf:Bk.bad L x=E:=by
    cases hbb:Bk.bad L x with
    |false=>rfl
    |true=>exact absurd (hb.2 hbb) h
   by_cases hf:(s.frees.length:Int)< (way s r x.page).lev - x.size
   ·rw[if_pos hf]
    refine .inl ⟨rfl,hc,hbf,?_⟩;obtain⟨d,t,he⟩:=hw.ends _ hp;rw[bV hp.1 hp.2 he] at hf;dsimp only at hf;have h0:0≤x.size:=by rcases hx.size with ⟨a,_⟩|⟨a,_⟩|⟨a,_⟩<;>omega
    by_cases hd:d=0
    ·subst hd
     by_cases h3:s.frees.length<3
     ·exact h3
     ·exfalso
      rcases hx.size with ⟨a,_⟩|⟨a,_⟩|⟨a,_⟩<;>omega
    ·omega
   ·rw[if_neg hf,if_neg (by rw[hbf];simp)]
    exact .inr rfl
 ·rw[if_pos hc,if_pos hc]
  exact .inr rfl
theorem oP(hw:Wf s r gone (fun _=>False))(hi:s.Inv)(hn:s.n≤128)(x:Mp):
  Wf (dR s r x) r gone (fun _=>False)∧(dR s r x).Inv ∧(dR s r x).n =s.n∧
  ∀q,de q→bt (dR s r x) r q=(if cU s r x=0∧over x q=H then G x else bt s r q)∧
   (bt s r q≠J→way (dR s r x) r q=way s r q)∧
   (cU s r x=0∧over x q=H→bt s r q=J∧(way (dR s r x) r q).e =dq x):=by
 unfold dR;by_cases hc:cU s r x=0
 ·rw[if_pos hc]
  have hc0:=hc;unfold cU at hc0;by_cases hk:bc x=0
  ·have hx:=fh hk
   have hp:=hx.inP;have hwc:=(jL hw hp).1;rw[if_neg (by omega),if_neg (by rw[hwc];simp)] at hc0;by_cases h:(way s r x.page).e.there =H∨(way s r x.page).lev <x.size
   ·rw[if_pos h] at hc0;cases hc0
   rw[if_neg h] at hc0;by_cases hf:(s.frees.length:Int)< (way s r x.page).lev - x.size
   ·rw[if_pos hf] at hc0;cases hc0
   rw[not_or] at h;obtain⟨d,t,he⟩:=hw.ends _ hp;have hle:=he.le;rw[bV hp.1 hp.2 he] at h hf⊢;dsimp only at h hf⊢;rw[jn he.tab];obtain⟨z,hz,hz3⟩:∃z:Nat,x.size=z∧z<3:=by
    rcases hx.size with ⟨a,_⟩|⟨a,_⟩|⟨a,_⟩
    ·exact⟨0,a,by omega⟩
    ·exact⟨1,a,by omega⟩
    ·exact⟨2,a,by omega⟩
   have hsp:bn x.size=aw z:=by rw[hz];exact eK hz3
   have h8:=fi z;have hal:x.page / aw z*aw z=x.page:=by have:=Int.mul_ediv_add_emod x.page (aw z);have h2:=hx.al;rw[hsp] at h2;rw[Int.mul_comm];omega
   have hxe:x=⟨x.page / aw z*aw z,z,x.frame,x.rights⟩:=by rw[hal,←hz]
   have hov:∀q,over x q=decide (q / aw z=x.page / aw z):=fun q=>by
    conv=>lhs;rw[hxe]
    exact mL hz3 _ _ _ _
   have hfa:aj (dq x) z=0:=by
    refine jG rfl ⟨by omega,by omega,hx.r0,hx.r7,hx.f0,hx.f1,fun _=>⟨by omega,?_⟩,fun h=>by cases h⟩;have:=hx.fa;rw[hz] at this;exact this
   obtain⟨k1,k2,k3⟩:=kT hfa;have hrg:0≤bq (dq x) z∧bq (dq x) z<18446744073709551616:=by
    have:=jH (dF hfa rfl);unfold bq;rw[if_pos ⟨hfa,rfl⟩];omega
   have ht:(cN s x.page t (3 - d)).there =E:=by simpa using h.1
   rw[hz] at h hf⊢;rw[Int.toNat_natCast];obtain⟨n,hnn⟩:∃n:Nat,((3 - d:Nat):Int) - z=n:=⟨3 - d - z,by omega⟩;rw[hnn,Int.toNat_natCast];obtain⟨i1,i2,i3,i4,i5⟩:=uI (p:=x.page) (lw:=bq (dq x) z) (sz:=z) hp hz3 k1 (by rw[k2];rfl) hrg n d t s r gone (fun _=>False) (by omega) hi hn (by omega) hw (fun _ h=>h.elim) he ht;refine⟨i1,i2,i3,fun q hq=> ?_⟩;have:=i5 q hq;by_cases hpre:q / aw z=x.page / aw z
   ·rw[if_pos hpre,k2] at this
    have ho:over x q=H:=by rw[hov];exact decide_eq_true hpre
    have hlm:aB (dq x) z q=x:=by
     rw[ga hq hfa rfl (eK hz3),hpre];exact hxe.symm
    have hnone:bt s r q=J:=by
     obtain⟨hs,hse⟩:=he.same hp hq (iu (show z≤3 - d by omega) hpre);rw[be hq hs,hse,(he.not ht).1];rfl
    refine⟨?_,fun hne=>absurd hnone hne,fun _=>⟨hnone,this.2⟩⟩;rw[this.1,hlm,if_pos ⟨hc,ho⟩]
   ·rw[if_neg hpre] at this
    have ho:¬over x q=H:=by rw[hov];simpa using hpre
    refine⟨?_,this.2,fun h=>absurd h.2 ho⟩;rw[this.1,if_neg (fun h=>ho h.2)]
  ·rw[if_pos hk] at hc0
   exact absurd hc0 hk
 ·rw[if_neg hc]
  exact⟨hw,hi,rfl,fun q hq=>⟨by rw[if_neg (fun h=>hc h.1)],fun _=>rfl,fun h=>absurd h.1 hc⟩⟩
end
structure Ln where
 m:Mp
 dirty:Bool
 deriving DecidableEq
def Ln.cells(x:Ln):List I:=[vI vK x.m.page,vI vK x.m.size,vI vK x.m.frame,vI vK x.m.rights,vB x.dirty]
def bW(l:List Ln):List I:=l.flatMap Ln.cells
theorem jo(l:List Ln):(bW l).length =l.length*5:=by
 induction l with
 |nil=>rfl
 |cons x l ih=>
  show(x.cells++bW l).length =_;rw[W,ih];simp[Ln.cells];omega
theorem gx(a b:List Ln):bW (a++b)=bW a++bW b:=by simp[bW]
namespace Tl
def drop(l:List Ln)(m:Mp):List Ln:=l.filter fun x=> !dV x.m m
def room(l:List Ln):List Ln:=if l.length=6 then l.tail else l
def put(l:List Ln)(x:Ln):List Ln:=if bc x.m=0 then room (drop l x.m)++[x] else l
def evict(l:List Ln):List Ln:=l.tail
def find(l:List Ln)(p:Int):Option Ln:=l.find? fun x=>over x.m p
structure Ok (l:List Ln):Prop where
 len:l.length≤6
 chk:∀x∈l,bc x.m=0
 apart:l.Pairwise fun a b=>dV a.m b.m=E
theorem Ok.nil:Ok []:=⟨by simp,fun x h=>(by cases h),List.Pairwise.nil⟩
theorem Ok.sub{l k:List Ln}(h:Ok l)(s:k.Sublist l):Ok k:=
 ⟨Nat.le_trans s.length_le h.len,fun x hx=>h.chk x (s.subset hx),h.apart.sublist s⟩
theorem Ok.drop{l:List Ln}(h:Ok l)(m:Mp):Ok (drop l m):=h.sub List.filter_sublist
theorem Ok.evict{l:List Ln}(h:Ok l):Ok (evict l):=h.sub (List.tail_sublist l)
theorem drop_apart(l:List Ln)(m:Mp):∀x∈drop l m,dV x.m m=E:=fun x hx=>by
 have:=(List.mem_filter.1 hx).2;simpa using this
theorem room_sub(l:List Ln):(room l).Sublist l:=by
 unfold room;split
 ·exact List.tail_sublist l
 ·exact List.Sublist.refl l
theorem room_len{l:List Ln}(h:l.length≤6):(room l).length ≤5:=by
 unfold room;split
 ·simp;omega
 ·omega
theorem Ok.put{l:List Ln}(h:Ok l)(x:Ln):Ok (put l x):=by
 unfold Tl.put;split
 ·rename_i hc
  have hd:=h.drop x.m;have hr:=hd.sub (room_sub _);refine⟨?_,fun y hy=> ?_,?_⟩
  ·have:=room_len hd.len
   simp;omega
  ·rcases List.mem_append.1 hy with hy|hy
   ·exact hr.chk y hy
   ·rw[List.mem_singleton.1 hy]
    exact hc
  ·rw[List.pairwise_append]
   refine⟨hr.apart,List.pairwise_singleton _ _,fun a ha b hb=> ?_⟩;rw[List.mem_singleton.1 hb];exact drop_apart l x.m a ((room_sub _).subset ha)
 ·exact h
end Tl
structure Ck where
 on:Bool
 a:Ac
 t:Int
 level:Int
 mark:Bool
 w:Int
structure Rs where
 fin:Bool
 an:An
 ln:Ln
def Rs.zero:Rs:=⟨E,An.zero,⟨Mp.zero,E⟩⟩
def Ck.zero:Ck:=⟨E,Ac.zero,0,0,E,0⟩
def Ck.idle(c:Ck):Ck:={c with on:=E,a:=Ac.zero,mark:=E}
def Ck.again(c:Ck)(root:Int):Ck:=if c.on=H then {c with t:=root,level:=3,mark:=E} else c
def Ck.begin(c:Ck)(root:Int)(a:Ac):Ck:={c with on:=H,a:=a,t:=root,level:=3,mark:=E}
def dZ(e:En)(a:Ac):Bool:=e.used&&(e.dirty||a.kind !=1)
def bY(e:En)(a:Ac):En:={e with used:=H,dirty:=e.dirty||a.kind==1}
structure Sp where
 c:Ck
 s:Ms
 r:Rs
 code:Int
def Ck.word(c:Ck)(s:Ms):Int:=av s c.t (ap c.a.page c.level)
def Ck.leafEnd(c:Ck)(s:Ms)(e:En):Sp:=
 ⟨c.idle,s,⟨H,bF (aB e c.level c.a.page) c.a,⟨aB e c.level c.a.page,e.dirty⟩⟩,0⟩
def Ck.endWith(c:Ck)(s:Ms)(f:Int):Sp:=⟨c.idle,s,⟨H,⟨f,0,0⟩,⟨Mp.zero,E⟩⟩,0⟩
def aL(s:Ms)(root:Int)(c:Ck):Sp:=
 if c.on=E then⟨c,s,Rs.zero,9⟩
 else if s.has c.t=E then⟨c,s,Rs.zero,12⟩
 else if c.mark=H∧c.word s≠c.w then⟨c.again root,s,Rs.zero,0⟩
 else if br (c.word s) c.level≠0 then⟨c,s,Rs.zero,br (c.word s) c.level⟩
 else if(aD (c.word s) c.level).there =E then c.endWith s 1
 else if(aD (c.word s) c.level).leaf =E then⟨{c with t:=(aD (c.word s) c.level).frame,level:=c.level - 1},s,Rs.zero,0⟩
 else if may (aD (c.word s) c.level).rights c.a=E then c.endWith s 2
 else if c.mark=H then
  c.leafEnd (s.setW c.t.toNat (ap c.a.page c.level).toNat (bq (bY (aD (c.word s) c.level) c.a) c.level)) (bY (aD (c.word s) c.level) c.a)
 else if dZ (aD (c.word s) c.level) c.a=H then c.leafEnd s (aD (c.word s) c.level)
 else⟨{c with mark:=H,w:=c.word s},s,Rs.zero,0⟩
structure Ck.Ok (c:Ck):Prop where
 acc:c.on=H→aq c.a=0
 l0:c.on=H→0≤c.level
 l3:c.on=H→c.level≤3
 off:c.on=E→c.a=Ac.zero∧c.mark=E
 dec:c.mark=H→br c.w c.level=0
 leaf:c.mark=H→(aD c.w c.level).there =H∧(aD c.w c.level).leaf =H
 may:c.mark=H→may (aD c.w c.level).rights c.a=H
 need:c.mark=H→dZ (aD c.w c.level) c.a=E
theorem Ck.Ok.zero:Ck.zero.Ok:=⟨fun h=>(by cases h),fun h=>(by cases h),fun h=>(by cases h),fun _=>⟨rfl,rfl⟩,fun h=>(by cases h),fun h=>(by cases h),fun h=>(by cases h),fun h=>(by cases h)⟩
theorem Ck.Ok.idle{c:Ck}:c.idle.Ok:=⟨fun h=>(by cases h),fun h=>(by cases h),fun h=>(by cases h),fun _=>⟨rfl,rfl⟩,fun h=>(by cases h),fun h=>(by cases h),fun h=>(by cases h),fun h=>(by cases h)⟩
theorem Ck.Ok.begin{c:Ck}(root:Int){a:Ac}(h:aq a=0):(c.begin root a).Ok :=
 ⟨fun _=>h,fun _=>(by show(0:Int)≤3;omega),fun _=>(by show(3:Int)≤3;omega),fun h=>(by cases h),fun h=>(by cases h),fun h=>(by cases h),fun h=>(by cases h),fun h=>(by cases h)⟩
theorem Ck.Ok.again{c:Ck}(h:c.Ok)(root:Int):(c.again root).Ok :=by
 unfold Ck.again;split
 ·rename_i hon
  exact⟨fun _=>h.acc hon,fun _=>(by show(0:Int)≤3;omega),fun _=>(by show(3:Int)≤3;omega),fun h=>(by rw[hon] at h;cases h),fun h=>(by cases h),fun h=>(by cases h),fun h=>(by cases h),fun h=>(by cases h)⟩
 ·exact h
theorem Ck.Ok.step{c:Ck}(h:c.Ok)(s:Ms)(root:Int):(aL s root c).c.Ok :=by
 unfold aL;split
 ·exact h
 rename_i hon;have hon:c.on=H:=by simpa using hon
 split
 ·exact h
 split
 ·exact h.again root
 rename_i hm;split
 ·exact h
 rename_i hd;have hd:br (c.word s) c.level=0:=by simpa using hd
 split
 ·exact Ck.Ok.idle
 rename_i ht;split
 ·rename_i hl
  have hmk:c.mark=E:=by
   cases hmk:c.mark with
   |false=>rfl
   |true=>
    have e:c.word s=c.w:=Decidable.byContradiction fun e=>hm ⟨hmk,e⟩;have:=(h.leaf hmk).2;rw[←e,hl] at this;cases this
  have h0:=h.l0 hon;have hpos:0<c.level:=by
   refine Decidable.byContradiction fun hn=> ?_;have e0:c.level=0:=by omega
   rw[e0] at hd ht hl;rcases eP hd with hx|hx
   ·exact ht hx
   ·rw[hl] at hx;cases hx
  have h3:=h.l3 hon;exact⟨fun _=>h.acc hon,fun _=>(by show 0≤c.level - 1;omega),fun _=>(by show c.level - 1≤3;omega),fun hx=>(by have:c.on=E:=hx;rw[hon] at this;cases this),fun hx=>(by have:c.mark=H:=hx;rw[hmk] at this;cases this),
   fun hx=>(by have:c.mark=H:=hx;rw[hmk] at this;cases this),fun hx=>(by have:c.mark=H:=hx;rw[hmk] at this;cases this),fun hx=>(by have:c.mark=H:=hx;rw[hmk] at this;cases this)⟩
 rename_i hl;split
 ·exact Ck.Ok.idle
 rename_i hmay;split
 ·exact Ck.Ok.idle
 split
 ·exact Ck.Ok.idle
 rename_i hr;exact⟨h.acc,h.l0,h.l3,fun hx=>(by have:c.on=E:=hx;rw[hon] at this;cases this),fun _=>hd,fun _=>⟨by simpa using ht,by simpa using hl⟩,fun _=>(by simpa using hmay),fun _=>(by simpa using hr)⟩
theorem mO(e:En)(a:Ac):bY e a=e↔dZ e a=H:=by
 obtain⟨t,l,r,u,d,f⟩:=e;unfold bY dZ;constructor
 ·intro h
  injection h with _ _ _ h4 h5 _
  cases u<;>cases d<;>simp_all
 ·intro h
  cases u<;>cases d<;>simp_all
end Go.Proofs.YtmfheghbgihdmaaGreat
