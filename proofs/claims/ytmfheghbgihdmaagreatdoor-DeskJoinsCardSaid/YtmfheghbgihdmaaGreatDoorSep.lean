/- The words in which every contract of this family speaks of memory: a small separation logic over the model's heap, blocks as its atoms. Plain lemmas, no program in sight. -/
import Derived.WalkKit
import Derived.Deep.Draws
import Derived.BigQuiet
import Derived.Maps.AppendAt
import Derived.Laws.MakeOwn
namespace Go.Proofs.YtmfheghbgihdmaaGreatDoor
open Go.Value renaming int→vI
open Go.IntKind renaming i64→vK
open Go.Value renaming bool→vB
open Go renaming Value→D,World→I,Addr→Y,Calls→Z
open Option renaming some→E,none→G
open Bool renaming false→H,true→J
open Go.Addr renaming mk→M
open List renaming length_append→W
open Go.RowKit
abbrev Hp:=Nat→Option Obj
def ab:=Hp→Prop
namespace Hpm
def sub(h k:Hp):Prop:=∀b o,h b=E o→k b=E o
def disj(h k:Hp):Prop:=∀b,h b=G∨k b=G
def union(h k:Hp):Hp:=fun b=>(h b).or (k b)
def emp:Hp:=fun _=>G
def single(b:Nat)(o:Obj):Hp:=fun k=>if k=b then E o else G
theorem disj_symm{h k:Hp}(d:disj h k):disj k h:=fun b=>(d b).symm
theorem union_comm{h k:Hp}(d:disj h k):union h k=union k h:=by
 funext b
 simp only[union];have:=d b;cases hh:h b<;>cases hk:k b<;>simp_all
theorem union_assoc(h k l:Hp):union (union h k) l=union h (union k l):=by
 funext b
 simp only[union];cases h b<;>simp
theorem disj_union_left{h k l:Hp}:disj (union h k) l↔disj h l∧disj k l:=by
 constructor
 ·intro d
  refine⟨fun b=> ?_,fun b=> ?_⟩<;>rcases d b with e|e<;>(try simp only[union] at e)
  ·left;cases hb:h b<;>simp_all
  ·right;exact e
  ·left;cases hb:h b<;>simp_all
  ·right;exact e
 ·intro⟨d1,d2⟩ b
  rcases d1 b with e1|e1
  ·rcases d2 b with e2|e2
   ·left;simp[union,e1,e2]
   ·right;exact e2
  ·right;exact e1
theorem disj_union_right{h k l:Hp}:disj h (union k l)↔disj h k∧disj h l:=by
 constructor
 ·intro d
  have:=disj_union_left.1 (disj_symm d);exact⟨disj_symm this.1,disj_symm this.2⟩
 ·intro⟨d1,d2⟩
  exact disj_symm (disj_union_left.2 ⟨disj_symm d1,disj_symm d2⟩)
theorem sub_union_left{h k l:Hp}(s:sub (union h k) l):sub h l:=fun b o e=>s b o (by simp[union,e])
theorem sub_union_right{h k l:Hp}(d:disj h k)(s:sub (union h k) l):sub k l:=by
 rw[union_comm d] at s;exact sub_union_left s
theorem sub_union{h k l:Hp}(s1:sub h l)(s2:sub k l):sub (union h k) l:=by
 intro b o e;simp only[union] at e;cases hb:h b with
 |none=>rw[hb] at e;exact s2 b o (by simpa using e)
 |some x=>rw[hb] at e;simp at e;subst e;exact s1 b x hb
end Hpm
open Hpm
def AT(P Q:ab):ab:=fun h=>∃h1 h2,disj h1 h2∧h=union h1 h2∧P h1∧Q h2
instance:Mul ab:=⟨AT⟩
theorem cy(P Q:ab):P*Q=Q*P:=by
 funext h
 apply propext;constructor<;>rintro⟨h1,h2,d,rfl,p,q⟩<;>exact⟨h2,h1,disj_symm d,union_comm d,q,p⟩
theorem aN(P Q R:ab):(P*Q)*R=P*(Q*R):=by
 funext h
 apply propext;constructor
 ·rintro⟨h12,h3,d,rfl,⟨h1,h2,d',rfl,p,q⟩,r⟩
  have:=disj_union_left.1 d;exact⟨h1,union h2 h3,disj_union_right.2 ⟨d',this.1⟩,union_assoc _ _ _,p,h2,h3,this.2,rfl,q,r⟩
 ·rintro⟨h1,h23,d,rfl,p,⟨h2,h3,d',rfl,q,r⟩⟩
  have:=disj_union_right.1 d;exact⟨union h1 h2,h3,disj_union_left.2 ⟨this.2,d'⟩,(union_assoc _ _ _).symm,⟨h1,h2,this.1,rfl,p,q⟩,r⟩
theorem av(P Q R:ab):P*(Q*R)=Q*(P*R):=by
 rw[←aN,cy P Q,aN]
def Has(w:I)(P:ab):Prop:=∃h:Hp,sub h (fun b=>w.heap[b]?)∧P h
def eZ(p:Prop):ab:=fun h=>p∧h=emp
def ex{α:Type}(P:α→ab):ab:=fun h=>∃x,P x h
def aa(b:Nat)(cs:Array D)(t:TypeId):ab:=fun h=>h=single b (.cells cs t (0,0))
def cr(w0:I)(B:Nat):ab:=fun h=>h=fun b=>if b<B then w0.heap[b]? else G
section
variable {w w':I} {P Q R S:ab}
theorem Has.imp(h:Has w P)(i:∀x,P x→Q x):Has w Q:=let⟨x,s,p⟩:=h;⟨x,s,i x p⟩
theorem Has.eq(h:Has w P)(e:P=Q):Has w Q:=e▸h
theorem Has.left(h:Has w (P*Q)):Has w P:=by
 obtain⟨_,s,h1,h2,d,rfl,p,q⟩:=h;exact⟨h1,sub_union_left s,p⟩
theorem Has.right(h:Has w (P*Q)):Has w Q:=by
 obtain⟨_,s,h1,h2,d,rfl,p,q⟩:=h;exact⟨h2,sub_union_right d s,q⟩
theorem Has.r3{T:ab}(h:Has w (P*(Q*(R*T)))):Has w T:=h.right.right.right
theorem Has.r4{T U:ab}(h:Has w (P*(Q*(R*(T*U))))):Has w U:=h.right.right.right.right
theorem Has.r5{T U V:ab}(h:Has w (P*(Q*(R*(T*(U*V)))))):Has w V:=h.right.right.right.right.right
theorem Has.swap(h:Has w (P*Q)):Has w (Q*P):=cy P Q▸h
theorem Has.a1(h:Has w ((P*Q)*R)):Has w (P*(Q*R)):=aN P Q R▸h
theorem Has.a2(h:Has w (P*(Q*R))):Has w ((P*Q)*R):=by rw[aN];exact h
theorem Has.p2(h:Has w (P*(Q*R))):Has w (Q*(P*R)):=av P Q R▸h
theorem Has.imp_left(h:Has w (P*R))(i:∀x,P x→Q x):Has w (Q*R):=h.imp fun _ ⟨h1,h2,d,e,p,q⟩=>⟨h1,h2,d,e,i _ p,q⟩
theorem bZ{p:Prop}:Has w (eZ p*P)↔p∧Has w P:=by
 constructor
 ·intro h
  refine⟨?_,h.right⟩;obtain⟨_,_,h1,_,_,_,⟨hp,_⟩,_⟩:=h;exact hp
 ·rintro⟨hp,x,s,q⟩
  exact⟨x,s,emp,x,fun b=> .inl rfl,by funext b;simp[union,emp],⟨hp,rfl⟩,q⟩
theorem wV{α:Type}(F:α→ab):ex F*P=ex fun x=>F x*P:=by
 funext h
 apply propext;constructor
 ·rintro⟨h1,h2,d,e,⟨x,p⟩,q⟩
  exact⟨x,h1,h2,d,e,p,q⟩
 ·rintro⟨x,h1,h2,d,e,p,q⟩
  exact⟨h1,h2,d,e,⟨x,p⟩,q⟩
theorem za{α:Type}{F:α→ab}:Has w (ex F)↔∃x,Has w (F x):=by
 constructor
 ·rintro⟨h,s,x,p⟩
  exact⟨x,h,s,p⟩
 ·rintro⟨x,h,s,p⟩
  exact⟨h,s,x,p⟩
theorem aw{α:Type}{F:α→ab}:Has w (ex F*P)↔∃x,Has w (F x*P):=by rw[wV,za]
theorem Has.heap{b:Nat}{cs:Array D}{t:TypeId}(h:Has w (aa b cs t*R)):w.heap[b]? =E (.cells cs t (0,0)):=by
 obtain⟨_,s,h1,h2,d,rfl,rfl,q⟩:=h;exact s b _ (by simp[union,single])
theorem Has.lt{b:Nat}{cs:Array D}{t:TypeId}(h:Has w (aa b cs t*R)):b<w.heap.size:=(Array.getElem?_eq_some_iff.1 h.heap).1
theorem Has.cell{b:Nat}{cs:Array D}{t:TypeId}(h:Has w (aa b cs t*R))(i:Nat):w.cell? (M b i G)=cs[i]? :=cell_of_row w b i cs t (0,0) h.heap
theorem Has.free{b:Nat}{cs:Array D}{t:TypeId}(h:Has w (aa b cs t*R))(i:Nat):w.frozen? (M b i G)=H:=by
 have:=h.heap;simp[World.frozen?,this]
theorem Has.ne{b b':Nat}{cs cs':Array D}{t t':TypeId}(h:Has w (aa b cs t*(aa b' cs' t'*R))):b≠b':=by
 rintro rfl;obtain⟨_,s,h1,h2,d,rfl,rfl,h3,h4,d',rfl,rfl,q⟩:=h;rcases d b with e|e<;>simp[single,union] at e
theorem Has.cells4{b:Nat}{v0 v1 v2 v3:D}{t:TypeId}(h:Has w (aa b #[v0,v1,v2,v3] t*R)):
  w.cell? (M b 0 G)=E v0∧w.cell? (M b 1 G)=E v1∧w.cell? (M b 2 G)=E v2∧w.cell? (M b 3 G)=E v3:=
 ⟨h.cell 0,h.cell 1,h.cell 2,h.cell 3⟩
theorem Has.drop3{A B X O:ab}(h:Has w (A*(B*(X*O)))):Has w (A*(B*O)):=
 (h.eq (show _=X*(A*(B*O)) by simp only[av])).right
theorem Has.drop4{A B C X O:ab}(h:Has w (A*(B*(C*(X*O))))):Has w (A*(B*(C*O))):=
 (h.eq (show _=X*(A*(B*(C*O))) by simp only[av])).right
theorem Has.frees4{b:Nat}{v0 v1 v2 v3:D}{t:TypeId}(h:Has w (aa b #[v0,v1,v2,v3] t*R)):
  w.frozen? (M b 0 G)=H∧w.frozen? (M b 1 G)=H∧w.frozen? (M b 2 G)=H∧w.frozen? (M b 3 G)=H:=
 ⟨h.free 0,h.free 1,h.free 2,h.free 3⟩
theorem Has.frees3{b:Nat}{v0 v1 v2:D}{t:TypeId}(h:Has w (aa b #[v0,v1,v2] t*R)):
  w.frozen? (M b 0 G)=H∧w.frozen? (M b 1 G)=H∧w.frozen? (M b 2 G)=H:=
 ⟨h.free 0,h.free 1,h.free 2⟩
theorem Has.cells6{b:Nat}{v0 v1 v2 v3 v4 v5:D}{t:TypeId}(h:Has w (aa b #[v0,v1,v2,v3,v4,v5] t*R)):
  w.cell? (M b 0 G)=E v0∧w.cell? (M b 1 G)=E v1∧w.cell? (M b 2 G)=E v2∧w.cell? (M b 3 G)=E v3∧w.cell? (M b 4 G)=E v4∧w.cell? (M b 5 G)=E v5:=
 ⟨h.cell 0,h.cell 1,h.cell 2,h.cell 3,h.cell 4,h.cell 5⟩
theorem Has.cells5{b:Nat}{v0 v1 v2 v3 v4:D}{t:TypeId}(h:Has w (aa b #[v0,v1,v2,v3,v4] t*R)):
  w.cell? (M b 0 G)=E v0∧w.cell? (M b 1 G)=E v1∧w.cell? (M b 2 G)=E v2∧w.cell? (M b 3 G)=E v3∧w.cell? (M b 4 G)=E v4:=
 ⟨h.cell 0,h.cell 1,h.cell 2,h.cell 3,h.cell 4⟩
theorem Has.cells3{b:Nat}{v0 v1 v2:D}{t:TypeId}(h:Has w (aa b #[v0,v1,v2] t*R)):
  w.cell? (M b 0 G)=E v0∧w.cell? (M b 1 G)=E v1∧w.cell? (M b 2 G)=E v2:=
 ⟨h.cell 0,h.cell 1,h.cell 2⟩
theorem Has.cells2{b:Nat}{v0 v1:D}{t:TypeId}(h:Has w (aa b #[v0,v1] t*R)):
  w.cell? (M b 0 G)=E v0∧w.cell? (M b 1 G)=E v1:=
 ⟨h.cell 0,h.cell 1⟩
theorem Has.cells9{b:Nat}{v0 v1 v2 v3 v4 v5 v6 v7 v8:D}{t:TypeId}(h:Has w (aa b #[v0,v1,v2,v3,v4,v5,v6,v7,v8] t*R)):
  w.cell? (M b 0 G)=E v0∧w.cell? (M b 1 G)=E v1∧w.cell? (M b 2 G)=E v2∧w.cell? (M b 3 G)=E v3∧w.cell? (M b 4 G)=E v4∧w.cell? (M b 5 G)=E v5∧
   w.cell? (M b 6 G)=E v6∧w.cell? (M b 7 G)=E v7∧w.cell? (M b 8 G)=E v8:=
 ⟨h.cell 0,h.cell 1,h.cell 2,h.cell 3,h.cell 4,h.cell 5,h.cell 6,h.cell 7,h.cell 8⟩
theorem Has.upd{b:Nat}{cs:Array D}{t:TypeId}(h:Has w (aa b cs t*R)){cs':Array D}{t':TypeId}
  (hb:w'.heap[b]? =E (.cells cs' t' (0,0))) (ho:∀k,k<w.heap.size→k≠b→w'.heap[k]? =w.heap[k]?):Has w' (aa b cs' t'*R):=by
 obtain⟨_,s,h1,h2,d,rfl,rfl,q⟩:=h;refine⟨union (single b (.cells cs' t' (0,0))) h2,?_,_,_,?_,rfl,rfl,q⟩
 ·refine sub_union ?_ ?_
  ·intro k o e
   simp only[single] at e;split at e
   ·rename_i hk;subst hk;simp at e;subst e;exact hb
   ·cases e
  ·intro k o e
   have hk:k≠b:=by
    rintro rfl;rcases d k with e'|e'
    ·simp[single] at e'
    ·rw[e'] at e;cases e
   have h0:=sub_union_right d s k o e;have hlt:k<w.heap.size:=(Array.getElem?_eq_some_iff.1 h0).1;show w'.heap[k]? =E o;rw[ho k hlt hk];exact h0
 ·intro k
  rcases d k with e|e
  ·left;simp only[single] at e⊢;split at e<;>simp_all
  ·right;exact e
theorem Has.keep(h:Has w P)(ho:∀k,k<w.heap.size→w'.heap[k]? =w.heap[k]?):Has w' P:=by
 obtain⟨x,s,p⟩:=h;refine⟨x,fun k o e=> ?_,p⟩;have h0:=s k o e;have hlt:k<w.heap.size:=(Array.getElem?_eq_some_iff.1 h0).1;show w'.heap[k]? =E o;rw[ho k hlt];exact h0
theorem Has.below(h:Has w P)(hb:Below w.heap.size w w'):Has w' P:=h.keep hb.block
theorem Has.drew(h:Has w P):Has w.drew P:=h
theorem Has.alloc(h:Has w P)(o:Obj):Has (w.alloc o) P:=h.keep fun k hk=>Below.heap_alloc w o k hk
theorem Has.set{b:Nat}{cs:Array D}{t:TypeId}(h:Has w (aa b cs t*R))(i:Nat)(v:D):
  Has (w.setCell (M b i G) v) (aa b (cs.setIfInBounds i v) t*R):=
 h.upd (by have:=h.heap;simp[World.setCell,Array.getElem?_modify,this]) fun k _ hk=>Below.heap_setCell w _ v k hk
theorem Has.set4{b:Nat}{v0 v1 v2 v3:D}{t:TypeId}(h:Has w (aa b #[v0,v1,v2,v3] t*R))(u0 u1 u2 u3:D):
  Has ((((w.setCell (M b 0 G) u0).setCell (M b 1 G) u1).setCell (M b 2 G) u2).setCell (M b 3 G) u3) (aa b #[u0,u1,u2,u3] t*R):=
 (((h.set 0 u0).set 1 u1).set 2 u2).set 3 u3
theorem Has.set3{b:Nat}{v0 v1 v2:D}{t:TypeId}(h:Has w (aa b #[v0,v1,v2] t*R))(u0 u1 u2:D):
  Has (((w.setCell (M b 0 G) u0).setCell (M b 1 G) u1).setCell (M b 2 G) u2) (aa b #[u0,u1,u2] t*R):=((h.set 0 u0).set 1 u1).set 2 u2
theorem Has.new(h:Has w P)(cs:Array D)(t:TypeId):Has (w.alloc (.cells cs t)) (aa w.heap.size cs t*P):=by
 obtain⟨x,s,p⟩:=h;have hx:x w.heap.size=G:=by
  cases e:x w.heap.size with
  |none=>rfl
  |some o=>
   have h0:=s _ _ e;have hlt:w.heap.size<w.heap.size:=(Array.getElem?_eq_some_iff.1 h0).1;omega
 refine⟨union (single w.heap.size (.cells cs t (0,0))) x,?_,_,_,?_,rfl,rfl,p⟩
 ·refine sub_union ?_ ?_
  ·intro k o e
   simp only[single] at e;split at e
   ·rename_i hk;subst hk;simp at e;subst e;exact heap_alloc_new w _
   ·cases e
  ·intro k o e
   have h0:=s k o e;have hlt:k<w.heap.size:=(Array.getElem?_eq_some_iff.1 h0).1;show(w.alloc _).heap[k]? =E o;rw[Below.heap_alloc w _ k hlt];exact h0
 ·intro k
  by_cases hk:k=w.heap.size
  ·right;rw[hk];exact hx
  ·left;simp[single,hk]
theorem bc(w:I):Has w (cr w w.heap.size):=
 ⟨_,fun b o e=>by dsimp only at e⊢;split at e<;>simp_all,rfl⟩
theorem Has.oldAt{w0:I}{B:Nat}(h:Has w (cr w0 B*R)){b:Nat}(hb:b<B)(hB:B≤w0.heap.size):w.heap[b]? =w0.heap[b]? :=by
 obtain⟨_,s,h1,h2,d,rfl,rfl,q⟩:=h;have hlt:b<w0.heap.size:=by omega
 have:(fun b=>if b<B then w0.heap[b]? else G) b=E w0.heap[b]:=by simp[hb,hlt]
 have h0:w.heap[b]? =E w0.heap[b]:=s b w0.heap[b] (by simp only[union,this];simp);rw[h0];simp[hlt]
theorem Has.oldCell{w0:I}(h:Has w (cr w0 w0.heap.size*R)){a:Y}(hb:a.block<w0.heap.size):w.cell? a=w0.cell? a:=
 World.cell?_of_block (w:=w0) (h.oldAt hb (Nat.le_refl _))
theorem Has.oldCell'{w0:I}(h:Has w (cr w0 w0.heap.size*R)){a:Y}{v:D}(hb:w0.cell? a=E v):w.cell? a=E v:=
 (h.oldCell (World.block_lt_of_cell? w0 a hb)).trans hb
end
structure Ext (w w':I):Prop where
 os:w'.os=w.os
 tape:w'.tape=w.tape
 output:w'.output=w.output
 size:w.heap.size≤w'.heap.size
theorem Ext.refl(w:I):Ext w w:=⟨rfl,rfl,rfl,Nat.le_refl _⟩
theorem Ext.trans{a b c:I}(h:Ext a b)(k:Ext b c):Ext a c:=⟨k.os.trans h.os,k.tape.trans h.tape,k.output.trans h.output,Nat.le_trans h.size k.size⟩
theorem Ext.drew{a w:I}(h:Ext a w):Ext a w.drew:=⟨h.os,h.tape,h.output,h.size⟩
theorem Ext.drewN{a w:I}(h:Ext a w)(n:Nat):Ext a (w.drewN n):=⟨h.os,h.tape,h.output,h.size⟩
theorem Ext.alloc{a w:I}(h:Ext a w)(o:Obj):Ext a (w.alloc o):=⟨h.os,h.tape,h.output,Nat.le_trans h.size (by simp)⟩
theorem Ext.set{a w:I}(h:Ext a w)(p:Y)(v:D):Ext a (w.setCell p v):=⟨h.os,h.tape,h.output,by simpa [World.setCell] using h.size⟩
theorem Ext.below{a w w':I}{B:Nat}(h:Ext a w)(k:Below B w w'):Ext a w':=h.trans ⟨k.os,k.tape,k.output,k.size⟩
theorem aj{w w':I}(h:Ext w w':=by(repeat(first|with_reducible assumption|with_reducible exact Ext.refl _|with_reducible refine Ext.set ?_ _ _|with_reducible refine Ext.alloc ?_ _|with_reducible refine Ext.drew ?_ |with_reducible refine Ext.drewN ?_ _|assumption|exact Ext.refl _|refine Ext.alloc ?_ _|refine Ext.set ?_ _ _|refine Ext.drew ?_ |refine Ext.drewN ?_ _|refine Ext.below ?_ (by assumption)|refine Ext.trans ?_ (by assumption)))):Ext w w':=h
theorem Ext.grown{a w w':I}{bt:Option Nat}(h:Ext a w)(k:w.grownBy w' bt):Ext a w':=h.trans ⟨k.os,k.tape,k.output,k.size⟩
theorem Ext.setRow{a w:I}(h:Ext a w)(g:Nat)(cs:Array D):Ext a (w.setRow g cs):=⟨h.os,h.tape,h.output,by simpa [World.setRow] using h.size⟩
theorem vh{w0 w:I}{R:ab}(h:Has w (cr w0 w0.heap.size*R))(e:Ext w0 w):Below w0.heap.size w0 w:=
 ⟨e.os,e.tape,e.output,e.size,fun _ hk=>h.oldAt hk (Nat.le_refl _)⟩
theorem aA{w0 w:I}(h:Has w (cr w0 w0.heap.size))(e:Ext w0 w):Below w0.heap.size w0 w:=
 vh (R:=eZ True) (Has.swap (bZ.2 ⟨trivial,h⟩)) e
def cF(v:D)(Q:ab)(w:I)(e:Ending)(w':I):Prop:=e= .returned v∧Has w' Q∧Ext w w'
def Pure(v:D)(w:I)(e:Ending)(w':I):Prop:=e= .returned v∧Below w.heap.size w w'
def Same(v:D)(w:I)(e:Ending)(w':I):Prop:=e= .returned v∧w=w'
def bt(e size:Nat)(v:D)(n:Nat)(xs:List D):ab:=fun h=>
 xs.length=n*size∧
 ((v= .slice G 0 0∧n=0∧h=emp)∨
  ∃g cap cur,v= .slice (E (M g 0 G)) n cap∧n≤cap∧cap≤maxLen∧cur.size=cap*size∧cur.toList.take (n*size)=xs∧aa g cur e h)
section
variable {w w':I} {P Q R S:ab} {e size:Nat} {v:D} {n:Nat} {xs:List D}
theorem Has.ownsRow(h:Has w (bt e size v n xs*R)):w.ownsRow 0 e size v n xs:=by
 obtain⟨_,s,h1,h2,d,rfl,⟨hl,h0|⟨g,cap,cur,rfl,hn,hc,hs,ht,rfl⟩⟩,q⟩:=h
 ·exact⟨hl,.inl ⟨h0.1,h0.2.1⟩⟩
 ·exact⟨hl,.inr ⟨g,cap,cur,rfl,Nat.zero_le _,s g _ (by simp[union,single]),hn,hc,hs,ht⟩⟩
theorem Has.rowNil(h:Has w R):Has w (bt e size (.slice G 0 0) 0 []*R):=by
 obtain⟨x,s,q⟩:=h;exact⟨x,s,emp,x,fun _=> .inl rfl,by funext b;simp[union,emp],⟨by simp,.inl ⟨rfl,rfl,rfl⟩⟩,q⟩
theorem Has.rowCases(h:Has w (bt e size v n xs*R)):
  (v= .slice G 0 0∧n=0∧xs=[]∧Has w R)∨
  ∃g cap cur,v= .slice (E (M g 0 G)) n cap∧n≤cap∧cap≤maxLen∧cur.size=cap*size∧cur.toList.take (n*size)=xs∧Has w (aa g cur e*R):=by
 have hr:=h.right;obtain⟨_,s,h1,h2,d,rfl,⟨hl,h0|⟨g,cap,cur,rfl,hn,hc,hs,ht,hb⟩⟩,q⟩:=h
 ·obtain⟨rfl,rfl,rfl⟩:=h0
  exact .inl ⟨rfl,rfl,by simpa using hl,hr⟩
 ·exact .inr ⟨g,cap,cur,rfl,hn,hc,hs,ht,_,s,h1,h2,d,rfl,hb,q⟩
theorem Has.rowOf{g cap:Nat}{cur:Array D}(h:Has w (aa g cur e*R))(hl:xs.length=n*size)(hn:n≤cap)(hc:cap≤maxLen)(hs:cur.size=cap*size)
  (ht:cur.toList.take (n*size)=xs):Has w (bt e size (.slice (E (M g 0 G)) n cap) n xs*R):=
 h.imp_left fun _ hb=>⟨hl,.inr ⟨g,cap,cur,rfl,hn,hc,hs,ht,hb⟩⟩
theorem Has.rowGrown{v':D}{n':Nat}{xs':List D}(h:Has w (bt e size v n xs*R)){base:Nat}(ho:w'.ownsRow base e size v' n' xs')(hg:w.grownBy w' v.ownBlock)
  (hb:v'.ownBlock=v.ownBlock∨∀k,v'.ownBlock=E k→w.heap.size≤k):Has w' (bt e size v' n' xs'*R):=by
 rcases ho.2 with ⟨rfl,rfl⟩|⟨g,cap,cur,rfl,_,hh,hn,hc,hs,ht⟩
 ·have hx:xs'=[]:=by simpa using ho.1
  subst hx;refine Has.rowNil ?_;rcases h.rowCases with ⟨rfl,_,_,hR⟩|⟨g,cap,cur,rfl,_,_,_,_,hB⟩
  ·exact hR.keep fun k hk=>hg.block k hk (by simp[Value.ownBlock])
  ·have hgl:=hB.lt
   have hk:=(hB.upd (w':=w.setRow g cur) (cs':=cur) (t':=e) (setRow_heap w g cur cur e (0,0) hB.heap) (fun k _ hk=>setRow_other w g k cur hk));clear hk;obtain⟨_,s,h1,h2,d,rfl,rfl,q⟩:=hB;refine⟨h2,fun k o hk=> ?_,q⟩;have hne:k≠g:=by
    rintro rfl;rcases d k with e'|e'
    ·simp[single] at e'
    ·rw[e'] at hk;cases hk
   have h0:=sub_union_right d s k o hk;have hlt:k<w.heap.size:=(Array.getElem?_eq_some_iff.1 h0).1;show w'.heap[k]? =E o;rw[hg.block k hlt (by simp[Value.ownBlock,hne])];exact h0
 ·refine Has.rowOf (g:=g) (cap:=cap) (cur:=cur) ?_ ho.1 hn hc hs ht
  rcases h.rowCases with ⟨rfl,_,_,hR⟩|⟨g0,cap0,cur0,rfl,_,_,_,_,hB⟩
  ·
   have hge:w.heap.size≤g:=by
    rcases hb with hb|hb
    ·simp[Value.ownBlock] at hb
    ·exact hb g rfl
   obtain⟨x,s,q⟩:=hR;refine⟨union (single g (.cells cur e (0,0))) x,?_,_,_,?_,rfl,rfl,q⟩
   ·refine sub_union ?_ ?_
    ·intro k o hk
     simp only[single] at hk;split at hk
     ·rename_i hkk;subst hkk;simp at hk;subst hk;exact hh
     ·cases hk
    ·intro k o hk
     have h0:=s k o hk;have hlt:k<w.heap.size:=(Array.getElem?_eq_some_iff.1 h0).1;show w'.heap[k]? =E o;rw[hg.block k hlt (by simp[Value.ownBlock])];exact h0
   ·intro k
    by_cases hk:k=g
    ·right
     cases hx:x k with
     |none=>rfl
     |some o=>
      have h0:=s _ _ hx;have hlt:k<w.heap.size:=(Array.getElem?_eq_some_iff.1 h0).1;omega
    ·left;simp[single,hk]
  ·by_cases hgg:g=g0
   ·subst hgg
    exact hB.upd hh fun k hk hne=>hg.block k hk (by simp[Value.ownBlock,hne])
   ·have hge:w.heap.size≤g:=by
     rcases hb with hb|hb
     ·simp[Value.ownBlock] at hb;exact absurd hb hgg
     ·exact hb g rfl
    obtain⟨_,s,h1,h2,d,rfl,rfl,q⟩:=hB;refine⟨union (single g (.cells cur e (0,0))) h2,?_,_,_,?_,rfl,rfl,q⟩
    ·refine sub_union ?_ ?_
     ·intro k o hk
      simp only[single] at hk;split at hk
      ·rename_i hkk;subst hkk;simp at hk;subst hk;exact hh
      ·cases hk
     ·intro k o hk
      have hne:k≠g0:=by
       rintro rfl;rcases d k with e'|e'
       ·simp[single] at e'
       ·rw[e'] at hk;cases hk
      have h0:=sub_union_right d s k o hk;have hlt:k<w.heap.size:=(Array.getElem?_eq_some_iff.1 h0).1;show w'.heap[k]? =E o;rw[hg.block k hlt (by simp[Value.ownBlock,hne])];exact h0
    ·intro k
     by_cases hk:k=g
     ·right
      cases hx:h2 k with
      |none=>rfl
      |some o=>
       have h0:=sub_union_right d s _ _ hx;have hlt:k<w.heap.size:=(Array.getElem?_eq_some_iff.1 h0).1;omega
     ·left;simp[single,hk]
end
structure kL (P:Program) (e:TypeId) (z:D) (size bytes:Nat):Prop where
 info:(P.info? e).map (fun i=>(i.zero,i.size,i.bytes))=E (E z,size,bytes)
 cells:z.cells.size=size
 pos:0<size
section
variable {P:Program} {w:I} {R:ab}
theorem gG{t ty e:TypeId}{z:D}{size bytes:Nat}(hT:P.underlying t=E (.slice e))(hE:kL P e z size bytes)
  (v:D) (n:Nat) (xs:List D) (h:Has w (bt e size v n xs*R))
  (ad:Y) (m c:Nat) (news:List D) (hl:news.length=m*size) (hnews:∀j u,news[j]? =E u→w.cell? (ad.add j)=E u) (h1:∀u∈news,u.oneCell'=J)
  (h63:n+m≤maxLen) (hbytes:(n+m)*bytes≤140737488355328):
  ∃v' w',(Builtin.append_ #[t,t] ty #[v,.slice (E ad) m c]).run P w= .ok v' w'∧Has w' (bt e size v' (n+m) (xs++news)*R)∧Ext w w':=by
 obtain⟨i,hi,hz,hs,hb⟩:=info_parts hE.info;obtain⟨v',w',hr,ho,hg,_,hbk⟩:=run_append_own_at (P:=P) w 0 t ty e i z size bytes hT hi hz hs hb hE.cells hE.pos v n xs h.ownsRow ad m c news hl hnews h1 h63 hbytes (Nat.zero_le _);refine⟨v',w',hr,h.rowGrown ho hg ?_,(Ext.refl w).grown hg⟩;rcases hbk with hbk|hbk
 ·exact .inl hbk
 ·exact .inr fun k hk=>by rw[hbk] at hk;injection hk with hk;omega
theorem np{o:Oper}{a:Act}{K:Act→I→Prop}{Q:Exit→Act→I→Prop}(s x:Operand)(t:TypeId)
  (ho:o.op= .call {callee:= .builtin .append,args:= #[s,x],argTypes:= #[t,t]}) {e:TypeId} {z:D} {size bytes:Nat} (hT:P.underlying t=E (.slice e)) (hE:kL P e z size bytes)
  (v:D) (n:Nat) (xs:List D) (hs:a.eval s=v) (h:Has w (bt e size v n xs*R))
  (ad:Y) (m c:Nat) (news:List D) (hx:a.eval x= .slice (E ad) m c) (hl:news.length=m*size) (hnews:∀j u,news[j]? =E u→w.cell? (ad.add j)=E u) (h1:∀u∈news,u.oneCell'=J)
  (h63:n+m≤maxLen) (hbytes:(n+m)*bytes≤140737488355328)
  (hk:∀v' w',Has w' (bt e size v' (n+m) (xs++news)*R)→Ext w w'→K (a.put o.dst v') w'):o.wp P a w K Q:=by
 obtain⟨v',w',hr,h2,h3⟩:=gG (ty:=o.type) hT hE v n xs h ad m c news hl hnews h1 h63 hbytes;unfold Oper.wp execOp;simp only[ho,resolve,invoke,builtin,Sem.run_bind,Sem.run_pure,Result.andThen_ok,List.map_toArray,List.map_cons,List.map_nil,hs,hx,hr];exact hk v' w' h2 h3
theorem a8{ops:Array Oper}{rest:List Oper}{o:Oper}{a:Act}{Q:Exit→Act→I→Prop}(hgd:o.guard=G)(s x:Operand)(t:TypeId)
  (ho:o.op= .call {callee:= .builtin .append,args:= #[s,x],argTypes:= #[t,t]}) {e:TypeId} {z:D} {size bytes:Nat} (hT:P.underlying t=E (.slice e)) (hE:kL P e z size bytes)
  (v:D) (n:Nat) (xs:List D) (hs:a.eval s=v) (h:Has w (bt e size v n xs*R))
  (ad:Y) (m c:Nat) (news:List D) (hx:a.eval x= .slice (E ad) m c) (hl:news.length=m*size) (hnews:∀j u,news[j]? =E u→w.cell? (ad.add j)=E u) (h1:∀u∈news,u.oneCell'=J)
  (h63:n+m≤maxLen) (hbytes:(n+m)*bytes≤140737488355328)
  (hk:∀v' w',Has w' (bt e size v' (n+m) (xs++news)*R)→Ext w w'→wpList P ops Q rest (a.put o.dst v') w'):wpList P ops Q (o::rest) a w:=
 wpList_plain hgd fun _ hK=>np s x t ho hT hE v n xs hs h ad m c news hx hl hnews h1 h63 hbytes fun v' w' h2 h3=>hK _ _ (hk v' w' h2 h3)
theorem fj(w:I)(u:D)(e:TypeId):∀j x,([u]:List D)[j]? =E x→(w.alloc (.cells #[u] e)).cell? (((M w.heap.size 0 G):Y).add j)=E x:=by
 intro j x hj;match j,hj with
 |0,hj=>simp at hj;subst hj;rw[show(((M w.heap.size 0 G):Y).add 0)=(M w.heap.size 0 G) from rfl,cell_of_row _ _ 0 #[u] e (0,0) (heap_alloc_new w _)];rfl
theorem jH(w:I)(us:List D)(e:TypeId):∀j x,us[j]? =E x→(w.alloc (.cells us.toArray e)).cell? (((M w.heap.size 0 G):Y).add j)=E x:=by
 intro j x hj;have e1:(((M w.heap.size 0 G):Y).add j)=(M w.heap.size j G):=by unfold Addr.add;split<;>simp_all
 rw[e1,cell_of_row _ _ j us.toArray e (0,0) (heap_alloc_new w _)];simpa using hj
end
def Rd(w:I)(A:Option Y)(n:Nat)(xs:List D):Prop:=
 xs.length=n∧n≤9223372036854775807∧∀j u,xs[j]? =E u→∃b off,A=E (M b off G)∧b<w.heap.size∧w.cell? ⟨b,off+j,G⟩=E u
theorem Rd.at_{w:I}{A:Option Y}{n j:Nat}{xs:List D}{u:D}(h:Rd w A n xs)(hu:xs[j]? =E u):∃b off,A=E (M b off G)∧b<w.heap.size∧w.cell? ⟨b,off+j,G⟩=E u:=h.2.2 j u hu
theorem Has.rd{w:I}{R:ab}{e:TypeId}{A:Option Y}{n c:Nat}{xs:List D}{k:Nat}(h:Has w (bt e 1 (.slice A n c) k xs*R)):Rd w A n xs∧k=n:=by
 rcases h.rowCases with ⟨hv,rfl,rfl,_⟩|⟨g,cap,cur,hv,hn,hc,hs,ht,hb⟩
 ·injection hv with h1 h2 h3
  subst h1;subst h2;exact⟨⟨rfl,by omega,fun j u hu=>by simp at hu⟩,rfl⟩
 ·injection hv with h1 h2 h3
  subst h1;subst h2;subst h3;refine⟨⟨?_,by unfold maxLen at hc;omega,fun j u hu=>⟨g,0,rfl,hb.lt,?_⟩⟩,rfl⟩
  ·rw[←ht]
   simp;omega
  ·rw[hb.cell,←hu,←ht]
   have hj:j<n:=by
    have:=List.getElem?_eq_some_iff.1 hu;obtain⟨hlt,_⟩:=this;rw[←ht] at hlt;simp at hlt;omega
   simp[hj]
theorem Has.rowForm{w:I}{R:ab}{e size:TypeId}{v:D}{n:Nat}{xs:List D}(h:Has w (bt e size v n xs*R)):∃A c,v= .slice A n c:=by
 rcases h.rowCases with ⟨hv,rfl,_,_⟩|⟨g,cap,cur,hv,_⟩
 ·exact⟨_,_,hv⟩
 ·exact⟨_,_,hv⟩
def Arr(w:I)(A:Option Y)(n size:Nat)(ls:List (List D)):Prop:=
 ls.length=n∧n≤9223372036854775807∧∀i xs,ls[i]? =E xs→∃b off,A=E (M b off G)∧b<w.heap.size∧∀j u,xs[j]? =E u→w.cell? ⟨b,off+i*size+j,G⟩=E u
theorem Arr.at_{w:I}{A:Option Y}{n size i:Nat}{ls:List (List D)}{xs:List D}(h:Arr w A n size ls)(hi:ls[i]? =E xs):
  ∃b off,A=E (M b off G)∧b<w.heap.size∧∀j u,xs[j]? =E u→w.cell? ⟨b,off+i*size+j,G⟩=E u:=h.2.2 i xs hi
open Classical in
noncomputable def kb (w u:I):I:=if Below w.heap.size w u then u else w
theorem aV(w u:I):Below w.heap.size w (kb w u):=by
 unfold kb;split
 ·assumption
 ·exact Below.refl _ _
theorem vi{w u:I}(h:Below w.heap.size w u):∃x,u=kb w x:=⟨u,by unfold kb;rw[if_pos h]⟩
theorem am{w:I}{a:Y}{v:D}(h:w.cell? a=E v)(u:I):(kb w u).cell? a=E v:=
 ((aV w u).cell (World.block_lt_of_cell? w a h)).trans h
theorem aI{P:Program}{id:Nat}{Q:Exit→Act→I→Prop}{a:Act}{w:I}{l:List Oper}(hm:P.follows .mixedOrders =J)(hB:Region.lexB .any l.toArray=J)
  (h:wpQuiet P l.toArray (fun w'=>∃u,w'=kb w u) (fun a'=>∀w',(∃u,w'=kb w u)→Q .normal a' w') l a):(Code.region id l.toArray J).wp P Q a w:=
 wp_region_quiet (C:=fun w'=>∃u,w'=kb w u) hm hB (vi ⟨rfl,rfl,rfl,Nat.le_refl _,fun _ _=>rfl⟩) (by simpa using h)
theorem Pure.via{P:Program}{f:FuncId}{args:Array D}{w u:I}{v:D}(h:Z P f args (kb w u) (Pure v (kb w u))):
  Z P f args (Go.Proofs.YtmfheghbgihdmaaGreatDoor.kb w u) fun e w''=>e= .returned v∧∃x,w''=Go.Proofs.YtmfheghbgihdmaaGreatDoor.kb w x:=
 h.mono fun _ _ ⟨he,hw⟩=>⟨he,vi ((aV w u).trans (hw.mono (aV w u).size))⟩
theorem Same.via{P:Program}{f:FuncId}{args:Array D}{w u:I}{v:D}(h:Z P f args (kb w u) (Same v (kb w u))):
  Z P f args (Go.Proofs.YtmfheghbgihdmaaGreatDoor.kb w u) fun e w''=>e= .returned v∧∃x,w''=Go.Proofs.YtmfheghbgihdmaaGreatDoor.kb w x:=
 h.mono fun _ _ ⟨he,hw⟩=>⟨he,u,hw.symm⟩
theorem Has.via{w:I}{P:ab}(h:Has w P)(u:I):Has (kb w u) P:=h.below (aV w u)
def dd(N:Nat)(f:Nat→D):Array D:=(Array.range N).map f
theorem nU(N:Nat)(f:Nat→D):(dd N f).size =N:=by simp[dd]
theorem ku{N j:Nat}{f:Nat→D}(h:j<N):(dd N f)[j]? =E (f j):=by simp[dd,h]
theorem mK{N:Nat}{f g:Nat→D}(h:∀j,j<N→f j=g j):dd N f=dd N g:=by
 unfold dd;apply Array.ext
 ·simp
 ·intro i h1 h2
  simp at h1;simp[h i h1]
def ch{α:Type}(f:Nat→α)(j:Nat)(v:α):Nat→α:=fun i=>if i=j then v else f i
theorem kM{α:Type}(f:Nat→α)(j:Nat)(v:α):ch f j v j=v:=by simp[ch]
theorem g9{α:Type}(f:Nat→α){i j:Nat}(v:α)(h:i≠j):ch f j v i=f i:=by simp[ch,h]
theorem vj(N:Nat)(f:Nat→D)(j:Nat)(v:D):(dd N f).setIfInBounds j v=dd N (ch f j v):=by
 apply Array.ext
 ·simp[dd]
 ·intro i h1 h2
  have hi:i<N:=by simpa [dd] using h2
  have e1:((dd N f).setIfInBounds j v)[i]? =E (ch f j v i):=by
   rw[Array.getElem?_setIfInBounds];by_cases h:j=i
   ·subst h
    simp[nU,hi,ch]
   ·rw[if_neg h,ku hi,g9 _ _ (fun e=>h e.symm)]
  have e2:=ku (f:=ch f j v) hi;rw[Array.getElem?_eq_getElem h1] at e1;rw[Array.getElem?_eq_getElem h2] at e2;exact Option.some.inj (e1.trans e2.symm)
theorem tv(z:Array D)(N:Nat):madeCells z N=dd N (fun j=>z[j % z.size]!):=rfl
section
variable {w w':I} {R:ab} {g e N:Nat} {f:Nat→D}
theorem Has.tabGet(h:Has w (aa g (dd N f) e*R)){j:Nat}(hj:j<N):w.cell? (M g j G)=E (f j):=by rw[h.cell,ku hj]
theorem Has.tabSet(h:Has w (aa g (dd N f) e*R))(j:Nat)(v:D):Has (w.setCell (M g j G) v) (aa g (dd N (ch f j v)) e*R):=by
 have:=h.set j v;rwa [vj] at this
theorem Has.tabExt{f':Nat→D}(h:Has w (aa g (dd N f) e*R))(he:∀j,j<N→f j=f' j):Has w (aa g (dd N f') e*R):=mK he▸h
theorem Has.rowHead{v:D}{n:Nat}{xs:List D}(h:Has w (bt e 1 v (n+1) xs*R)):
  ∃g cap,v= .slice (E (M g 0 G)) (n+1) cap∧n+1≤cap∧cap≤maxLen∧g<w.heap.size∧∀x,xs[n]? =E x→w.cell? (M g n G)=E x:=by
 rcases h.rowCases with ⟨_,h0,_⟩|⟨g,cap,cur,hv,hn,hc,hs,ht,hb⟩
 ·omega
 ·refine⟨g,cap,hv,hn,hc,hb.lt,fun x hx=> ?_⟩
  rw[hb.cell,←hx,←ht];simp
theorem Has.rowPop{n cap:Nat}{xs:List D}(h:Has w (bt e 1 (.slice (E (M g 0 G)) (n+1) cap) (n+1) xs*R)):Has w (bt e 1 (.slice (E (M g 0 G)) n cap) n (xs.take n)*R):=by
 rcases h.rowCases with ⟨_,h0,_⟩|⟨g',cap',cur,hv,hn,hc,hs,ht,hb⟩
 ·omega
 ·injection hv with h1 h2 h3
  injection h1 with h1
  injection h1 with h1
  subst h1;subst h3;refine hb.rowOf (xs:=xs.take n) ?_ (by omega) hc hs ?_
  ·rw[←ht]
   simp;omega
  ·rw[←ht]
   simp[List.take_take]
end
theorem Has.in2{w:I}{A B C R:ab}(h:Has w (A*(B*(C*R)))):Has w (A*(C*(B*R))):=h.eq (congrArg _ (av _ _ _))
theorem kv{P:Program}(t e:TypeId)(z:D)(size bytes:Nat)(ht:P.underlying t=E (.slice e))(hinfo:(P.info? e).map (fun i=>(i.zero,i.size,i.bytes))=E (E z,size,bytes))(hz:z.cells.size=size)
  (n:Nat) (hbytes:bytes*n≤281474976710656) (h63:n≤9223372036854775807) (w:I):
  (Instr.makeSlice t (.int .i64 (n:Int)) (.int .i64 (n:Int))).run P w= .ok (.slice (E (M w.heap.size 0 G)) n n) (w.alloc (.cells (dd (n*size) (fun j=>z.cells[j % size]!)) e)):=by
 obtain⟨i,hi,hzz⟩:=Option.map_eq_some_iff.1 hinfo;simp only[Prod.mk.injEq] at hzz;obtain⟨hz',hs,hb⟩:=hzz;subst hb;have hb':(i.bytes:Int)*(n:Int)≤281474976710656:=by
  have h:((i.bytes*n:Nat):Int)≤281474976710656:=by omega
  rwa [Int.natCast_mul] at h
 have hr:=run_make (P:=P) w t e i z ht hi hz' .i64 .i64 n n (by omega) (Int.le_refl _) hb' (by omega);simp only[Int.toNat_natCast,hs] at hr;rw[hr,tv,hz]
structure Ms where
 n:Nat
 tk:Nat→Bool
 wd:Nat→Nat→Int
 next:Nat
 back:List Nat
theorem dl{l:List Nat}{x:Nat}(h:l.getLast?=E x):l.dropLast++[x]=l:=by
 obtain⟨ys,rfl⟩:=List.getLast?_eq_some_iff.1 h;simp
namespace Ms
def new(n:Nat):Ms:=⟨n,fun _=>H,fun _ _=>0,0,[]⟩
def frees(s:Ms):List Nat:=(List.range' s.next (s.n - s.next)).reverse ++s.back
def top(s:Ms):Option Nat:=match s.back.getLast? with|some k=>E k|none=>if s.next<s.n then E s.next else G
def take(s:Ms)(k:Nat):Ms:={n:=s.n,tk:=ch s.tk k J,wd:=fun a b=>if a=k then 0 else s.wd a b,next:=if s.back=[] then s.next+1 else s.next,back:=s.back.dropLast}
def give(s:Ms)(k:Nat):Ms:={s with tk:=ch s.tk k H,back:=s.back++[k]}
def setW(s:Ms)(k i:Nat)(v:Int):Ms:={s with wd:=fun a b=>if a=k∧b=i then v else s.wd a b}
def has(s:Ms)(k:Int):Bool:=decide (0≤k)&&(decide (k<s.n)&&s.tk k.toNat)
def hasW(s:Ms)(k i:Int):Bool:=s.has k&&(decide (0≤i)&&decide (i<8))
structure Inv (s:Ms):Prop where
 le:s.next≤s.n
 tkl:∀k,s.tk k=J→k<s.next
 nd:s.back.Nodup
 mem:∀k,k∈s.back↔k<s.next∧s.tk k=H
 wok:∀k i,0≤s.wd k i∧s.wd k i<18446744073709551616
theorem frees_new(n:Nat):(new n).frees =(List.range' 0 n).reverse :=by simp[new,frees]
theorem frees_give(s:Ms)(k:Nat):(s.give k).frees =s.frees++[k]:=by simp[give,frees]
theorem range'_rev(a m:Nat):(List.range' a (m+1)).reverse =(List.range' (a+1) m).reverse ++[a]:=by
 rw[List.range'_succ,List.reverse_cons]
theorem frees_top(s:Ms):s.frees.getLast?=s.top:=by
 unfold frees top;cases h:s.back.getLast? with
 |some k=>
  have hne:s.back≠[]:=by rintro e;rw[e] at h;cases h
  rw[List.getLast?_append,h];rfl
 |none=>
  have he:s.back=[]:=by simpa using h
  rw[he,List.append_nil];by_cases hlt:s.next<s.n
  ·obtain⟨m,hm⟩:∃m,s.n - s.next=m+1:=⟨s.n - s.next - 1,by omega⟩
   rw[hm,range'_rev];simp[hlt]
  ·have:s.n - s.next=0:=by omega
   rw[this];simp[hlt]
theorem frees_take(s:Ms)(k:Nat)(h:s.top=E k):(s.take k).frees ++[k]=s.frees:=by
 unfold frees take;unfold top at h;cases hb:s.back.getLast? with
 |some k'=>
  rw[hb] at h;obtain rfl:k'=k:=by simpa using h
  have hne:s.back≠[]:=by rintro e;rw[e] at hb;cases hb
  simp only[hne,if_false];rw[List.append_assoc,dl hb]
 |none=>
  have he:s.back=[]:=by simpa using hb
  rw[hb] at h;simp only at h;split at h
  ·rename_i hlt
   obtain rfl:s.next=k:=by simpa using h
   rw[he];obtain⟨m,hm⟩:∃m,s.n - s.next=m+1:=⟨s.n - s.next - 1,by omega⟩;rw[hm,range'_rev];have e2:s.n - (s.next+1)=m:=by omega
   simp[e2]
  ·cases h
theorem top_lt{s:Ms}(i:s.Inv){k:Nat}(h:s.top=E k):k<s.n∧s.tk k=H:=by
 unfold top at h;cases hb:s.back.getLast? with
 |some k'=>
  rw[hb] at h;obtain rfl:k'=k:=by simpa using h
  have:=(i.mem k').1 (List.mem_of_getLast? hb);have:=i.le;refine⟨by omega,?_⟩;exact((i.mem k').1 (List.mem_of_getLast? hb)).2
 |none=>
  rw[hb] at h;simp only at h;split at h
  ·obtain rfl:s.next=k:=by simpa using h
   refine⟨by assumption,?_⟩;cases ht:s.tk s.next with
   |true=>have:=i.tkl _ ht;omega
   |false=>rfl
  ·cases h
theorem has_iff{s:Ms}{k:Int}:s.has k=J↔0≤k∧k<s.n∧s.tk k.toNat=J:=by
 unfold has;simp
theorem has_nat{s:Ms}(i:s.Inv)(k:Nat):s.has k=s.tk k:=by
 unfold has;by_cases h:k<s.n
 ·have h':(k:Int)<s.n:=by omega
  simp[h]
 ·cases ht:s.tk k with
  |false=>simp[ht]
  |true=>have:=i.tkl _ ht;have:=i.le;omega
theorem Inv.new(n:Nat):(Ms.new n).Inv :=⟨Nat.zero_le _,fun k h=>by simp[Ms.new] at h,List.nodup_nil,fun k=>by simp[Ms.new],fun k i=>by simp[Ms.new]⟩
theorem Inv.setW{s:Ms}(i:s.Inv)(k j:Nat){v:Int}(hv:0≤v∧v<18446744073709551616):(s.setW k j v).Inv :=
 ⟨i.le,i.tkl,i.nd,i.mem,fun a b=>by
  unfold Ms.setW;dsimp only;split
  ·exact hv
  ·exact i.wok a b⟩
theorem Inv.give{s:Ms}(i:s.Inv){k:Nat}(hk:s.tk k=J):(s.give k).Inv :=by
 have hlt:=i.tkl k hk;have hn:k ∉ s.back:=fun h=>by rw[((i.mem k).1 h).2] at hk;cases hk
 refine⟨i.le,fun a h=> ?_,?_,fun a=> ?_,i.wok⟩
 ·by_cases e:a=k
  ·rw[e];exact hlt
  ·exact i.tkl a (by simpa [Ms.give,ch,e] using h)
 ·show(s.back++[k]).Nodup
  rw[List.nodup_append];refine⟨i.nd,by simp,fun a ha b hb=> ?_⟩;simp at hb;rintro rfl;exact hn (hb▸ha)
 ·show a∈s.back++[k]↔a<s.next∧ch s.tk k H a=H
  by_cases e:a=k
  ·subst e
   simp[ch,hlt]
  ·simp[ch,e,i.mem a]
theorem dropLast_mem{l:List Nat}{x:Nat}(hx:l.getLast?=E x)(nd:l.Nodup)(a:Nat):a∈l.dropLast↔a∈l∧a≠x:=by
 have e:=dl hx;have nd':=nd;rw[←e] at nd';rw[List.nodup_append] at nd';obtain⟨_,_,n3⟩:=nd';constructor
 ·intro h
  refine⟨(List.dropLast_sublist l).subset h,fun he=> ?_⟩;exact n3 a h x (by simp) he
 ·rintro⟨h,hne⟩
  rw[←e] at h;simpa [hne] using h
theorem Inv.take{s:Ms}(i:s.Inv){k:Nat}(hk:s.top=E k):(s.take k).Inv :=by
 have ht:=top_lt i hk;unfold top at hk;have wok:∀a b,0≤(s.take k).wd a b∧(s.take k).wd a b<18446744073709551616:=fun a b=>by
  unfold Ms.take;dsimp only;split
  ·omega
  ·exact i.wok a b
 cases hb:s.back.getLast? with
 |some k'=>
  rw[hb] at hk;obtain rfl:k'=k:=by simpa using hk
  have hne:s.back≠[]:=by rintro e;rw[e] at hb;cases hb
  have hm:=(i.mem k').1 (List.mem_of_getLast? hb);have en:(s.take k').next =s.next:=by simp[Ms.take,hne]
  refine⟨by rw[en];exact i.le,fun a h=> ?_,List.Sublist.nodup (List.dropLast_sublist _) i.nd,fun a=> ?_,wok⟩
  ·rw[en]
   by_cases e:a=k'
   ·rw[e];exact hm.1
   ·exact i.tkl a (by simpa [Ms.take,ch,e] using h)
  ·rw[en]
   show a∈s.back.dropLast↔a<s.next∧ch s.tk k' J a=H;rw[dropLast_mem hb i.nd,i.mem a];by_cases e:a=k'
   ·simp[e,ch]
   ·simp[e,ch]
 |none=>
  have he:s.back=[]:=by simpa using hb
  rw[hb] at hk;simp only at hk;split at hk
  ·rename_i hlt
   obtain rfl:s.next=k:=by simpa using hk
   have en:(s.take s.next).next =s.next+1:=by simp[Ms.take,he]
   refine⟨by rw[en];exact hlt,fun a h=> ?_,by show s.back.dropLast.Nodup;rw[he];exact List.nodup_nil,fun a=> ?_,wok⟩
   ·rw[en]
    by_cases e:a=s.next
    ·omega
    ·have:=i.tkl a (by simpa [Ms.take,ch,e] using h)
     omega
   ·rw[en]
    show a∈s.back.dropLast↔a<s.next+1∧ch s.tk s.next J a=H;have:=i.mem a;rw[he] at this⊢;simp at this⊢;intro h1;by_cases e:a=s.next
    ·simp[e,ch]
    ·have:=this (by omega)
     simp[e,ch,this]
  ·cases hk
theorem frees_mem{s:Ms}(i:s.Inv)(k:Nat):k∈s.frees↔k<s.n∧s.tk k=H:=by
 have hle:=i.le;unfold frees;rw[List.mem_append,List.mem_reverse,List.mem_range'_1,i.mem k];constructor
 ·rintro(⟨h1,h2⟩|⟨h1,h2⟩)
  ·refine⟨by omega,?_⟩
   cases ht:s.tk k with
   |true=>have:=i.tkl _ ht;omega
   |false=>rfl
  ·exact⟨by omega,h2⟩
 ·rintro⟨h1,h2⟩
  by_cases h:k<s.next
  ·exact .inr ⟨h,h2⟩
  ·exact .inl ⟨by omega,by omega⟩
theorem frees_nodup{s:Ms}(i:s.Inv):s.frees.Nodup:=by
 unfold frees;rw[List.nodup_append];refine⟨List.pairwise_reverse.2 ((List.nodup_range' (step:=1)).imp fun h=>h.symm),i.nd,fun a ha b hb=> ?_⟩;rw[List.mem_reverse,List.mem_range'_1] at ha;have:=(i.mem b).1 hb;omega
end Ms
theorem kw:∀(n:Nat) (l:List Nat),l.Nodup→(∀x∈l,x<n)→l.length≤n
 |0,[],_,_=>Nat.le_refl _
 |0,x::_,_,h=>absurd (h x (by simp)) (by omega)
 |n+1,l,nd,h=>by
  by_cases hm:n∈l
  ·have h1:=kw n (l.erase n) (nd.erase n) (fun x hx=>by
    have hx':=(List.Nodup.mem_erase_iff nd).1 hx;have:=h x hx'.2;have:=hx'.1;omega)
   rw[List.length_erase_of_mem hm] at h1;omega
  ·have h1:=kw n l nd (fun x hx=>by
    have:=h x hx;have:x≠n:=fun e=>hm (e▸hx);omega)
   omega
theorem Ms.frees_le{s:Ms}(i:s.Inv):s.frees.length≤s.n:=kw s.n _ (frees_nodup i) fun x hx=>((frees_mem i x).1 hx).1
structure Mp where
 page:Int
 size:Int
 frame:Int
 rights:Int
 deriving DecidableEq
structure Ac where
 page:Int
 kind:Int
 user:Bool
 deriving DecidableEq
structure An where
 fin:Int
 frame:Int
 rights:Int
 deriving DecidableEq
structure En where
 there:Bool
 leaf:Bool
 rights:Int
 used:Bool
 dirty:Bool
 frame:Int
 deriving DecidableEq
def bX(n:Int):Prop:= -9223372036854775808≤n∧n≤9223372036854775807
def Mp.cells(m:Mp):List D:=[vI vK m.page,vI vK m.size,vI vK m.frame,vI vK m.rights]
@[go_sem] def Mp.val (m:Mp):D:= .agg #[vI vK m.page,vI vK m.size,vI vK m.frame,vI vK m.rights]
@[go_sem] def Ac.val (a:Ac):D:= .agg #[vI vK a.page,vI vK a.kind,vB a.user]
@[go_sem] def An.val (a:An):D:= .agg #[vI vK a.fin,vI vK a.frame,vI vK a.rights]
@[go_sem] def En.val (e:En):D:= .agg #[vB e.there,vB e.leaf,vI vK e.rights,vB e.used,vB e.dirty,vI vK e.frame]
def Mp.ok(m:Mp):Prop:=bX m.page∧bX m.size∧bX m.frame∧bX m.rights
def Ac.ok(a:Ac):Prop:=bX a.page∧bX a.kind
def Mp.zero:Mp:=⟨0,0,0,0⟩
def Ac.zero:Ac:=⟨0,0,H⟩
def An.zero:An:=⟨0,0,0⟩
def En.zero:En:=⟨H,H,0,H,H,0⟩
def bE(s:Int):Int:=if s=0 then 1 else if s=1 then 8 else if s=2 then 64 else 0
def cN(p:Int):Bool:=decide (0≤p)&&decide (p<4096)
def az:Nat→Int|0=>1|n+1=>8*az n
def ai(p l:Int):Int:=if 0≤p∧p<4096∧0≤l∧l<4 then p / az l.toNat % 8 else -1
def bp(m:Mp):Int:=
 if bE m.size=0 then 2
 else if m.page<0∨4096≤m.page∨m.frame<0∨1048576≤m.frame∨m.rights<0∨7<m.rights then 1
 else if m.page % bE m.size≠0∨m.frame % bE m.size≠0 then 3
 else 0
def over(m:Mp)(p:Int):Bool:=decide (m.page≤p)&&decide (p - m.page<bE m.size)
def ey(a b:Mp):Bool:=over a b.page||over b a.page
def bg(r:Int)(k:Int):Bool:=decide (r / k % 2=1)
def may(r:Int)(a:Ac):Bool:=
 (a.kind !=1||bg r 1)&&(a.kind !=2||bg r 4)&&(!a.user||bg r 2)
def aH(a:Ac):Int:=if a.kind<0∨2<a.kind then 2 else if a.page<0∨4096≤a.page then 1 else 0
def cv(m:Mp)(a:Ac):An:=if may m.rights a then⟨0,wrap64 (wrap64 (m.frame+a.page) - m.page),m.rights⟩ else⟨2,0,0⟩
def ao(e:En)(l:Int):Int:=
 if l<0∨4≤l then 1
 else if e.there=H then(if e=En.zero then 0 else 7)
 else if e.rights<0∨7<e.rights∨e.frame<0∨1048576≤e.frame then 1
 else if(e.leaf=J∧l=3)∨(e.leaf=H∧l=0) then 2
 else if e.leaf=H then(if e.rights≠7∨e.used=J∨e.dirty=J then 7 else 0)
 else if e.frame % bE l≠0 then 3 else 0
def iG(b:Bool)(n:Int):Int:=if b=J then n else 0
def fV(e:En)(l:Int):Int:=e.frame*4096+e.rights*2+1+iG e.used 32+iG e.dirty 64+iG (e.leaf&&(l !=0)) 128
def bF(e:En)(l:Int):Int:=if ao e l=0∧e.there=J then fV e l else 0
def jo(w l:Int):Prop:=w / 16 % 2=0∧w / 256 % 16=0∧w<4294967296∧(w=0∨w % 2=1)∧(l=0→w / 128 % 2=0)
instance (w l:Int):Decidable (jo w l):=by unfold jo;infer_instance
def eK(w l:Int):En:=⟨J,(l==0)||bg w 128,w / 2 % 8,bg w 32,bg w 64,w / 4096⟩
def bv(w l:Int):Int:=if l<0∨4≤l then 1 else if¬jo w l then 7 else if w=0 then 0 else ao (eK w l) l
def aC(w l:Int):En:=if bv w l=0∧w≠0 then eK w l else En.zero
def aK(e:En)(l at_:Int):Mp:=if ao e l=0∧e.leaf=J∧0≤at_∧at_<4096 then⟨at_ / bE l*bE l,l,e.frame,e.rights⟩ else Mp.zero
theorem jp{e:En}{l:Int}(h:ao e l=0):0≤l∧l<4:=by
 unfold ao at h;split at h
 ·omega
 ·omega
theorem dy{e:En}{l:Int}(h:ao e l=0)(ht:e.there=H):e=En.zero:=by
 unfold ao at h;split at h
 ·omega
 ·try rw[if_pos ht] at h
  split at h
  ·assumption
  ·omega
structure p7 (e:En) (l:Int):Prop where
 l0:0≤l
 l4:l<4
 r0:0≤e.rights
 r7:e.rights≤7
 f0:0≤e.frame
 f1:e.frame<1048576
 leaf:e.leaf=J→l<3∧e.frame % bE l=0
 table:e.leaf=H→0<l∧e.rights=7∧e.used=H∧e.dirty=H
theorem dB{e:En}{l:Int}(h:ao e l=0)(ht:e.there=J):p7 e l:=by
 unfold ao at h;split at h
 ·omega
 rename_i hl;rw[if_neg (by rw[ht];simp)] at h;split at h
 ·omega
 rename_i hr;split at h
 ·omega
 rename_i hk;refine⟨by omega,by omega,by omega,by omega,by omega,by omega,fun hf=> ?_,fun hf=> ?_⟩
 ·rw[if_neg (by rw[hf];simp)] at h
  split at h
  ·omega
  ·rename_i h3
   have:¬(l=3):=fun e=>hk (.inl ⟨hf,e⟩);exact⟨by omega,by omega⟩
 ·rw[if_pos hf] at h
  split at h
  ·omega
  ·rename_i h7
   have:¬(l=0):=fun e=>hk (.inr ⟨hf,e⟩);refine⟨by omega,by omega,?_,?_⟩
   ·cases hu:e.used with
    |true=>exact absurd (.inr (.inl hu)) h7
    |false=>rfl
   ·cases hu:e.dirty with
    |true=>exact absurd (.inr (.inr hu)) h7
    |false=>rfl
theorem jq{e:En}{l:Int}(ht:e.there=J)(h:p7 e l):ao e l=0:=by
 have:=h.l0;have:=h.l4;have:=h.r0;have:=h.r7;have:=h.f0;have:=h.f1;unfold ao;rw[if_neg (by omega),if_neg (by rw[ht];simp),if_neg (by omega)];cases hf:e.leaf with
 |true=>
  have:=h.leaf hf;rw[if_neg (by simp;omega),if_neg (by simp),if_neg (by omega)]
 |false=>
  obtain⟨a,b,c,d⟩:=h.table hf;rw[if_neg (by simp;omega),if_pos rfl,if_neg (by rw[c,d];simp[b])]
theorem gq(b:Bool)(n:Int)(h:0≤n):0≤iG b n∧iG b n≤n:=by cases b<;>simp[iG]<;>omega
theorem jr{e:En}{l:Int}(h:p7 e l):fV e l≠0∧0≤fV e l∧fV e l<4294967296:=by
 have:=gq e.used 32 (by omega);have:=gq e.dirty 64 (by omega);have:=gq (e.leaf&&(l !=0)) 128 (by omega);have:=h.r0;have:=h.r7;have:=h.f0;have:=h.f1;unfold fV;omega
theorem re{e:En}{l:Int}(h:p7 e l):((l==0)||(e.leaf&&(l !=0)))=e.leaf:=by
 by_cases h0:l=0
 ·subst h0
  cases hf:e.leaf with
  |true=>rfl
  |false=>have:=(h.table hf).1;omega
 ·have e1:(l==0)=H:=by simpa using h0
  have e2:(l !=0)=J:=by simpa using h0
  rw[e1,e2,Bool.false_or,Bool.and_true]
theorem p8(b:Bool)(x:Int)(h:x=iG b 1):decide (x=1)=b:=by cases b<;>simp[iG] at h<;>simp[h]
theorem jI(b:Bool)(n:Int):iG b n=iG b 1*n:=by cases b<;>simp[iG]
theorem mL(b:Bool)(w n:Int)(h:w / n % 2=iG b 1):bg w n=b:=p8 b _ h
theorem p9{e:En}{l:Int}(ht:e.there=J)(h:p7 e l):eK (fV e l) l=e∧jo (fV e l) l:=by
 have hb:=re h;have u1:=gq e.used 1 (by omega);have d1:=gq e.dirty 1 (by omega);have v1:=gq (e.leaf&&(l !=0)) 1 (by omega);have hl0:l=0→iG (e.leaf&&(l !=0)) 1=0:=fun h0=>by subst h0;simp[iG]
 have:=h.r0;have:=h.r7;have:=h.f0;have:=h.f1;obtain⟨th,leaf,rights,used,dirty,frame⟩:=e;dsimp only at*
 subst ht;have hw:fV ⟨J,leaf,rights,used,dirty,frame⟩ l=frame*4096+rights*2+1+iG used 1*32+iG dirty 1*64+iG (leaf&&(l !=0)) 1*128:=by
  unfold fV;dsimp only;rw[jI used 32,jI dirty 64,jI (leaf&&(l !=0)) 128]
 rw[hw];refine⟨?_,?_⟩
 ·unfold eK
  rw[mL used _ 32 (by omega),mL dirty _ 64 (by omega),mL (leaf&&(l !=0)) _ 128 (by omega),hb];congr 1
  ·omega
  ·omega
 ·unfold jo
  refine⟨by omega,by omega,by omega,.inr (by omega),fun h0=> ?_⟩;have:=hl0 h0;omega
theorem ky{e:En}{l:Int}(h:ao e l=0):bv (bF e l) l=0∧aC (bF e l) l=e∧(bF e l=0↔e.there=H):=by
 have hl:=jp h;cases ht:e.there with
 |false=>
  have he:=dy h ht;have hw:bF e l=0:=by unfold bF;rw[if_neg (by rw[ht];simp)]
  rw[hw];have hc:bv 0 l=0:=by
   unfold bv;rw[if_neg (by omega),if_neg (by unfold jo;simp),if_pos rfl]
  refine⟨hc,?_,by simp⟩;unfold aC;rw[if_neg (by simp),he]
 |true=>
  have hk:=dB h ht;obtain⟨h1,h2⟩:=p9 ht hk;have hn:=(jr hk).1;have hw:bF e l=fV e l:=by unfold bF;rw[if_pos ⟨h,ht⟩]
  rw[hw];have hc:bv (fV e l) l=0:=by
   unfold bv;rw[if_neg (by omega),if_neg (by simpa using h2),if_neg hn,h1];exact h
  refine⟨hc,?_,by simp[hn]⟩;unfold aC;rw[if_pos ⟨hc,hn⟩,h1]
theorem qc{w l:Int}(hb:jo w l)(hn:w≠0):fV (eK w l) l=w:=by
 obtain⟨a,b,c,d,e⟩:=hb;have bi:∀n:Int,iG (bg w n) 1=w / n % 2:=fun n=>by
  unfold iG bg;have:w / n % 2=0∨w / n % 2=1:=by omega
  rcases this with h|h<;>simp[h]
 have hv:iG (((l==0)||bg w 128)&&(l !=0)) 1=w / 128 % 2:=by
  by_cases hl:l=0
  ·have:=e hl
   subst hl;simp[iG,this]
  ·have e1:(l==0)=H:=by simpa using hl
   have e2:(l !=0)=J:=by simpa using hl
   rw[e1,e2,Bool.false_or,Bool.and_true];exact bi 128
 unfold fV eK;dsimp only;rw[jI _ 32,jI _ 64,jI _ 128,hv,bi 32,bi 64];omega
theorem gh{w l:Int}(h:bv w l=0):ao (aC w l) l=0∧bF (aC w l) l=w:=by
 have hc:=h;unfold bv at h;split at h
 ·omega
 rename_i hl;split at h
 ·omega
 rename_i hb;split at h
 ·rename_i hw
  have he:aC w l=En.zero:=by unfold aC;rw[if_neg (by simp[hw])]
  rw[he];refine⟨?_,by rw[hw];unfold bF;rw[if_neg (by simp[En.zero])]⟩;unfold ao;rw[if_neg hl,if_pos (show En.zero.there=H from rfl)];simp
 ·rename_i hw
  have he:aC w l=eK w l:=by unfold aC;rw[if_pos ⟨hc,hw⟩]
  rw[he];refine⟨h,?_⟩;unfold bF;rw[if_pos ⟨h,rfl⟩];exact qc (Decidable.of_not_not hb) hw
theorem rf{e:En}{l:Int}(h:ao e l≠0):bF e l=0:=by unfold bF;rw[if_neg (by simp[h])]
def ar(s:Ms)(t i:Int):Int:=s.wd t.toNat i.toNat
structure Wy where
 code:Int
 tabs:List Int
 lev:Int
 e:En
def Wy.err(c:Int):Wy:=⟨c,[],0,En.zero⟩
def hO(s:Ms)(p:Int)(L:Nat)(t:Int)(acc:List Int)(next:Int→Wy):Wy:=
 if s.has t=H then .err 12
 else if bv (ar s t (ai p L)) L≠0 then .err (bv (ar s t (ai p L)) L)
 else if(aC (ar s t (ai p L)) L).there =H∨(aC (ar s t (ai p L)) L).leaf =J then⟨0,acc++[t],L,aC (ar s t (ai p L)) L⟩
 else next (aC (ar s t (ai p L)) L).frame
def cQ(s:Ms)(p:Int):Nat→Int→List Int→Wy
 |0,t,acc=>hO s p 0 t acc fun _=> .err 7
 |L+1,t,acc=>hO s p (L+1) t acc fun f=>cQ s p L f (acc++[t])
def bo(s:Ms)(root p:Int):Wy:=if cN p=J then cQ s p 3 root [] else .err 1
theorem d9{w:Int}(_:bv w 0=0):(aC w 0).there =H∨(aC w 0).leaf =J:=by
 unfold aC;split
 ·right;rfl
 ·left;rfl
theorem iw{s:Ms}{p:Int}{L:Nat}{t:Int}{acc:List Int}(h:s.has t=H):cQ s p L t acc= .err 12:=by
 cases L<;>(unfold cQ hO;rw[if_pos h])
theorem js{s:Ms}{p:Int}{L:Nat}{t:Int}{acc:List Int}(h:s.has t=J)(hc:bv (ar s t (ai p L)) L≠0):cQ s p L t acc= .err (bv (ar s t (ai p L)) L):=by
 cases L<;>(unfold cQ hO;rw[if_neg (by rw[h];simp),if_pos hc])
theorem fW{s:Ms}{p:Int}{L:Nat}{t:Int}{acc:List Int}(h:s.has t=J)(hc:bv (ar s t (ai p L)) L=0)
  (he:(aC (ar s t (ai p L)) L).there =H∨(aC (ar s t (ai p L)) L).leaf =J):cQ s p L t acc=⟨0,acc++[t],L,aC (ar s t (ai p L)) L⟩:=by
 cases L<;>(unfold cQ hO;rw[if_neg (by rw[h];simp),if_neg (by rw[hc];simp),if_pos he])
theorem kz{s:Ms}{p:Int}{L:Nat}{t:Int}{acc:List Int}(h:s.has t=J)(hc:bv (ar s t (ai p L)) L=0)
  (he:¬((aC (ar s t (ai p L)) L).there =H∨(aC (ar s t (ai p L)) L).leaf =J)):∃K,L=K+1∧cQ s p L t acc=cQ s p K (aC (ar s t (ai p L)) L).frame (acc++[t]):=by
 cases L with
 |zero=>exact absurd (d9 hc) he
 |succ K=>
  refine⟨K,rfl,?_⟩;conv=>lhs;unfold cQ hO
  rw[if_neg (by rw[h];simp),if_neg (by rw[hc];simp),if_neg he]
theorem vm(s:Ms)(p:Int):∀(L:Nat) (t:Int) (acc:List Int),(cQ s p L t acc).code =0→0≤(cQ s p L t acc).lev ∧(cQ s p L t acc).lev ≤L∧(cQ s p L t acc).tabs.length =acc.length+1+(L - (cQ s p L t acc).lev.toNat):=by
 intro L;induction L with
 |zero=>
  intro t acc hc;cases h:s.has t with
  |false=>rw[iw h] at hc;cases hc
  |true=>
   by_cases hd:bv (ar s t (ai p (0:Nat))) (0:Nat)=0
   ·rw[fW h hd (d9 hd)]
    simp
   ·rw[js h hd] at hc
    exact absurd hc hd
 |succ L ih=>
  intro t acc hc;cases h:s.has t with
  |false=>rw[iw h] at hc;cases hc
  |true=>
   by_cases hd:bv (ar s t (ai p (L+1:Nat))) (L+1:Nat)=0
   ·by_cases he:(aC (ar s t (ai p (L+1:Nat))) (L+1:Nat)).there =H∨(aC (ar s t (ai p (L+1:Nat))) (L+1:Nat)).leaf =J
    ·rw[fW h hd he]
     simp;omega
    ·obtain⟨K,hK,e⟩:=kz (acc:=acc) h hd he
     obtain rfl:L=K:=by omega
     rw[e] at hc⊢;obtain⟨a,b,c⟩:=ih _ _ hc;rw[W,List.length_singleton] at c;refine⟨a,by omega,by omega⟩
   ·rw[js h hd] at hc
    exact absurd hc hd
structure kN where
 t:Int
 lev:Int
 at_:Int
 e:En
structure Vs where
 code:Int
 vs:List kN
def cK(s:Ms)(L:Nat)(t a:Int)(sub:Int→Int→Vs):List Nat→Vs
 | []=>⟨0,[]⟩
 |i::is=>
  if bv (ar s t i) L≠0 then⟨bv (ar s t i) L,[]⟩
  else
   let e:=aC (ar s t i) L
   let r:Vs:=if e.there=J∧e.leaf=H then sub e.frame (a*8+i) else⟨0,[]⟩
   if r.code≠0 then⟨r.code,⟨t,L,a*8+i,e⟩::r.vs⟩
   else⟨(cK s L t a sub is).code,⟨t,L,a*8+i,e⟩::(r.vs++(cK s L t a sub is).vs)⟩
def bV(s:Ms):Nat→Int→Int→Vs
 |0,t,a=>if s.has t=H then⟨12,[]⟩ else cK s 0 t a (fun _ _=>⟨7,[]⟩) (List.range 8)
 |L+1,t,a=>if s.has t=H then⟨12,[]⟩ else cK s (L+1) t a (bV s L) (List.range 8)
def gj(s:Ms):Nat→Int→Int→Vs
 |0=>fun _ _=>⟨7,[]⟩
 |L+1=>bV s L
theorem iy(s:Ms)(L:Nat)(t a:Int):bV s L t a=if s.has t=H then⟨12,[]⟩ else cK s L t a (gj s L) (List.range 8):=by
 cases L<;>rfl
def bH(vs:List kN):List Mp:=vs.filterMap fun v=>if v.e.leaf=J then E (aK v.e v.lev (v.at_*az v.lev.toNat)) else G
def bL(vs:List kN):List Int:=vs.filterMap fun v=>if v.e.there=J∧v.e.leaf=H then E v.e.frame else G
def kO:Nat→Nat|0=>8|L+1=>8+8*kO L
theorem kP(s:Ms)(L:Nat)(t a:Int)(sub:Int→Int→Vs)(m:Nat)(h:∀f p,(sub f p).vs.length ≤m):∀is:List Nat,(cK s L t a sub is).vs.length ≤is.length*(1+m)
 | []=>by simp[cK]
 |i::is=>by
  have ih:=kP s L t a sub m h is;have h0:(is.length+1)*(1+m)=is.length*(1+m)+(1+m):=by rw[Nat.add_mul,Nat.one_mul]
  unfold cK;rw[List.length_cons,h0];split
  ·simp
  ·have hr:(if(aC (ar s t i) L).there =J∧(aC (ar s t i) L).leaf =H then sub (aC (ar s t i) L).frame (a*8+i) else(⟨0,[]⟩:Vs)).vs.length ≤m:=by
    split
    ·exact h _ _
    ·simp
   dsimp only;generalize (if(aC (ar s t i) L).there =J∧(aC (ar s t i) L).leaf =H then sub (aC (ar s t i) L).frame (a*8+i) else(⟨0,[]⟩:Vs))=r at*
   split
   ·simp only[List.length_cons];omega
   ·simp only[List.length_cons,W];omega
theorem nV(s:Ms):∀(L:Nat) (t a:Int),(bV s L t a).vs.length ≤kO L
 |0,t,a=>by
  rw[iy];split
  ·simp
  ·have:=kP s 0 t a (gj s 0) 0 (fun _ _=>Nat.le_refl _) (List.range 8)
   simpa [kO] using this
 |L+1,t,a=>by
  rw[iy];split
  ·simp
  ·have:=kP s (L+1) t a (gj s (L+1)) (kO L) (fun f p=>nV s L f p) (List.range 8)
   simp only[List.length_range] at this;unfold kO;omega
theorem qd{s:Int}(h:bE s≠0):(s=0∧bE s=1)∨(s=1∧bE s=8)∨(s=2∧bE s=64):=by
 unfold bE at*
 by_cases h0:s=0
 ·left;simp[h0]
 ·by_cases h1:s=1
  ·right;left;simp[h1]
  ·by_cases h2:s=2
   ·right;right;simp[h2]
   ·simp[h0,h1,h2] at h
structure MapOk (m:Mp):Prop where
 p0:0≤m.page
 p1:m.page+bE m.size≤4096
 sp:0<bE m.size
 al:m.page % bE m.size=0
 size:(m.size=0∧bE m.size=1)∨(m.size=1∧bE m.size=8)∨(m.size=2∧bE m.size=64)
 f0:0≤m.frame
 f1:m.frame<1048576
 fa:m.frame % bE m.size=0
 r0:0≤m.rights
 r7:m.rights≤7
theorem dL{m:Mp}(h:bp m=0):MapOk m:=by
 unfold bp at h;split at h
 ·omega
 rename_i hs;split at h
 ·omega
 rename_i hr;split at h
 ·omega
 rename_i ha;have hsp:=qd hs;have h1:m.page % bE m.size=0:=by omega
 have h2:m.frame % bE m.size=0:=by omega
 refine⟨by omega,?_,?_,h1,hsp,by omega,by omega,h2,by omega,by omega⟩
 ·rcases hsp with ⟨_,e⟩|⟨_,e⟩|⟨_,e⟩<;>rw[e] at h1⊢ <;>omega
 ·rcases hsp with ⟨_,e⟩|⟨_,e⟩|⟨_,e⟩<;>omega
theorem dr{m:Mp}{p:Int}:over m p=J↔m.page≤p∧p<m.page+bE m.size:=by
 unfold over;simp only[Bool.and_eq_true,decide_eq_true_eq];omega
theorem cT{m:Mp}{p:Int}:over m p=H↔p<m.page∨m.page+bE m.size≤p:=by
 rw[←Bool.not_eq_true,dr];omega
theorem fH{a b:Mp}(ha:MapOk a)(hb:MapOk b):ey a b=H↔a.page+bE a.size≤b.page∨b.page+bE b.size≤a.page:=by
 unfold ey;rw[Bool.or_eq_false_iff,cT,cT];have:=ha.sp;have:=hb.sp;omega
namespace Bk
def before(p:Int)(m:Mp):Bool:= !over m p&&decide (m.page<p)
structure Ok (l:List Mp):Prop where
 chk:∀x∈l,MapOk x
 up:l.Pairwise fun a b=>a.page+bE a.size≤b.page
def pos(l:List Mp)(p:Int):Nat:=(l.takeWhile (before p)).length
def find(l:List Mp)(p:Int):Option Mp:=l.find? fun x=>over x p
def ins(l:List Mp)(m:Mp):List Mp:=l.takeWhile (before m.page)++m::l.dropWhile (before m.page)
def bad(l:List Mp)(m:Mp):Bool:=l.any fun x=>ey x m
def add(l:List Mp)(m:Mp):List Mp:=if bp m=0∧bad l m=H then ins l m else l
def addC(l:List Mp)(m:Mp):Int:=if bp m≠0 then bp m else if bad l m=J then 4 else 0
def del(l:List Mp)(p:Int):List Mp:=l.filter fun x=> !over x p
def prot(l:List Mp)(p r:Int):List Mp:=l.map fun x=>if over x p then {x with rights:=r} else x
theorem Ok.nil:Ok []:=⟨fun x h=>(by cases h),List.Pairwise.nil⟩
theorem before_iff{p:Int}{m:Mp}(h:MapOk m):before p m=J↔m.page+bE m.size≤p:=by
 unfold before;have:=h.sp;rw[Bool.and_eq_true,Bool.not_eq_true',cT,decide_eq_true_eq];omega
theorem Ok.tail{x:Mp}{l:List Mp}(h:Ok (x::l)):Ok l:=⟨fun y hy=>h.chk y (List.mem_cons_of_mem _ hy),(List.pairwise_cons.1 h.up).2⟩
theorem Ok.sub{k l:List Mp}(h:Ok l)(s:k.Sublist l):Ok k:=⟨fun y hy=>h.chk y (s.subset hy),h.up.sublist s⟩
theorem Ok.del{l:List Mp}(h:Ok l)(p:Int):Ok (del l p):=h.sub List.filter_sublist
theorem after{l:List Mp}(h:Ok l)(p:Int):∀x∈l.dropWhile (before p),before p x=H:=by
 induction l with
 |nil=>intro x hx;cases hx
 |cons y l ih=>
  intro x hx;rw[List.dropWhile_cons] at hx;split at hx
  ·exact ih h.tail x hx
  ·rename_i hy
   rcases List.mem_cons.1 hx with rfl|hx
   ·simpa using hy
   ·have h1:=(List.pairwise_cons.1 h.up).1 x hx
    have hx':=h.chk x (List.mem_cons_of_mem _ hx);have hy':=h.chk y (List.mem_cons_self ..);rw[before_iff hy'] at hy;rw[←Bool.not_eq_true,before_iff hx'];have:=hx'.sp;have:=hy'.sp;omega
theorem ahead(l:List Mp)(p:Int):∀x∈l.takeWhile (before p),before p x=J:=by
 induction l with
 |nil=>intro x hx;cases hx
 |cons y l ih=>
  intro x hx;rw[List.takeWhile_cons] at hx;split at hx
  ·rename_i hy
   rcases List.mem_cons.1 hx with rfl|hx
   ·exact hy
   ·exact ih x hx
  ·cases hx
theorem split(l:List Mp)(p:Int):l.takeWhile (before p)++l.dropWhile (before p)=l:=List.takeWhile_append_dropWhile
theorem pos_le(l:List Mp)(p:Int):pos l p≤l.length:=by
 have:=congrArg List.length (split l p);rw[W] at this;unfold pos;omega
theorem pos_iff{l:List Mp}(h:Ok l)(p:Int){k:Nat}(hk:k<l.length):before p l[k]=decide (k<pos l p):=by
 have e:=split l p;by_cases hlt:k<pos l p
 ·have hl:k< (l.takeWhile (before p)).length :=hlt
  have:l[k]=(l.takeWhile (before p))[k]:=by
   have:=List.getElem_append_left (as:=l.takeWhile (before p)) (bs:=l.dropWhile (before p)) (h':=by rw[e];exact hk) hl;rw[←this];simp only[e]
  rw[this,ahead l p _ (List.getElem_mem hl),decide_eq_true hlt]
 ·have hge:(l.takeWhile (before p)).length ≤k:=by unfold pos at hlt;omega
  have hl:k - (l.takeWhile (before p)).length < (l.dropWhile (before p)).length :=by
   have:=congrArg List.length e;rw[W] at this;omega
  have:l[k]=(l.dropWhile (before p))[k - (l.takeWhile (before p)).length]:=by
   have:=List.getElem_append_right (as:=l.takeWhile (before p)) (bs:=l.dropWhile (before p)) (i:=k) (h₂:=by rw[e];exact hk) hge;rw[←this];simp only[e]
  rw[this,after h p _ (List.getElem_mem hl),decide_eq_false hlt]
theorem mem_split{l:List Mp}{p:Int}{x:Mp}(hx:x∈l):x∈l.takeWhile (before p)∨x∈l.dropWhile (before p):=by
 rw[←List.mem_append,split];exact hx
theorem bad_false{l:List Mp}{m:Mp}(h:bad l m=H):∀x∈l,ey x m=H:=by
 unfold bad at h;rw[List.any_eq_false] at h;intro x hx;have:=h x hx;simpa using this
theorem Ok.ins{l:List Mp}(h:Ok l){m:Mp}(hm:MapOk m)(hb:bad l m=H):Ok (ins l m):=by
 have h1:∀x∈l.takeWhile (before m.page),x.page+bE x.size≤m.page:=fun x hx=>
  (before_iff (h.chk x ((List.takeWhile_sublist _).subset hx))).1 (ahead l m.page x hx)
 have h2:∀x∈l.dropWhile (before m.page),m.page+bE m.size≤x.page:=fun x hx=>by
  have hxl:=(List.dropWhile_sublist _).subset hx;have hxm:=h.chk x hxl;have ha:=after h m.page x hx;rw[←Bool.not_eq_true,before_iff hxm] at ha;have:=(fH hxm hm).1 (bad_false hb x hxl);omega
 refine⟨fun x hx=> ?_,?_⟩
 ·unfold Bk.ins at hx
  rcases List.mem_append.1 hx with hx|hx
  ·exact h.chk x ((List.takeWhile_sublist _).subset hx)
  ·rcases List.mem_cons.1 hx with rfl|hx
   ·exact hm
   ·exact h.chk x ((List.dropWhile_sublist _).subset hx)
 ·unfold Bk.ins
  rw[List.pairwise_append];refine⟨h.up.sublist (List.takeWhile_sublist _),List.pairwise_cons.2 ⟨h2,h.up.sublist (List.dropWhile_sublist _)⟩,fun a ha b hb'=> ?_⟩;have a1:=h1 a ha;rcases List.mem_cons.1 hb' with rfl|hb'
  ·exact a1
  ·have:=h2 b hb'
   have:=hm.sp;omega
theorem Ok.add{l:List Mp}(h:Ok l)(m:Mp):Ok (add l m):=by
 unfold Bk.add;split
 ·rename_i hc
  exact h.ins (dL hc.1) hc.2
 ·exact h
theorem drop_head{l:List Mp}{p:Int}{y:Mp}{r:List Mp}(e:l.dropWhile (before p)=y::r):∃h:pos l p<l.length,l[pos l p]=y:=by
 have hl:=congrArg List.length (split l p);rw[W,e,List.length_cons] at hl;have hp:pos l p<l.length:=by unfold pos;omega
 refine⟨hp,?_⟩;have hs:=split l p;rw[e] at hs;have:l[pos l p]? =E y:=by
  have h2:(l.takeWhile (before p)++y::r)[(l.takeWhile (before p)).length]? =E y:=by
   rw[List.getElem?_append_right (Nat.le_refl _)];simp
  rw[hs] at h2;exact h2
 rw[List.getElem?_eq_getElem hp] at this;exact Option.some.inj this
theorem drop_nil{l:List Mp}{p:Int}(e:l.dropWhile (before p)=[]):pos l p=l.length:=by
 have hl:=congrArg List.length (split l p);rw[W,e] at hl;unfold pos;simpa using hl
theorem bad_head{l:List Mp}(h:Ok l){m:Mp}(hm:MapOk m):bad l m=match l.dropWhile (before m.page) with| []=>H|y::_=>ey y m:=by
 have hno:∀x∈l.takeWhile (before m.page),ey x m=H:=fun x hx=>by
  have hx':=h.chk x ((List.takeWhile_sublist _).subset hx);have:=(before_iff hx').1 (ahead l m.page x hx);exact(fH hx' hm).2 (.inl this)
 cases e:l.dropWhile (before m.page) with
 |nil=>
  show bad l m=H;unfold bad;rw[List.any_eq_false];intro x hx;rcases mem_split (p:=m.page) hx with hx|hx
  ·rw[hno x hx];simp
  ·rw[e] at hx;cases hx
 |cons y r=>
  show bad l m=ey y m;have hy:y∈l:=(List.dropWhile_sublist _).subset (by rw[e];exact List.mem_cons_self ..);cases hq:ey y m with
  |true=>exact List.any_eq_true.2 ⟨y,hy,hq⟩
  |false=>
   unfold bad;rw[List.any_eq_false];intro x hx;rcases mem_split (p:=m.page) hx with hx'|hx'
   ·rw[hno x hx'];simp
   ·rw[e] at hx'
    rcases List.mem_cons.1 hx' with rfl|hx'
    ·rw[hq];simp
    ·have hu:=(h.up.sublist (List.dropWhile_sublist (before m.page)))
     rw[e] at hu;have h1:=(List.pairwise_cons.1 hu).1 x hx';have hym:=h.chk y hy;have hxm:=h.chk x hx;have ha:=after h m.page y (by rw[e];exact List.mem_cons_self ..);rw[←Bool.not_eq_true,before_iff hym] at ha;have:=(fH hym hm).1 hq;have h3:=hym.sp;rw[(fH hxm hm).2 (.inr (by omega))];simp
theorem find_head{l:List Mp}(h:Ok l)(p:Int):find l p=match l.dropWhile (before p) with| []=>G|y::_=>if over y p then E y else G:=by
 have hno:∀x∈l.takeWhile (before p),over x p=H:=fun x hx=>by
  have:=ahead l p x hx;unfold before at this;simp only[Bool.and_eq_true,Bool.not_eq_true'] at this;exact this.1
 have e0:find l p=(l.dropWhile (before p)).find? fun x=>over x p:=by
  unfold find;conv=>lhs;rw[←split l p]
  rw[List.find?_append,List.find?_eq_none.2 (fun x hx=>by rw[hno x hx];simp)];rfl
 rw[e0];cases e:l.dropWhile (before p) with
 |nil=>rfl
 |cons y r=>
  show(y::r).find? _=if over y p then E y else G
  rw[List.find?_cons];cases hq:over y p with
  |true=>rfl
  |false=>
   show r.find? (fun x=>over x p)=G;rw[List.find?_eq_none];intro x hx;have hym:=h.chk y ((List.dropWhile_sublist _).subset (by rw[e];exact List.mem_cons_self ..));have hu:=h.up.sublist (List.dropWhile_sublist (before p));rw[e] at hu;have h1:=(List.pairwise_cons.1 hu).1 x hx;have ha:=after h p y (by rw[e];exact List.mem_cons_self ..);rw[←Bool.not_eq_true,before_iff hym] at ha;have:=cT.1 hq;rw[cT.2 (.inl (by omega))];simp
theorem del_head{l:List Mp}(h:Ok l)(p:Int):del l p=match l.dropWhile (before p) with| []=>l|y::r=>if over y p then l.takeWhile (before p)++r else l:=by
 have hno:∀x∈l.takeWhile (before p),(!over x p)=J:=fun x hx=>by
  have:=ahead l p x hx;unfold before at this;simp only[Bool.and_eq_true] at this;exact this.1
 have e0:del l p=l.takeWhile (before p)++(l.dropWhile (before p)).filter fun x=> !over x p:=by
  unfold del;conv=>lhs;rw[←split l p]
  rw[List.filter_append,List.filter_eq_self.2 hno]
 rw[e0];cases e:l.dropWhile (before p) with
 |nil=>
  have:=split l p;rw[e] at this;simpa using this
 |cons y r=>
  have hr:∀x∈r,(!over x p)=J:=fun x hx=>by
   have hym:=h.chk y ((List.dropWhile_sublist _).subset (by rw[e];exact List.mem_cons_self ..));have hu:=h.up.sublist (List.dropWhile_sublist (before p));rw[e] at hu;have h1:=(List.pairwise_cons.1 hu).1 x hx;have ha:=after h p y (by rw[e];exact List.mem_cons_self ..);rw[←Bool.not_eq_true,before_iff hym] at ha;rw[cT.2 (.inl (by omega))];rfl
  show _=if over y p then _ else _
  rw[List.filter_cons];cases hq:over y p with
  |true=>simp[List.filter_eq_self.2 hr]
  |false=>
   have:=split l p;rw[e] at this;simp[List.filter_eq_self.2 hr,this]
theorem Ok.count:∀(l:List Mp) (lo:Int),Ok l→0≤lo→lo≤4096→(∀x∈l,lo≤x.page)→(l.length:Int)≤4096 - lo
 | [],lo,_,_,_,_=>by simp;omega
 |x::l,lo,h,h0,_,hl=>by
  have hx:=h.chk x (List.mem_cons_self ..);have hlx:=hl x (List.mem_cons_self ..);have:=hx.p1;have:=hx.sp;have:=Ok.count l (x.page+bE x.size) h.tail (by omega) (by omega) (List.pairwise_cons.1 h.up).1;simp only[List.length_cons];omega
theorem Ok.le{l:List Mp}(h:Ok l):l.length≤4096:=by
 have:=Ok.count l 0 h (by omega) (by omega) (fun x hx=>(h.chk x hx).p0);omega
theorem Ok.ext:∀{a b:List Mp},Ok a→Ok b→(∀x,x∈a↔x∈b)→a=b
 | [],[],_,_,_=>rfl
 | [],y::b,_,_,h=>by have:=(h y).2 (List.mem_cons_self ..);cases this
 |x::a,[],_,_,h=>by have:=(h x).1 (List.mem_cons_self ..);cases this
 |x::a,y::b,ha,hb,h=>by
  have hxs:=(ha.chk x (List.mem_cons_self ..)).sp;have hys:=(hb.chk y (List.mem_cons_self ..)).sp;have hx:∀z∈a,x.page<z.page:=fun z hz=>by have:=(List.pairwise_cons.1 ha.up).1 z hz;omega
  have hy:∀z∈b,y.page<z.page:=fun z hz=>by have:=(List.pairwise_cons.1 hb.up).1 z hz;omega
  have e:x=y:=by
   rcases List.mem_cons.1 ((h x).1 (List.mem_cons_self ..)) with e|h1
   ·exact e
   ·rcases List.mem_cons.1 ((h y).2 (List.mem_cons_self ..)) with e|h2
    ·exact e.symm
    ·have:=hy x h1
     have:=hx y h2;omega
  subst e;have:=Ok.ext ha.tail hb.tail (fun z=>by
   constructor
   ·intro hz
    rcases List.mem_cons.1 ((h z).1 (List.mem_cons_of_mem _ hz)) with e|h1
    ·have:=hx z hz;rw[e] at this;omega
    ·exact h1
   ·intro hz
    rcases List.mem_cons.1 ((h z).2 (List.mem_cons_of_mem _ hz)) with e|h1
    ·have:=hy z hz;rw[e] at this;omega
    ·exact h1)
  rw[this]
theorem Ok.rights{m:Mp}(h:MapOk m){r:Int}(h0:0≤r)(h7:r≤7):MapOk {m with rights:=r}:=⟨h.p0,h.p1,h.sp,h.al,h.size,h.f0,h.f1,h.fa,h0,h7⟩
theorem Ok.prot{l:List Mp}(h:Ok l)(p:Int){r:Int}(h0:0≤r)(h7:r≤7):Ok (prot l p r):=by
 refine⟨fun x hx=> ?_,?_⟩
 ·obtain⟨y,hy,rfl⟩:=List.mem_map.1 hx
  split
  ·exact Ok.rights (h.chk y hy) h0 h7
  ·exact h.chk y hy
 ·unfold Bk.prot
  rw[List.pairwise_map];refine h.up.imp fun {a b} hab=> ?_;split<;>split<;>exact hab
theorem prot_head{l:List Mp}(h:Ok l)(p r:Int):prot l p r=match l.dropWhile (before p) with| []=>l|y::k=>if over y p then l.takeWhile (before p)++{y with rights:=r}::k else l:=by
 have hid:∀k:List Mp,(∀x∈k,over x p=H)→k.map (fun x=>if over x p then {x with rights:=r} else x)=k:=fun k hk=>by
  conv=>rhs;rw[←List.map_id k]
  refine List.map_congr_left fun x hx=> ?_;rw[hk x hx];rfl
 have hno:∀x∈l.takeWhile (before p),over x p=H:=fun x hx=>by
  have:=ahead l p x hx;unfold before at this;simp only[Bool.and_eq_true,Bool.not_eq_true'] at this;exact this.1
 have e0:prot l p r=l.takeWhile (before p)++(l.dropWhile (before p)).map fun x=>if over x p then {x with rights:=r} else x:=by
  unfold prot;conv=>lhs;rw[←split l p]
  rw[List.map_append,hid _ hno]
 rw[e0];cases e:l.dropWhile (before p) with
 |nil=>
  have:=split l p;rw[e] at this;simpa using this
 |cons y k=>
  have hk:∀x∈k,over x p=H:=fun x hx=>by
   have hym:=h.chk y ((List.dropWhile_sublist _).subset (by rw[e];exact List.mem_cons_self ..));have hu:=h.up.sublist (List.dropWhile_sublist (before p));rw[e] at hu;have h1:=(List.pairwise_cons.1 hu).1 x hx;have ha:=after h p y (by rw[e];exact List.mem_cons_self ..);rw[←Bool.not_eq_true,before_iff hym] at ha;exact cT.2 (.inl (by omega))
  show _=if over y p then _ else _
  rw[List.map_cons,hid k hk];cases hq:over y p with
  |true=>simp
  |false=>
   have:=split l p;rw[e] at this;simp[this]
end Bk
end Go.Proofs.YtmfheghbgihdmaaGreatDoor
