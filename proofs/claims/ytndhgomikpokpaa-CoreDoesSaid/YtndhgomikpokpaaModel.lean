/- The plain law's side: pages, mappings, accesses and entries as plain Lean, with no program in sight. -/
import Derived.WalkKit
namespace Go.Proofs.Ytndhgomikpokpaa
open Go.RowKit

structure Mp where
  page : Int
  size : Int
  frame : Int
  rights : Int
  deriving DecidableEq
structure Ac where
  page : Int
  kind : Int
  user : Bool
  deriving DecidableEq
structure An where
  fin : Int
  frame : Int
  rights : Int
  deriving DecidableEq
structure En where
  there : Bool
  leaf : Bool
  rights : Int
  used : Bool
  dirty : Bool
  frame : Int
  deriving DecidableEq

/-- An int. -/
def i64 (n : Int) : Prop := -9223372036854775808 ≤ n ∧ n ≤ 9223372036854775807

def Mp.cells (m : Mp) : List Value := [(Value.int .i64) m.page, (Value.int .i64) m.size, (Value.int .i64) m.frame, (Value.int .i64) m.rights]
def Ac.cells (a : Ac) : List Value := [(Value.int .i64) a.page, (Value.int .i64) a.kind, Value.bool a.user]
def An.cells (a : An) : List Value := [(Value.int .i64) a.fin, (Value.int .i64) a.frame, (Value.int .i64) a.rights]
def En.cells (e : En) : List Value := [Value.bool e.there, Value.bool e.leaf, (Value.int .i64) e.rights, Value.bool e.used, Value.bool e.dirty, (Value.int .i64) e.frame]
@[go_sem] def Mp.val (m : Mp) : Value := .agg #[(Value.int .i64) m.page, (Value.int .i64) m.size, (Value.int .i64) m.frame, (Value.int .i64) m.rights]
@[go_sem] def Ac.val (a : Ac) : Value := .agg #[(Value.int .i64) a.page, (Value.int .i64) a.kind, Value.bool a.user]
@[go_sem] def An.val (a : An) : Value := .agg #[(Value.int .i64) a.fin, (Value.int .i64) a.frame, (Value.int .i64) a.rights]
@[go_sem] def En.val (e : En) : Value := .agg #[Value.bool e.there, Value.bool e.leaf, (Value.int .i64) e.rights, Value.bool e.used, Value.bool e.dirty, (Value.int .i64) e.frame]
def Mp.ok (m : Mp) : Prop := i64 m.page ∧ i64 m.size ∧ i64 m.frame ∧ i64 m.rights
def Ac.ok (a : Ac) : Prop := i64 a.page ∧ i64 a.kind
def En.ok (e : En) : Prop := i64 e.rights ∧ i64 e.frame
def Mp.zero : Mp := ⟨0, 0, 0, 0⟩
def Ac.zero : Ac := ⟨0, 0, false⟩
def An.zero : An := ⟨0, 0, 0⟩
def En.zero : En := ⟨false, false, 0, false, false, 0⟩

/-- page.Span. -/
def span (s : Int) : Int := if s = 0 then 1 else if s = 1 then 8 else if s = 2 then 64 else 0
/-- page.Has. -/
def hasB (p : Int) : Bool := decide (0 ≤ p) && decide (p < 4096)
/-- Eight, so many times. -/
def pow8 : Nat → Int | 0 => 1 | n + 1 => 8 * pow8 n
/-- page.Index. -/
def index (p l : Int) : Int := if 0 ≤ p ∧ p < 4096 ∧ 0 ≤ l ∧ l < 4 then p / pow8 l.toNat % 8 else -1
/-- page.Check. -/
def check (m : Mp) : Int :=
  if span m.size = 0 then 2
  else if m.page < 0 ∨ 4096 ≤ m.page ∨ m.frame < 0 ∨ 1048576 ≤ m.frame ∨ m.rights < 0 ∨ 7 < m.rights then 1
  else if m.page % span m.size ≠ 0 ∨ m.frame % span m.size ≠ 0 then 3
  else 0
/-- page.Over. -/
def over (m : Mp) (p : Int) : Bool := decide (m.page ≤ p) && decide (p - m.page < span m.size)
/-- page.Meet. -/
def meet (a b : Mp) : Bool := over a b.page || over b a.page
/-- A bit of an int. -/
def bitOf (r : Int) (k : Int) : Bool := decide (r / k % 2 = 1)
/-- page.May. -/
def may (r : Int) (a : Ac) : Bool :=
  (a.kind != 1 || bitOf r 1) && (a.kind != 2 || bitOf r 4) && (!a.user || bitOf r 2)
/-- page.CheckAccess. -/
def checkAccess (a : Ac) : Int := if a.kind < 0 ∨ 2 < a.kind then 2 else if a.page < 0 ∨ 4096 ≤ a.page then 1 else 0
/-- page.Answer. -/
def answer (m : Mp) (a : Ac) : An := if may m.rights a then ⟨0, wrap64 (wrap64 (m.frame + a.page) - m.page), m.rights⟩ else ⟨2, 0, 0⟩

end Go.Proofs.Ytndhgomikpokpaa
