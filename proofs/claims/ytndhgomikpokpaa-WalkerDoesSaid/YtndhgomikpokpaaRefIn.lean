/- Contract of wayleaveref.In. -/
import Derived.Test.YtndhgomikpokpaaSep
import Derived.Test.YtndhgomikpokpaaEq
import Derived.Lib.Hide
import Derived.WalkSpells
import Derived.Outline
namespace Go.Proofs.Ytndhgomikpokpaa
open Go.RowKit
set_option maxRecDepth 100000

def inB (l : List Int) (q : Int) : Bool := l.any (· == q)
theorem inB_take {l : List Int} {k : Nat} {q : Int} (hk : k < l.length) (h : inB (l.take k) q = false) : inB (l.take (k + 1)) q = (l[k] == q) := by
  unfold inB at *
  rw [List.take_succ_eq_append_getElem hk, List.any_append, h]
  simp
theorem inB_yes {l : List Int} {k : Nat} {q : Int} (hk : k < l.length) (h : (l[k] == q) = true) : inB l q = true := by
  unfold inB
  exact List.any_eq_true.2 ⟨l[k], List.getElem_mem hk, h⟩

theorem in_any (A : Option Addr) (n c : Nat) (l : List Int) (q : Int) (w : World) (h : Rd w A n (l.map (Value.int .i64))) :
    Calls Try.prog 56 #[.slice A n c, .int .i64 q] w (Same (Value.bool (inB l q)) w) := by
  have hn : l.length = n := by simpa using h.1
  have hm := h.2.1
  have hnn := Lib.hid hn
  go_enter Try.func56, Try.ntmps56
  go_wp2
  go_loop [5, 6, 7, 8, 9, 10, 11, 12, 13, 14, 15, 16, 17] (fun t _ _ _ _ _ _ _ _ _ _ _ _ => ∃ k : Nat, k ≤ n ∧ t = (Value.int .i64) k ∧ inB (l.take k) q = false) (fun t _ _ _ _ _ _ _ _ _ _ _ _ => n - (intOf t).toNat)
  case atStart => exact ⟨0, Nat.zero_le _, rfl, rfl⟩
  case round =>
    obtain ⟨k, hk, rfl, hno⟩ := hrel
    by_cases hlt : k < n
    · have hkl : k < l.length := by omega
      obtain ⟨b, off, rfl, hb, hc⟩ := h.at_ (j := k) (u := (Value.int .i64) l[k]) (by simp [hkl])
      have ht := Lib.hid (inB_take (q := q) hkl hno)
      have hno' := Lib.hid hno
      clear hno hn h
      cases hq : (l[k] == q) with
      | true =>
        have hy := Lib.hid (inB_yes hkl hq)
        go_wp2
        go_ret
        exact ⟨by rw [hy.out]; rfl, rfl⟩
      | false =>
        go_wp2
        go_round
        case rel => exact ⟨k + 1, by omega, by go_num, by rw [ht.out, hq]⟩
        case measure => simp [intOf]; omega
    · obtain rfl : k = n := by omega
      have hall := Lib.hid (show inB l q = false by rw [← hno, List.take_of_length_le (by omega)])
      clear hno h hn
      go_wp2
      go_ret
      exact ⟨by rw [hall.out]; rfl, rfl⟩
end Go.Proofs.Ytndhgomikpokpaa
