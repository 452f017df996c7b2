/- Both memories of frames as one piece each, with contracts that tell every case at once. -/
import Derived.Test.YtndhgomikpokpaaMem
import Derived.Test.YtndhgomikpokpaaPage
namespace Go.Proofs.Ytndhgomikpokpaa
open Go.RowKit
set_option maxRecDepth 100000

instance : Std.Associative (α := HProp) (fun a b => a * b) := ⟨star_assoc⟩
instance : Std.Commutative (α := HProp) (fun a b => a * b) := ⟨star_comm⟩

namespace Ms
def topV (s : Ms) : Int := match s.top with | some k => (k : Int) | none => -1
def takeS (s : Ms) : Ms := match s.top with | some k => s.take k | none => s
def giveS (s : Ms) (k : Int) : Ms := if s.has k then s.give k.toNat else s
/-- It is whole, and no greater than may be. -/
structure Ok (s : Ms) : Prop where
  inv : s.Inv
  small : s.n ≤ 128
theorem takeS_n (s : Ms) : s.takeS.n = s.n := by unfold takeS; split <;> rfl
theorem giveS_n (s : Ms) (k : Int) : (s.giveS k).n = s.n := by unfold giveS; split <;> rfl
theorem Ok.new {n : Nat} (h : n ≤ 128) : (Ms.new n).Ok := ⟨Inv.new n, h⟩
theorem Ok.takeS {s : Ms} (h : s.Ok) : s.takeS.Ok := by
  refine ⟨?_, by rw [takeS_n]; exact h.small⟩
  unfold Ms.takeS
  split
  · rename_i k hk
    exact h.inv.take hk
  · exact h.inv
theorem Ok.giveS {s : Ms} (h : s.Ok) (k : Int) : (s.giveS k).Ok := by
  refine ⟨?_, by rw [giveS_n]; exact h.small⟩
  unfold Ms.giveS
  split
  · rename_i hk
    exact h.inv.give (has_iff.1 hk).2.2
  · exact h.inv
end Ms
theorem storeS_n (s : Ms) (k i v : Int) : (storeS s k i v).n = s.n := by unfold storeS; split <;> rfl
theorem swapS_n (s : Ms) (k i o v : Int) : (swapS s k i o v).n = s.n := by unfold swapS; split <;> rfl
theorem Ms.Ok.storeS {s : Ms} (h : s.Ok) (k i : Int) {v : Int} (hv : u64 v) : (storeS s k i v).Ok := by
  refine ⟨?_, by rw [storeS_n]; exact h.small⟩
  unfold Go.Proofs.Ytndhgomikpokpaa.storeS
  split
  · exact h.inv.setW _ _ hv
  · exact h.inv
theorem Ms.Ok.swapS {s : Ms} (h : s.Ok) (k i o : Int) {v : Int} (hv : u64 v) : (swapS s k i o v).Ok := by
  refine ⟨?_, by rw [swapS_n]; exact h.small⟩
  unfold Go.Proofs.Ytndhgomikpokpaa.swapS
  split
  · exact h.inv.setW _ _ hv
  · exact h.inv

def memAt (q : Nat) (s : Ms) : HProp := ex fun gw => ex fun gi => ex fun vk => memIn q gw gi vk s (lift True)
section
variable {p q g gw gi : Nat} {vf vk : Value} {s : Ms} {R : HProp} {w : World}
theorem memAt_open (h : Has w (memAt q s * R)) : ∃ gw gi vk, Has w (memIn q gw gi vk s R) := by
  unfold memAt at h
  obtain ⟨gw, h⟩ := has_ex_star.1 h
  obtain ⟨gi, h⟩ := has_ex_star.1 h
  obtain ⟨vk, h⟩ := has_ex_star.1 h
  refine ⟨gw, gi, vk, ?_⟩
  unfold memIn at h ⊢
  simpa only [star_assoc, star_true] using h
theorem memAt_shut (h : Has w (memIn q gw gi vk s R)) : Has w (memAt q s * R) := by
  unfold memAt
  refine has_ex_star.2 ⟨gw, has_ex_star.2 ⟨gi, has_ex_star.2 ⟨vk, ?_⟩⟩⟩
  unfold memIn at h ⊢
  simpa only [star_assoc, star_true] using h
end

section
variable (p q : Nat) (s : Ms) (k i v o : Int) (R : HProp) (w : World)
theorem takenF (h : Has w (framesAt p s * R)) : Calls Try.prog 89 #[.pointer (some ⟨p, 0, none⟩), .int .i64 k] w (Same (Value.bool (s.has k)) w) := by
  obtain ⟨g, vf, h⟩ := framesAt_open h
  exact taken_any p g vf s k R w h
theorem loadF (h : Has w (framesAt p s * R)) : Calls Try.prog 71 #[.pointer (some ⟨p, 0, none⟩), .int .i64 k, .int .i64 i] w (Same (.tuple #[(Value.int .u64) (loadV s k i), Value.bool (s.hasW k i)]) w) := by
  obtain ⟨g, vf, h⟩ := framesAt_open h
  exact load_any p g vf s k i R w h
theorem freeF (h : Has w (framesAt p s * R)) : Calls Try.prog 68 #[.pointer (some ⟨p, 0, none⟩)] w (Same ((Value.int .i64) (s.frees.length : Nat)) w) := by
  obtain ⟨g, vf, h⟩ := framesAt_open h
  exact free_any p g vf s R w h
theorem storeF (h : Has w (framesAt p s * R)) :
    Calls Try.prog 50 #[.pointer (some ⟨p, 0, none⟩), .int .i64 k, .int .i64 i, .int .u64 v] w (Res (Value.bool (s.hasW k i)) (framesAt p (storeS s k i v) * R) w) := by
  obtain ⟨g, vf, h⟩ := framesAt_open h
  exact (store_any p g vf s k i v R w h).mono fun _ _ ⟨a, b, c⟩ => ⟨a, framesAt_shut b, c⟩
theorem swapF (h : Has w (framesAt p s * R)) :
    Calls Try.prog 104 #[.pointer (some ⟨p, 0, none⟩), .int .i64 k, .int .i64 i, .int .u64 o, .int .u64 v] w (Res (Value.bool (swapB s k i o)) (framesAt p (swapS s k i o v) * R) w) := by
  obtain ⟨g, vf, h⟩ := framesAt_open h
  exact (swap_any p g vf s k i o v R w h).mono fun _ _ ⟨a, b, c⟩ => ⟨a, framesAt_shut b, c⟩
theorem takeF (h : Has w (framesAt p s * R)) (hs : s.Ok) : Calls Try.prog 64 #[.pointer (some ⟨p, 0, none⟩)] w (Res ((Value.int .i64) s.topV) (framesAt p s.takeS * R) w) := by
  obtain ⟨g, vf, h⟩ := framesAt_open h
  unfold Ms.topV Ms.takeS
  cases ht : s.top with
  | some k => exact (take_any p g vf s k R w h ht (Ms.top_lt hs.inv ht).1).mono fun _ _ ⟨_, a, b, c⟩ => ⟨a, framesAt_shut b, c⟩
  | none => exact (take_none p g vf s R w h ht).mono fun _ _ ⟨a, b⟩ => ⟨a, b ▸ framesAt_shut h, b ▸ Ext.refl _⟩
theorem giveF (h : Has w (framesAt p s * R)) (hs : s.Ok) : Calls Try.prog 51 #[.pointer (some ⟨p, 0, none⟩), .int .i64 k] w (Res (Value.bool (s.has k)) (framesAt p (s.giveS k) * R) w) := by
  obtain ⟨g, vf, h⟩ := framesAt_open h
  unfold Ms.giveS
  cases ht : s.has k with
  | true =>
    obtain ⟨k0, k1, _⟩ := Ms.has_iff.1 ht
    obtain ⟨k, rfl⟩ := Int.eq_ofNat_of_zero_le k0
    have := Ms.frees_le hs.inv
    have := hs.small
    exact (give_yes p g vf s k R w h ht (by omega)).mono fun _ _ ⟨_, a, b, c⟩ => ⟨a, framesAt_shut (by simpa using b), c⟩
  | false => exact (give_no p g vf s k R w h ht).mono fun _ _ ⟨a, b⟩ => ⟨a, b ▸ framesAt_shut h, b ▸ Ext.refl _⟩

theorem takenM (h : Has w (memAt q s * R)) : Calls Try.prog 99 #[.pointer (some ⟨q, 0, none⟩), .int .i64 k] w (Same (Value.bool (s.has k)) w) := by
  obtain ⟨gw, gi, vk, h⟩ := memAt_open h
  exact memTaken_any q gw gi vk s k R w h
theorem freeM (h : Has w (memAt q s * R)) (hs : s.Ok) : Calls Try.prog 69 #[.pointer (some ⟨q, 0, none⟩)] w (Pure ((Value.int .i64) (s.frees.length : Nat)) w) := by
  obtain ⟨gw, gi, vk, h⟩ := memAt_open h
  have := hs.small
  have := Ms.frees_le hs.inv
  have := Ms.frees_len s
  exact memFree_any q gw gi vk s R w h hs.inv.le (by omega) (by omega)
theorem takeM (h : Has w (memAt q s * R)) (hs : s.Ok) : Calls Try.prog 65 #[.pointer (some ⟨q, 0, none⟩)] w (Res ((Value.int .i64) s.topV) (memAt q s.takeS * R) w) := by
  obtain ⟨gw, gi, vk, h⟩ := memAt_open h
  have := hs.small
  unfold Ms.topV Ms.takeS
  cases ht : s.top with
  | some k => exact (memTake_any q gw gi vk s k R w h hs.inv (by omega) ht).mono fun _ _ ⟨_, a, b, c⟩ => ⟨a, memAt_shut b, c⟩
  | none => exact (memTake_none q gw gi vk s R w h ht).mono fun _ _ ⟨a, b⟩ => ⟨a, (memAt_shut h).below b, (Ext.refl w).below b⟩
theorem giveM (h : Has w (memAt q s * R)) (hs : s.Ok) : Calls Try.prog 52 #[.pointer (some ⟨q, 0, none⟩), .int .i64 k] w (Res (Value.bool (s.has k)) (memAt q (s.giveS k) * R) w) := by
  obtain ⟨gw, gi, vk, h⟩ := memAt_open h
  unfold Ms.giveS
  cases ht : s.has k with
  | true =>
    obtain ⟨k0, k1, _⟩ := Ms.has_iff.1 ht
    obtain ⟨k, rfl⟩ := Int.eq_ofNat_of_zero_le k0
    have := Ms.frees_le hs.inv
    have := hs.small
    have := Ms.frees_len s
    exact (memGive_yes q gw gi vk s k R w h ht (by omega)).mono fun _ _ ⟨_, a, b, c⟩ => ⟨a, memAt_shut (by simpa using b), c⟩
  | false => exact (memGive_no q gw gi vk s k R w h ht).mono fun _ _ ⟨a, b⟩ => ⟨a, b ▸ memAt_shut h, b ▸ Ext.refl _⟩
theorem newF (n : Int) (h : Has w R) (h0 : 0 ≤ n) (h1 : n ≤ 128) :
    Calls Try.prog 97 #[.int .i64 n] w fun e w' => ∃ p, Res (.tuple #[.pointer (some ⟨p, 0, none⟩), .agg #[(Value.int .i64) 0, (Value.int .i64) 0]]) (framesAt p (Ms.new n.toNat) * R) w e w' := by
  obtain ⟨n, rfl⟩ := Int.eq_ofNat_of_zero_le h0
  exact (new_frames n (by omega) R w h).mono fun _ _ ⟨p, _, _, a, b, c⟩ => ⟨p, a, framesAt_shut b, c⟩
theorem newM (n : Int) (h : Has w R) (h0 : 0 ≤ n) (h1 : n ≤ 128) :
    Calls Try.prog 98 #[.int .i64 n] w fun e w' => ∃ q, Res (.pointer (some ⟨q, 0, none⟩)) (memAt q (Ms.new n.toNat) * R) w e w' := by
  obtain ⟨n, rfl⟩ := Int.eq_ofNat_of_zero_le h0
  exact (newMem_any n (by omega) R w h).mono fun _ _ ⟨p, _, _, _, a, b, c⟩ => ⟨p, a, memAt_shut b, c⟩
end

/-- A word of a memory, by its cell. -/
theorem mem_word {q gw gi : Nat} {vk : Value} {s : Ms} {R : HProp} {w : World} (h : Has w (memIn q gw gi vk s R)) {k i : Nat} (hk : k < s.n) (hi : i < 8) :
    w.cell? ⟨gw, k * 8 + i, none⟩ = some ((Value.int .u64) (s.wd k i)) := by
  rw [h.right.tabGet (by omega)]
  unfold wc
  rw [show (k * 8 + i) / 8 = k by omega, show (k * 8 + i) % 8 = i by omega]
theorem wc_setW (s : Ms) (k i : Nat) (v : Int) (hi : i < 8) (j : Nat) : fput (wc s) (k * 8 + i) ((Value.int .u64) v) j = wc (s.setW k i v) j := by
  unfold fput wc Ms.setW
  dsimp only
  by_cases h : j = k * 8 + i
  · subst h
    rw [if_pos rfl, show (k * 8 + i) / 8 = k by omega, show (k * 8 + i) % 8 = i by omega, if_pos ⟨rfl, rfl⟩]
  · rw [if_neg h, if_neg (by omega)]
theorem mem_setW {q gw gi : Nat} {vk : Value} {s : Ms} {R : HProp} {w : World} (h : Has w (memIn q gw gi vk s R)) {k i : Nat} (hi : i < 8) (v : Int) :
    Has (w.setCell ⟨gw, k * 8 + i, none⟩ ((Value.int .u64) v)) (memIn q gw gi vk (s.setW k i v) R) :=
  ((h.p2.tabSet _ _).tabExt fun j _ => wc_setW s k i v hi j).p2
end Go.Proofs.Ytndhgomikpokpaa
