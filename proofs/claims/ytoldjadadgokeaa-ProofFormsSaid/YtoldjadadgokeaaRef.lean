/- What withyref1.Chap answers, for every message. No condition. -/
import Derived.Test.YtoldjadadgokeaaTwo
import Derived.Deep.RegionWith
import Derived.RegionTactic
import Derived.BigRegion
namespace Go.Proofs.Ytoldjadadgokeaa.Ch6
open Go.RowKit Go.Proofs.Ytoldjadadgokeaa.Bytes
attribute [local go_sem] B_size ByteArray.size_append
def ChapS (c id : Int) (v n r : ByteArray) (e : Int) (w : World) : Prop :=
  Calls Try.prog 19 #[.agg #[.int .i64 c, .int .i64 id, .string v, .string n]] w fun e' w' => e' = .returned (.tuple #[.string r, .int .i64 e]) ∧ Below w.heap.size w w'
theorem conv_cells (W : World) (b : Nat) (x y : Int) (h0 : W.cell? ⟨b, 0, none⟩ = some (.int .u8 x)) (h1 : W.cell? ⟨b, 1, none⟩ = some (.int .u8 y)) :
    (convert 37 9 (.slice (some ⟨b, 0, none⟩) 2 2)).run Try.prog W = .ok (.string (B [UInt8.ofNat x.toNat, UInt8.ofNat y.toNat])) W :=
  run_convert_bytes_arg (P := Try.prog) W 37 5 Try.underlying37 Try.underlying5 b 0 2 2 [x, y] rfl (fun i hi => by
    have : i = 0 ∨ i = 1 := by omega
    rcases this with rfl | rfl
    · exact h0
    · exact h1) 9 Try.underlying9
theorem conv2d (W : World) (b : Nat) (x y : Int) (hb : b = W.heap.size) :
    (convert 37 9 (.slice (some ⟨b, 0, none⟩) 2 2)).run Try.prog (W.alloc (.cells #[.int .u8 x, .int .u8 y] 5)).drew
      = .ok (.string (B [UInt8.ofNat x.toNat, UInt8.ofNat y.toNat])) (W.alloc (.cells #[.int .u8 x, .int .u8 y] 5)).drew := by
  subst hb
  exact conv_cells _ _ x y ((cell_of_row (W.alloc _) W.heap.size 0 _ 5 (0, 0) (heap_alloc_new W _)).trans rfl) ((cell_of_row (W.alloc _) W.heap.size 1 _ 5 (0, 0) (heap_alloc_new W _)).trans rfl)
theorem conv2b (W : World) (b : Nat) (x y : Int) (o : Obj) (hb : b = W.heap.size) :
    (convert 37 9 (.slice (some ⟨b, 0, none⟩) 2 2)).run Try.prog ((W.alloc (.cells #[.int .u8 x, .int .u8 y] 5)).alloc o).drew
      = .ok (.string (B [UInt8.ofNat x.toNat, UInt8.ofNat y.toNat])) ((W.alloc (.cells #[.int .u8 x, .int .u8 y] 5)).alloc o).drew := by
  subst hb
  exact conv_cells _ _ x y ((cell_of_row ((W.alloc _).alloc o) W.heap.size 0 _ 5 (0, 0) (heap_alloc2_old W _ _)).trans rfl) ((cell_of_row ((W.alloc _).alloc o) W.heap.size 1 _ 5 (0, 0) (heap_alloc2_old W _ _)).trans rfl)
set_option maxHeartbeats 1000000 in
set_option maxRecDepth 100000 in
theorem chap_codes0 (c id : Int) (v n : ByteArray) (w : World) (h : c < 1) : ChapS c id v n (B []) 600 w := by
  unfold ChapS
  have z1 : (c == 1) = false := by simp; omega
  have z2 : (c == 2) = false := by simp; omega
  go_enter Try.func19, Try.ntmps19
  go_wp2
  all_goals (go_ret2; exact ⟨rfl, (Below.refl _ _).alloc (Nat.le_refl _) _⟩)
set_option maxHeartbeats 1000000 in
set_option maxRecDepth 100000 in
theorem chap_codes5 (c id : Int) (v n : ByteArray) (w : World) (h : 4 < c) : ChapS c id v n (B []) 600 w := by
  unfold ChapS
  have z1 : (c == 1) = false := by simp; omega
  have z2 : (c == 2) = false := by simp; omega
  have z3 : ¬ c < 1 := by omega
  go_enter Try.func19, Try.ntmps19
  go_wp2
  all_goals (go_ret2; exact ⟨rfl, (Below.refl _ _).alloc (Nat.le_refl _) _⟩)
set_option maxHeartbeats 1000000 in
set_option maxRecDepth 100000 in
theorem chap_id0_two (c id : Int) (v n : ByteArray) (w : World) (hc : c = 1 ∨ c = 2) (h : id < 0) : ChapS c id v n (B []) 600 w := by
  unfold ChapS
  rcases hc with rfl | rfl
  · go_enter Try.func19, Try.ntmps19
    go_wp2
    all_goals (go_ret2; exact ⟨rfl, (Below.refl _ _).alloc (Nat.le_refl _) _⟩)
  · go_enter Try.func19, Try.ntmps19
    go_wp2
    all_goals (go_ret2; exact ⟨rfl, (Below.refl _ _).alloc (Nat.le_refl _) _⟩)
set_option maxHeartbeats 1000000 in
set_option maxRecDepth 100000 in
theorem chap_id256_two (c id : Int) (v n : ByteArray) (w : World) (hc : c = 1 ∨ c = 2) (h : 255 < id) : ChapS c id v n (B []) 600 w := by
  unfold ChapS
  have h' : ¬ id < 0 := by omega
  rcases hc with rfl | rfl
  · go_enter Try.func19, Try.ntmps19
    go_wp2
    all_goals (go_ret2; exact ⟨rfl, (Below.refl _ _).alloc (Nat.le_refl _) _⟩)
  · go_enter Try.func19, Try.ntmps19
    go_wp2
    all_goals (go_ret2; exact ⟨rfl, (Below.refl _ _).alloc (Nat.le_refl _) _⟩)
set_option maxHeartbeats 1000000 in
set_option maxRecDepth 100000 in
theorem chap_id0_one (c id : Int) (v n : ByteArray) (w : World) (hc : c = 3 ∨ c = 4) (h : id < 0) : ChapS c id v n (B []) 600 w := by
  unfold ChapS
  rcases hc with rfl | rfl
  · go_enter Try.func19, Try.ntmps19
    go_wp2
    all_goals (go_ret2; exact ⟨rfl, (Below.refl _ _).alloc (Nat.le_refl _) _⟩)
  · go_enter Try.func19, Try.ntmps19
    go_wp2
    all_goals (go_ret2; exact ⟨rfl, (Below.refl _ _).alloc (Nat.le_refl _) _⟩)
set_option maxHeartbeats 1000000 in
set_option maxRecDepth 100000 in
theorem chap_id256_one (c id : Int) (v n : ByteArray) (w : World) (hc : c = 3 ∨ c = 4) (h : 255 < id) : ChapS c id v n (B []) 600 w := by
  unfold ChapS
  have h' : ¬ id < 0 := by omega
  rcases hc with rfl | rfl
  · go_enter Try.func19, Try.ntmps19
    go_wp2
    all_goals (go_ret2; exact ⟨rfl, (Below.refl _ _).alloc (Nat.le_refl _) _⟩)
  · go_enter Try.func19, Try.ntmps19
    go_wp2
    all_goals (go_ret2; exact ⟨rfl, (Below.refl _ _).alloc (Nat.le_refl _) _⟩)
set_option maxHeartbeats 1000000 in
set_option maxRecDepth 100000 in
theorem chap_empty (c id : Int) (v n : ByteArray) (w : World) (hc : c = 1 ∨ c = 2) (hi : 0 ≤ id) (hi' : id ≤ 255) (hv : (v.size : Int) = 0) : ChapS c id v n (B []) 600 w := by
  unfold ChapS
  obtain rfl : v = ByteArray.empty := by
    obtain ⟨l, rfl⟩ := B_of v
    rw [B_size] at hv
    obtain rfl : l = [] := List.eq_nil_of_length_eq_zero (by omega)
    rfl
  clear hv
  rcases hc with rfl | rfl
  · go_enter Try.func19, Try.ntmps19
    go_wp2
    all_goals (go_ret2; exact ⟨rfl, (Below.refl _ _).alloc (Nat.le_refl _) _⟩)
  · go_enter Try.func19, Try.ntmps19
    go_wp2
    all_goals (go_ret2; exact ⟨rfl, (Below.refl _ _).alloc (Nat.le_refl _) _⟩)
set_option maxHeartbeats 1000000 in
set_option maxRecDepth 100000 in
theorem chap_full (c id : Int) (v n : ByteArray) (w : World) (hc : c = 3 ∨ c = 4) (hi : 0 ≤ id) (hi' : id ≤ 255) (hv : 0 < (v.size : Int)) : ChapS c id v n (B []) 600 w := by
  unfold ChapS
  have hv1 : decide (0 < (v.size : Int)) = true := decide_eq_true hv
  have hv2 : decide (0 < v.size) = true := decide_eq_true (by omega)
  have hv3 : 0 < v.size := by omega
  have hv4 : ¬ v = ByteArray.empty := by rintro rfl; exact absurd hv (by decide)
  have hv5 : (v.size == 0) = false := by simp; omega
  rcases hc with rfl | rfl
  · go_enter Try.func19, Try.ntmps19
    go_wp2
    all_goals (go_ret2; exact ⟨rfl, (Below.refl _ _).alloc (Nat.le_refl _) _⟩)
  · go_enter Try.func19, Try.ntmps19
    go_wp2
    all_goals (go_ret2; exact ⟨rfl, (Below.refl _ _).alloc (Nat.le_refl _) _⟩)
set_option maxHeartbeats 1000000 in
set_option maxRecDepth 100000 in
theorem chap_wide (c id : Int) (v n : ByteArray) (w : World) (hc : c = 1 ∨ c = 2) (hi : 0 ≤ id) (hi' : id ≤ 255) (hv : 255 < (v.size : Int)) : ChapS c id v n (B []) 600 w := by
  unfold ChapS
  rcases hc with rfl | rfl
  · go_enter Try.func19, Try.ntmps19
    go_wp2
    all_goals (go_ret2; exact ⟨rfl, (Below.refl _ _).alloc (Nat.le_refl _) _⟩)
  · go_enter Try.func19, Try.ntmps19
    go_wp2
    all_goals (go_ret2; exact ⟨rfl, (Below.refl _ _).alloc (Nat.le_refl _) _⟩)
set_option maxHeartbeats 1000000 in
set_option maxRecDepth 100000 in
theorem chap_long2 (c id : Int) (v n : ByteArray) (w : World) (hc : c = 1 ∨ c = 2) (hi : 0 ≤ id) (hi' : id ≤ 255) (hv : 0 < (v.size : Int)) (hv' : (v.size : Int) ≤ 255) (hn : 253 < (n.size : Int)) : ChapS c id v n (B []) 601 w := by
  unfold ChapS
  rcases hc with rfl | rfl
  · go_enter Try.func19, Try.ntmps19
    go_wp2
    all_goals (go_ret2; exact ⟨rfl, (Below.refl _ _).alloc (Nat.le_refl _) _⟩)
  · go_enter Try.func19, Try.ntmps19
    go_wp2
    all_goals (go_ret2; exact ⟨rfl, (Below.refl _ _).alloc (Nat.le_refl _) _⟩)
set_option maxHeartbeats 1000000 in
set_option maxRecDepth 100000 in
theorem chap_long0 (c id : Int) (v n : ByteArray) (w : World) (hc : c = 3 ∨ c = 4) (hi : 0 ≤ id) (hi' : id ≤ 255) (hv : (v.size : Int) = 0) (hn : 253 < (n.size : Int)) : ChapS c id v n (B []) 601 w := by
  unfold ChapS
  obtain rfl : v = ByteArray.empty := by
    obtain ⟨l, rfl⟩ := B_of v
    rw [B_size] at hv
    obtain rfl : l = [] := List.eq_nil_of_length_eq_zero (by omega)
    rfl
  clear hv
  rcases hc with rfl | rfl
  · go_enter Try.func19, Try.ntmps19
    go_wp2
    all_goals (go_ret2; exact ⟨rfl, (Below.refl _ _).alloc (Nat.le_refl _) _⟩)
  · go_enter Try.func19, Try.ntmps19
    go_wp2
    all_goals (go_ret2; exact ⟨rfl, (Below.refl _ _).alloc (Nat.le_refl _) _⟩)
end Go.Proofs.Ytoldjadadgokeaa.Ch6
