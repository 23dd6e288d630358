/- What withyref1.Unchap answers: short strings, codes, lengths. No condition. -/
import Derived.Test.YtoldjadadgokeaaGet
import Derived.Test.YtoldjadadgokeaaTwo
namespace Go.Proofs.Ytoldjadadgokeaa.Ch6
open Go.RowKit Go.Proofs.Ytoldjadadgokeaa.Bytes

/-- A call of Unchap answers this, and writes nothing that was there. -/
def UnS (s : ByteArray) (c id : Int) (v n : ByteArray) (e : Int) (w : World) : Prop :=
  Calls Try.prog 21 #[.string s] w fun e' w' => e' = .returned (.tuple #[.agg #[.int .i64 c, .int .i64 id, .string v, .string n], .int .i64 e]) ∧ Below w.heap.size w w'

/-- The first four bytes of a string, and the length that they tell, as the reference reckons it. -/
structure Hu (s : ByteArray) (a0 a1 a2 a3 : Int) (m : Nat) : Prop where
  h : 4 ≤ s.size
  e0 : ∀ h : 0 < s.size, ((s[0]'h).toNat : Int) = a0
  e1 : ∀ h : 1 < s.size, ((s[1]'h).toNat : Int) = a1
  e2 : ∀ h : 2 < s.size, ((s[2]'h).toNat : Int) = a2
  e3 : ∀ h : 3 < s.size, ((s[3]'h).toNat : Int) = a3
  b0 : 0 ≤ a0
  b1 : 0 ≤ a1
  b2 : 0 ≤ a2
  b3 : 0 ≤ a3
  c0 : a0 ≤ 255
  c1 : a1 ≤ 255
  c2 : a2 ≤ 255
  c3 : a3 ≤ 255
  hm : a2 * 256 + a3 = (m : Int)
set_option maxHeartbeats 2000000 in
set_option maxRecDepth 100000 in
theorem un_short (s : ByteArray) (w : World) (h : (s.size : Int) < 4) : UnS s 0 0 (B []) (B []) 600 w := by
  unfold UnS
  go_enter Try.func21, Try.ntmps21
  go_wp2
  all_goals
    refine bodyPost_ret (v := .tuple #[.agg #[.int .i64 0, .int .i64 0, .string ⟨#[]⟩, .string ⟨#[]⟩], .int .i64 600]) (by simp [results, Try.results21, go_sem]) rfl ⟨rfl, ?_⟩
    repeat (with_reducible first | exact Below.refl _ _ | apply be_alloc | apply be_drewN | apply be_drew | refine be_set ?_ (by omega))
set_option maxHeartbeats 2000000 in
set_option maxRecDepth 100000 in
theorem un_code0 {s : ByteArray} {a0 a1 a2 a3 : Int} {m : Nat} (w : World) (H : Hu s a0 a1 a2 a3 (m))  (hc : a0 < 1) : UnS s 0 0 (B []) (B []) 600 w := by
  unfold UnS
  obtain ⟨h, e0, e1, e2, e3, b0, b1, b2, b3, c0, c1, c2, c3, hm0⟩ := H
  have h0 : 0 < s.size := by omega
  have h1 : 1 < s.size := by omega
  have h2 : 2 < s.size := by omega
  have h3 : 3 < s.size := by omega
  have w2 : IntKind.i64.wrap (a2 * 256) = a2 * 256 := by rw [IntKind.wrap_i64]; omega
  have w3 : IntKind.i64.wrap (a2 * 256 + a3) = (m : Int) := by rw [IntKind.wrap_i64]; omega
  have hm : a2 * 256 + a3 = (m : Int) := by omega
  clear hm0
  go_enter Try.func21, Try.ntmps21
  go_wp2
  all_goals
    refine bodyPost_ret (v := .tuple #[.agg #[.int .i64 0, .int .i64 0, .string ⟨#[]⟩, .string ⟨#[]⟩], .int .i64 600]) (by simp [results, Try.results21, go_sem]) rfl ⟨rfl, ?_⟩
    repeat (with_reducible first | exact Below.refl _ _ | apply be_alloc | apply be_drewN | apply be_drew | refine be_set ?_ (by omega))
set_option maxHeartbeats 2000000 in
set_option maxRecDepth 100000 in
theorem un_code5 {s : ByteArray} {a0 a1 a2 a3 : Int} {m : Nat} (w : World) (H : Hu s a0 a1 a2 a3 (m))  (hc : 4 < a0) : UnS s 0 0 (B []) (B []) 600 w := by
  unfold UnS
  obtain ⟨h, e0, e1, e2, e3, b0, b1, b2, b3, c0, c1, c2, c3, hm0⟩ := H
  have h0 : 0 < s.size := by omega
  have h1 : 1 < s.size := by omega
  have h2 : 2 < s.size := by omega
  have h3 : 3 < s.size := by omega
  have w2 : IntKind.i64.wrap (a2 * 256) = a2 * 256 := by rw [IntKind.wrap_i64]; omega
  have w3 : IntKind.i64.wrap (a2 * 256 + a3) = (m : Int) := by rw [IntKind.wrap_i64]; omega
  have hm : a2 * 256 + a3 = (m : Int) := by omega
  clear hm0
  have hc' : ¬ a0 < 1 := by omega
  go_enter Try.func21, Try.ntmps21
  go_wp2
  all_goals
    refine bodyPost_ret (v := .tuple #[.agg #[.int .i64 0, .int .i64 0, .string ⟨#[]⟩, .string ⟨#[]⟩], .int .i64 600]) (by simp [results, Try.results21, go_sem]) rfl ⟨rfl, ?_⟩
    repeat (with_reducible first | exact Below.refl _ _ | apply be_alloc | apply be_drewN | apply be_drew | refine be_set ?_ (by omega))
set_option maxHeartbeats 2000000 in
set_option maxRecDepth 100000 in
theorem un_low2 {s : ByteArray} {a0 a1 a2 a3 : Int} {m : Nat} (w : World) (H : Hu s a0 a1 a2 a3 (m)) (hc : a0 = 1 ∨ a0 = 2) (hl : m < 5) : UnS s 0 0 (B []) (B []) 600 w := by
  unfold UnS
  obtain ⟨h, e0, e1, e2, e3, b0, b1, b2, b3, c0, c1, c2, c3, hm0⟩ := H
  have h0 : 0 < s.size := by omega
  have h1 : 1 < s.size := by omega
  have h2 : 2 < s.size := by omega
  have h3 : 3 < s.size := by omega
  have w2 : IntKind.i64.wrap (a2 * 256) = a2 * 256 := by rw [IntKind.wrap_i64]; omega
  have w3 : IntKind.i64.wrap (a2 * 256 + a3) = (m : Int) := by rw [IntKind.wrap_i64]; omega
  have hm : a2 * 256 + a3 = (m : Int) := by omega
  clear hm0
  have g1 : (m : Int) < 5 := by omega
  rcases hc with rfl | rfl
  · go_enter Try.func21, Try.ntmps21
    go_wp2
    go_quiet (fail)
    go_wp2
    all_goals
      refine bodyPost_ret (v := .tuple #[.agg #[.int .i64 0, .int .i64 0, .string ⟨#[]⟩, .string ⟨#[]⟩], .int .i64 600]) (by simp [results, Try.results21, go_sem]) rfl ⟨rfl, ?_⟩
      repeat (with_reducible first | exact Below.refl _ _ | apply be_alloc | apply be_drewN | apply be_drew | refine be_set ?_ (by omega))
  · go_enter Try.func21, Try.ntmps21
    go_wp2
    go_quiet (fail)
    go_wp2
    all_goals
      refine bodyPost_ret (v := .tuple #[.agg #[.int .i64 0, .int .i64 0, .string ⟨#[]⟩, .string ⟨#[]⟩], .int .i64 600]) (by simp [results, Try.results21, go_sem]) rfl ⟨rfl, ?_⟩
      repeat (with_reducible first | exact Below.refl _ _ | apply be_alloc | apply be_drewN | apply be_drew | refine be_set ?_ (by omega))
set_option maxHeartbeats 2000000 in
set_option maxRecDepth 100000 in
theorem un_low0 {s : ByteArray} {a0 a1 a2 a3 : Int} {m : Nat} (w : World) (H : Hu s a0 a1 a2 a3 (m)) (hc : a0 = 3 ∨ a0 = 4) (hl : m < 4) : UnS s 0 0 (B []) (B []) 600 w := by
  unfold UnS
  obtain ⟨h, e0, e1, e2, e3, b0, b1, b2, b3, c0, c1, c2, c3, hm0⟩ := H
  have h0 : 0 < s.size := by omega
  have h1 : 1 < s.size := by omega
  have h2 : 2 < s.size := by omega
  have h3 : 3 < s.size := by omega
  have w2 : IntKind.i64.wrap (a2 * 256) = a2 * 256 := by rw [IntKind.wrap_i64]; omega
  have w3 : IntKind.i64.wrap (a2 * 256 + a3) = (m : Int) := by rw [IntKind.wrap_i64]; omega
  have hm : a2 * 256 + a3 = (m : Int) := by omega
  clear hm0
  have g1 : (m : Int) < 4 := by omega
  rcases hc with rfl | rfl
  · go_enter Try.func21, Try.ntmps21
    go_wp2
    go_quiet (fail)
    go_wp2
    all_goals
      refine bodyPost_ret (v := .tuple #[.agg #[.int .i64 0, .int .i64 0, .string ⟨#[]⟩, .string ⟨#[]⟩], .int .i64 600]) (by simp [results, Try.results21, go_sem]) rfl ⟨rfl, ?_⟩
      repeat (with_reducible first | exact Below.refl _ _ | apply be_alloc | apply be_drewN | apply be_drew | refine be_set ?_ (by omega))
  · go_enter Try.func21, Try.ntmps21
    go_wp2
    go_quiet (fail)
    go_wp2
    all_goals
      refine bodyPost_ret (v := .tuple #[.agg #[.int .i64 0, .int .i64 0, .string ⟨#[]⟩, .string ⟨#[]⟩], .int .i64 600]) (by simp [results, Try.results21, go_sem]) rfl ⟨rfl, ?_⟩
      repeat (with_reducible first | exact Below.refl _ _ | apply be_alloc | apply be_drewN | apply be_drew | refine be_set ?_ (by omega))
set_option maxHeartbeats 2000000 in
set_option maxRecDepth 100000 in
theorem un_past2 {s : ByteArray} {a0 a1 a2 a3 : Int} {m : Nat} (w : World) (H : Hu s a0 a1 a2 a3 (m)) (hc : a0 = 1 ∨ a0 = 2) (hl : 5 ≤ m) (hp : s.size < m) : UnS s 0 0 (B []) (B []) 600 w := by
  unfold UnS
  obtain ⟨h, e0, e1, e2, e3, b0, b1, b2, b3, c0, c1, c2, c3, hm0⟩ := H
  have h0 : 0 < s.size := by omega
  have h1 : 1 < s.size := by omega
  have h2 : 2 < s.size := by omega
  have h3 : 3 < s.size := by omega
  have w2 : IntKind.i64.wrap (a2 * 256) = a2 * 256 := by rw [IntKind.wrap_i64]; omega
  have w3 : IntKind.i64.wrap (a2 * 256 + a3) = (m : Int) := by rw [IntKind.wrap_i64]; omega
  have hm : a2 * 256 + a3 = (m : Int) := by omega
  clear hm0
  have g1 : decide (((m : Int)) < 4) = false := decide_eq_false (by omega)
  have g2 : decide (((m : Int)) < 5) = false := decide_eq_false (by omega)
  have g3 : decide (s.size < m) = true := decide_eq_true hp
  rcases hc with rfl | rfl
  · go_enter Try.func21, Try.ntmps21
    go_wp2
    go_quiet (fail)
    go_wp2
    all_goals
      refine bodyPost_ret (v := .tuple #[.agg #[.int .i64 0, .int .i64 0, .string ⟨#[]⟩, .string ⟨#[]⟩], .int .i64 600]) (by simp [results, Try.results21, go_sem]) rfl ⟨rfl, ?_⟩
      repeat (with_reducible first | exact Below.refl _ _ | apply be_alloc | apply be_drewN | apply be_drew | refine be_set ?_ (by omega))
  · go_enter Try.func21, Try.ntmps21
    go_wp2
    go_quiet (fail)
    go_wp2
    all_goals
      refine bodyPost_ret (v := .tuple #[.agg #[.int .i64 0, .int .i64 0, .string ⟨#[]⟩, .string ⟨#[]⟩], .int .i64 600]) (by simp [results, Try.results21, go_sem]) rfl ⟨rfl, ?_⟩
      repeat (with_reducible first | exact Below.refl _ _ | apply be_alloc | apply be_drewN | apply be_drew | refine be_set ?_ (by omega))
set_option maxHeartbeats 2000000 in
set_option maxRecDepth 100000 in
theorem un_past0 {s : ByteArray} {a0 a1 a2 a3 : Int} {m : Nat} (w : World) (H : Hu s a0 a1 a2 a3 (m)) (hc : a0 = 3 ∨ a0 = 4) (hl : 4 ≤ m) (hp : s.size < m) : UnS s 0 0 (B []) (B []) 600 w := by
  unfold UnS
  obtain ⟨h, e0, e1, e2, e3, b0, b1, b2, b3, c0, c1, c2, c3, hm0⟩ := H
  have h0 : 0 < s.size := by omega
  have h1 : 1 < s.size := by omega
  have h2 : 2 < s.size := by omega
  have h3 : 3 < s.size := by omega
  have w2 : IntKind.i64.wrap (a2 * 256) = a2 * 256 := by rw [IntKind.wrap_i64]; omega
  have w3 : IntKind.i64.wrap (a2 * 256 + a3) = (m : Int) := by rw [IntKind.wrap_i64]; omega
  have hm : a2 * 256 + a3 = (m : Int) := by omega
  clear hm0
  have g1 : decide (((m : Int)) < 4) = false := decide_eq_false (by omega)
  have g3 : decide (s.size < m) = true := decide_eq_true hp
  rcases hc with rfl | rfl
  · go_enter Try.func21, Try.ntmps21
    go_wp2
    go_quiet (fail)
    go_wp2
    all_goals
      refine bodyPost_ret (v := .tuple #[.agg #[.int .i64 0, .int .i64 0, .string ⟨#[]⟩, .string ⟨#[]⟩], .int .i64 600]) (by simp [results, Try.results21, go_sem]) rfl ⟨rfl, ?_⟩
      repeat (with_reducible first | exact Below.refl _ _ | apply be_alloc | apply be_drewN | apply be_drew | refine be_set ?_ (by omega))
  · go_enter Try.func21, Try.ntmps21
    go_wp2
    go_quiet (fail)
    go_wp2
    all_goals
      refine bodyPost_ret (v := .tuple #[.agg #[.int .i64 0, .int .i64 0, .string ⟨#[]⟩, .string ⟨#[]⟩], .int .i64 600]) (by simp [results, Try.results21, go_sem]) rfl ⟨rfl, ?_⟩
      repeat (with_reducible first | exact Below.refl _ _ | apply be_alloc | apply be_drewN | apply be_drew | refine be_set ?_ (by omega))
end Go.Proofs.Ytoldjadadgokeaa.Ch6
