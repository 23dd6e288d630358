/- What withyref1.Unchap answers: messages without a value. No condition. -/
import Derived.Test.YtoldjadadgokeaaUnA
namespace Go.Proofs.Ytoldjadadgokeaa.Ch6
open Go.RowKit Go.Proofs.Ytoldjadadgokeaa.Bytes
set_option maxHeartbeats 2000000 in
set_option maxRecDepth 100000 in
theorem un_text_long {s : ByteArray} {a0 a1 a2 a3 : Int} {k : Nat} (w : World) (H : Hu s a0 a1 a2 a3 (k + 4)) (hc : a0 = 3 ∨ a0 = 4) (hp : k + 4 ≤ s.size) (hn : 253 < (k : Int)) : UnS s 0 0 (B []) (B []) 601 w := by
  unfold UnS
  obtain ⟨h, e0, e1, e2, e3, b0, b1, b2, b3, c0, c1, c2, c3, hm0⟩ := H
  have h0 : 0 < s.size := by omega
  have h1 : 1 < s.size := by omega
  have h2 : 2 < s.size := by omega
  have h3 : 3 < s.size := by omega
  have w2 : IntKind.i64.wrap (a2 * 256) = a2 * 256 := by rw [IntKind.wrap_i64]; omega
  have w3 : IntKind.i64.wrap (a2 * 256 + a3) = (k : Int) + 4 := by rw [IntKind.wrap_i64]; omega
  have hm : a2 * 256 + a3 = (k : Int) + 4 := by omega
  clear hm0
  have g1 : decide (((k : Int) + 4) < 4) = false := decide_eq_false (by omega)
  have hs1 : k + 4 ≤ s.size := hp
  have hs2 : decide (s.size < k + 4) = false := decide_eq_false (by omega)
  rcases hc with rfl | rfl
  · go_enter Try.func21, Try.ntmps21
    go_wp2
    go_quiet (fail)
    go_wp2
    go_region
    go_wp2
    all_goals
      refine bodyPost_ret (v := .tuple #[.agg #[.int .i64 0, .int .i64 0, .string ⟨#[]⟩, .string ⟨#[]⟩], .int .i64 601]) (by simp [results, Try.results21, go_sem]) rfl ⟨rfl, ?_⟩
      repeat (with_reducible first | exact Below.refl _ _ | apply be_alloc | apply be_drewN | apply be_drew | refine be_set ?_ (by omega))
  · go_enter Try.func21, Try.ntmps21
    go_wp2
    go_quiet (fail)
    go_wp2
    go_region
    go_wp2
    all_goals
      refine bodyPost_ret (v := .tuple #[.agg #[.int .i64 0, .int .i64 0, .string ⟨#[]⟩, .string ⟨#[]⟩], .int .i64 601]) (by simp [results, Try.results21, go_sem]) rfl ⟨rfl, ?_⟩
      repeat (with_reducible first | exact Below.refl _ _ | apply be_alloc | apply be_drewN | apply be_drew | refine be_set ?_ (by omega))
set_option maxHeartbeats 2000000 in
set_option maxRecDepth 100000 in
theorem un_text {s : ByteArray} {a0 a1 a2 a3 : Int} {k : Nat} (w : World) (H : Hu s a0 a1 a2 a3 (k + 4)) (hc : a0 = 3 ∨ a0 = 4) (hp : k + 4 ≤ s.size) (hn : (k : Int) ≤ 253) : UnS s a0 a1 (B []) (s.extract 4 (k + 4)) 0 w := by
  unfold UnS
  obtain ⟨h, e0, e1, e2, e3, b0, b1, b2, b3, c0, c1, c2, c3, hm0⟩ := H
  have h0 : 0 < s.size := by omega
  have h1 : 1 < s.size := by omega
  have h2 : 2 < s.size := by omega
  have h3 : 3 < s.size := by omega
  have w2 : IntKind.i64.wrap (a2 * 256) = a2 * 256 := by rw [IntKind.wrap_i64]; omega
  have w3 : IntKind.i64.wrap (a2 * 256 + a3) = (k : Int) + 4 := by rw [IntKind.wrap_i64]; omega
  have hm : a2 * 256 + a3 = (k : Int) + 4 := by omega
  clear hm0
  have g1 : decide (((k : Int) + 4) < 4) = false := decide_eq_false (by omega)
  have hs1 : k + 4 ≤ s.size := hp
  have hs2 : decide (s.size < k + 4) = false := decide_eq_false (by omega)
  rcases hc with rfl | rfl
  · go_enter Try.func21, Try.ntmps21
    go_wp2
    go_quiet (fail)
    go_wp2
    go_region
    go_wp2
    all_goals
      refine bodyPost_ret (v := .tuple #[.agg #[.int .i64 3, .int .i64 a1, .string ⟨#[]⟩, .string (s.extract 4 (k + 4))], .int .i64 0]) (by simp [results, Try.results21, go_sem]) rfl ⟨rfl, ?_⟩
      repeat (with_reducible first | exact Below.refl _ _ | apply be_alloc | apply be_drewN | apply be_drew | refine be_set ?_ (by omega))
  · go_enter Try.func21, Try.ntmps21
    go_wp2
    go_quiet (fail)
    go_wp2
    go_region
    go_wp2
    all_goals
      refine bodyPost_ret (v := .tuple #[.agg #[.int .i64 4, .int .i64 a1, .string ⟨#[]⟩, .string (s.extract 4 (k + 4))], .int .i64 0]) (by simp [results, Try.results21, go_sem]) rfl ⟨rfl, ?_⟩
      repeat (with_reducible first | exact Below.refl _ _ | apply be_alloc | apply be_drewN | apply be_drew | refine be_set ?_ (by omega))
end Go.Proofs.Ytoldjadadgokeaa.Ch6
