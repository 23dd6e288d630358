/- What withyref1.Unchap answers: a value that may not be. No condition. -/
import Derived.Test.YtoldjadadgokeaaUnA
namespace Go.Proofs.Ytoldjadadgokeaa.Ch6
open Go.RowKit Go.Proofs.Ytoldjadadgokeaa.Bytes
set_option maxHeartbeats 2000000 in
set_option maxRecDepth 100000 in
theorem un_val_zero {s : ByteArray} {a0 a1 a2 a3 : Int} {k : Nat} (w : World) (H : Hu s a0 a1 a2 a3 (k + 5)) (hc : a0 = 1 ∨ a0 = 2) (hp : k + 5 ≤ s.size) (e4 : ∀ h : 4 < s.size, ((s[4]'h).toNat : Int) = 0)  : UnS s 0 0 (B []) (B []) 600 w := by
  unfold UnS
  obtain ⟨h, e0, e1, e2, e3, b0, b1, b2, b3, c0, c1, c2, c3, hm0⟩ := H
  have h0 : 0 < s.size := by omega
  have h1 : 1 < s.size := by omega
  have h2 : 2 < s.size := by omega
  have h3 : 3 < s.size := by omega
  have w2 : IntKind.i64.wrap (a2 * 256) = a2 * 256 := by rw [IntKind.wrap_i64]; omega
  have w3 : IntKind.i64.wrap (a2 * 256 + a3) = (k : Int) + 5 := by rw [IntKind.wrap_i64]; omega
  have hm : a2 * 256 + a3 = (k : Int) + 5 := by omega
  clear hm0
  have g1 : decide (((k : Int) + 5) < 4) = false := decide_eq_false (by omega)
  have g2 : decide (((k : Int) + 5) < 5) = false := decide_eq_false (by omega)
  have hs1 : k + 5 ≤ s.size := hp
  have hs2 : decide (s.size < k + 5) = false := decide_eq_false (by omega)
  have h4 : 4 < s.size := by omega
  rcases hc with rfl | rfl
  · go_enter Try.func21, Try.ntmps21
    go_wp2
    go_quiet (fail)
    go_wp2
    go_region
    go_wp2
    all_goals
      refine bodyPost_ret (v := .tuple #[.agg #[.int .i64 0, .int .i64 0, .string ⟨#[]⟩, .string ⟨#[]⟩], .int .i64 600]) (by simp [results, Try.results21, go_sem]) rfl ⟨rfl, ?_⟩
      repeat (with_reducible first | exact Below.refl _ _ | apply be_alloc | apply be_drewN | apply be_drew | refine be_set ?_ (by omega))
  · go_enter Try.func21, Try.ntmps21
    go_wp2
    go_quiet (fail)
    go_wp2
    go_region
    go_wp2
    all_goals
      refine bodyPost_ret (v := .tuple #[.agg #[.int .i64 0, .int .i64 0, .string ⟨#[]⟩, .string ⟨#[]⟩], .int .i64 600]) (by simp [results, Try.results21, go_sem]) rfl ⟨rfl, ?_⟩
      repeat (with_reducible first | exact Below.refl _ _ | apply be_alloc | apply be_drewN | apply be_drew | refine be_set ?_ (by omega))
set_option maxHeartbeats 2000000 in
set_option maxRecDepth 100000 in
theorem un_val_past {s : ByteArray} {a0 a1 a2 a3 : Int} {k q : Nat} (w : World) (H : Hu s a0 a1 a2 a3 (k + 5)) (hc : a0 = 1 ∨ a0 = 2) (hp : k + 5 ≤ s.size) (e4 : ∀ h : 4 < s.size, ((s[4]'h).toNat : Int) = (q : Int)) (hq : q ≤ 255) (hkq : k < q) : UnS s 0 0 (B []) (B []) 600 w := by
  unfold UnS
  obtain ⟨h, e0, e1, e2, e3, b0, b1, b2, b3, c0, c1, c2, c3, hm0⟩ := H
  have h0 : 0 < s.size := by omega
  have h1 : 1 < s.size := by omega
  have h2 : 2 < s.size := by omega
  have h3 : 3 < s.size := by omega
  have w2 : IntKind.i64.wrap (a2 * 256) = a2 * 256 := by rw [IntKind.wrap_i64]; omega
  have w3 : IntKind.i64.wrap (a2 * 256 + a3) = (k : Int) + 5 := by rw [IntKind.wrap_i64]; omega
  have hm : a2 * 256 + a3 = (k : Int) + 5 := by omega
  clear hm0
  have g1 : decide (((k : Int) + 5) < 4) = false := decide_eq_false (by omega)
  have g2 : decide (((k : Int) + 5) < 5) = false := decide_eq_false (by omega)
  have hs1 : k + 5 ≤ s.size := hp
  have hs2 : decide (s.size < k + 5) = false := decide_eq_false (by omega)
  have h4 : 4 < s.size := by omega
  have hq0 : ((q : Int) == 0) = false := by simp; omega
  have hq1 : (k : Int) < q := by omega
  have hq2 : (q : Int) ≤ 255 := by omega
  rcases hc with rfl | rfl
  · go_enter Try.func21, Try.ntmps21
    go_wp2
    go_quiet (fail)
    go_wp2
    go_region
    go_wp2
    all_goals
      refine bodyPost_ret (v := .tuple #[.agg #[.int .i64 0, .int .i64 0, .string ⟨#[]⟩, .string ⟨#[]⟩], .int .i64 600]) (by simp [results, Try.results21, go_sem]) rfl ⟨rfl, ?_⟩
      repeat (with_reducible first | exact Below.refl _ _ | apply be_alloc | apply be_drewN | apply be_drew | refine be_set ?_ (by omega))
  · go_enter Try.func21, Try.ntmps21
    go_wp2
    go_quiet (fail)
    go_wp2
    go_region
    go_wp2
    all_goals
      refine bodyPost_ret (v := .tuple #[.agg #[.int .i64 0, .int .i64 0, .string ⟨#[]⟩, .string ⟨#[]⟩], .int .i64 600]) (by simp [results, Try.results21, go_sem]) rfl ⟨rfl, ?_⟩
      repeat (with_reducible first | exact Below.refl _ _ | apply be_alloc | apply be_drewN | apply be_drew | refine be_set ?_ (by omega))
end Go.Proofs.Ytoldjadadgokeaa.Ch6
