/- What chapmsg.Get answers for messages with a value. No condition. -/
import Derived.Test.YtoldjadadgokeaaGet
import Derived.Test.YtoldjadadgokeaaPut
namespace Go.Proofs.Ytoldjadadgokeaa.Ch6
open Go.RowKit Go.Proofs.Ytoldjadadgokeaa.Bytes
theorem ext_ne (s : ByteArray) (m : Nat) (h : 4 < m) (hp : m ≤ s.size) : (s.extract 4 m).toList.isEmpty = false := by
  obtain ⟨l, rfl⟩ := B_of s
  rw [B_extract, B_toList]
  rw [B_size] at hp
  cases hl : (l.drop 4).take (m - 4) with
  | nil => have := congrArg List.length hl; simp at this; omega
  | cons a b => rfl
set_option maxHeartbeats 1000000 in
set_option maxRecDepth 100000 in
theorem get_val_none {s : ByteArray} {a0 a1 a2 a3 : Int} (w : World) (H : Hd s a0 a1 a2 a3 4) (hc : a0 = 1 ∨ a0 = 2) (hp : 4 ≤ s.size) : GetS s 0 0 (B []) (B []) 600 w := by
  unfold GetS
  obtain ⟨h, e0, e1, e2, e3, b0, b1, b2, b3, c0, c1, c2, c3, hm0, _⟩ := H
  have h0 : 0 < s.size := by omega
  have h1 : 1 < s.size := by omega
  have h2 : 2 < s.size := by omega
  have h3 : 3 < s.size := by omega
  have hm : Go.bits .or .i64 (a2 * 256) a3 = 4 := hm0
  clear hm0
  have hs2 : decide (s.size < 4) = false := decide_eq_false (by omega)
  have hs5 : decide ((s.size : Int) < 4) = false := decide_eq_false (by omega)
  have hs3 : min 4 s.size = 4 := by omega
  have he : (s.extract 4 4).toList.isEmpty = true := by
    obtain ⟨l, rfl⟩ := B_of s
    rw [B_extract, B_toList]; simp
  rcases hc with rfl | rfl
  · go_enter Try.func20, Try.ntmps20
    go_wp2
    go_region
    go_wp2
    go_quiet (fail)
    go_wp2
    refine bodyPost_ret (v := .tuple #[.agg #[.int .i64 0, .int .i64 0, .string ⟨#[]⟩, .string ⟨#[]⟩], .int .i64 600]) (by simp [results, Try.results20, go_sem]) rfl ⟨rfl, ?_⟩
    repeat (with_reducible first | exact Below.refl _ _ | apply be_alloc | apply be_drewN | apply be_drew | refine be_set ?_ (by omega))
  · go_enter Try.func20, Try.ntmps20
    go_wp2
    go_region
    go_wp2
    go_quiet (fail)
    go_wp2
    refine bodyPost_ret (v := .tuple #[.agg #[.int .i64 0, .int .i64 0, .string ⟨#[]⟩, .string ⟨#[]⟩], .int .i64 600]) (by simp [results, Try.results20, go_sem]) rfl ⟨rfl, ?_⟩
    repeat (with_reducible first | exact Below.refl _ _ | apply be_alloc | apply be_drewN | apply be_drew | refine be_set ?_ (by omega))
set_option maxHeartbeats 1000000 in
set_option maxRecDepth 100000 in
theorem get_val_zero {s : ByteArray} {a0 a1 a2 a3 : Int} {k : Nat} (w : World) (H : Hd s a0 a1 a2 a3 (k + 5)) (hc : a0 = 1 ∨ a0 = 2) (hp : k + 5 ≤ s.size) (e4 : ∀ h : 0 < (s.extract 4 (k + 5)).size, (((s.extract 4 (k + 5))[0]'h).toNat : Int) = 0) : GetS s 0 0 (B []) (B []) 600 w := by
  unfold GetS
  obtain ⟨h, e0, e1, e2, e3, b0, b1, b2, b3, c0, c1, c2, c3, hm0, _⟩ := H
  have h0 : 0 < s.size := by omega
  have h1 : 1 < s.size := by omega
  have h2 : 2 < s.size := by omega
  have h3 : 3 < s.size := by omega
  have hm : Go.bits .or .i64 (a2 * 256) a3 = (k : Int) + 5 := by rw [hm0]; omega
  clear hm0
  have hs1 : k + 5 ≤ s.size := hp
  have hs2 : decide (s.size < k + 5) = false := decide_eq_false (by omega)
  have hs3 : min (k + 5) s.size = k + 5 := by omega
  have hs4 : decide ((k : Int) + 5 < 4) = false := decide_eq_false (by omega)
  have hne : (s.extract 4 (k + 5)).toList.isEmpty = false := ext_ne _ _ (by omega) hp
  have hk : 0 < k + 1 := by omega
  rcases hc with rfl | rfl
  · go_enter Try.func20, Try.ntmps20
    go_wp2
    go_region
    go_wp2
    go_quiet (fail)
    go_wp2
    refine bodyPost_ret (v := .tuple #[.agg #[.int .i64 0, .int .i64 0, .string ⟨#[]⟩, .string ⟨#[]⟩], .int .i64 600]) (by simp [results, Try.results20, go_sem]) rfl ⟨rfl, ?_⟩
    repeat (with_reducible first | exact Below.refl _ _ | apply be_alloc | apply be_drewN | apply be_drew | refine be_set ?_ (by omega))
  · go_enter Try.func20, Try.ntmps20
    go_wp2
    go_region
    go_wp2
    go_quiet (fail)
    go_wp2
    refine bodyPost_ret (v := .tuple #[.agg #[.int .i64 0, .int .i64 0, .string ⟨#[]⟩, .string ⟨#[]⟩], .int .i64 600]) (by simp [results, Try.results20, go_sem]) rfl ⟨rfl, ?_⟩
    repeat (with_reducible first | exact Below.refl _ _ | apply be_alloc | apply be_drewN | apply be_drew | refine be_set ?_ (by omega))
set_option maxHeartbeats 1000000 in
set_option maxRecDepth 100000 in
theorem get_val_past {s : ByteArray} {a0 a1 a2 a3 : Int} {k q : Nat} (w : World) (H : Hd s a0 a1 a2 a3 (k + 5)) (hc : a0 = 1 ∨ a0 = 2) (hp : k + 5 ≤ s.size) (e4 : ∀ h : 0 < (s.extract 4 (k + 5)).size, (((s.extract 4 (k + 5))[0]'h).toNat : Int) = (q : Int)) (hq : q ≤ 255) (hkq : k < q) : GetS s 0 0 (B []) (B []) 600 w := by
  unfold GetS
  obtain ⟨h, e0, e1, e2, e3, b0, b1, b2, b3, c0, c1, c2, c3, hm0, _⟩ := H
  have h0 : 0 < s.size := by omega
  have h1 : 1 < s.size := by omega
  have h2 : 2 < s.size := by omega
  have h3 : 3 < s.size := by omega
  have hm : Go.bits .or .i64 (a2 * 256) a3 = (k : Int) + 5 := by rw [hm0]; omega
  clear hm0
  have hs1 : k + 5 ≤ s.size := hp
  have hs2 : decide (s.size < k + 5) = false := decide_eq_false (by omega)
  have hs3 : min (k + 5) s.size = k + 5 := by omega
  have hs4 : decide ((k : Int) + 5 < 4) = false := decide_eq_false (by omega)
  have hne : (s.extract 4 (k + 5)).toList.isEmpty = false := ext_ne _ _ (by omega) hp
  have hk : 0 < k + 1 := by omega
  have hq0 : ((q : Int) == 0) = false := by simp; omega
  have hq1 : (k : Int) < q := by omega
  rcases hc with rfl | rfl
  · go_enter Try.func20, Try.ntmps20
    go_wp2
    go_region
    go_wp2
    go_quiet (fail)
    go_wp2
    refine bodyPost_ret (v := .tuple #[.agg #[.int .i64 0, .int .i64 0, .string ⟨#[]⟩, .string ⟨#[]⟩], .int .i64 600]) (by simp [results, Try.results20, go_sem]) rfl ⟨rfl, ?_⟩
    repeat (with_reducible first | exact Below.refl _ _ | apply be_alloc | apply be_drewN | apply be_drew | refine be_set ?_ (by omega))
  · go_enter Try.func20, Try.ntmps20
    go_wp2
    go_region
    go_wp2
    go_quiet (fail)
    go_wp2
    refine bodyPost_ret (v := .tuple #[.agg #[.int .i64 0, .int .i64 0, .string ⟨#[]⟩, .string ⟨#[]⟩], .int .i64 600]) (by simp [results, Try.results20, go_sem]) rfl ⟨rfl, ?_⟩
    repeat (with_reducible first | exact Below.refl _ _ | apply be_alloc | apply be_drewN | apply be_drew | refine be_set ?_ (by omega))
set_option maxHeartbeats 1000000 in
set_option maxRecDepth 100000 in
theorem get_val_long {s : ByteArray} {a0 a1 a2 a3 : Int} {q j : Nat} (w : World) (H : Hd s a0 a1 a2 a3 (q + j + 5)) (hc : a0 = 1 ∨ a0 = 2) (hp : q + j + 5 ≤ s.size) (e4 : ∀ h : 0 < (s.extract 4 (q + j + 5)).size, (((s.extract 4 (q + j + 5))[0]'h).toNat : Int) = (q : Int)) (hq : q ≤ 255) (hqp : 1 ≤ q) (hn : 253 < (j : Int)) : GetS s 0 0 (B []) (B []) 601 w := by
  unfold GetS
  obtain ⟨h, e0, e1, e2, e3, b0, b1, b2, b3, c0, c1, c2, c3, hm0, _⟩ := H
  have h0 : 0 < s.size := by omega
  have h1 : 1 < s.size := by omega
  have h2 : 2 < s.size := by omega
  have h3 : 3 < s.size := by omega
  have hm : Go.bits .or .i64 (a2 * 256) a3 = (q : Int) + (j : Int) + 5 := by rw [hm0]; omega
  clear hm0
  have hs1 : q + j + 5 ≤ s.size := hp
  have hs2 : decide (s.size < q + j + 5) = false := decide_eq_false (by omega)
  have hs3 : min (q + j + 5) s.size = q + j + 5 := by omega
  have hs4 : decide ((q : Int) + (j : Int) + 5 < 4) = false := decide_eq_false (by omega)
  have hne : (s.extract 4 (q + j + 5)).toList.isEmpty = false := ext_ne _ _ (by omega) hp
  have hk : 0 < q + j + 1 := by omega
  have hq0 : ((q : Int) == 0) = false := by simp; omega
  have hq2 : decide (q + j < q) = false := decide_eq_false (by omega)
  have hq3 : decide ((q : Int) + j < q) = false := decide_eq_false (by omega)
  have hq1 : (q : Int) ≤ 255 := by omega
  have hq4 : 1 + q ≤ q + j + 1 := by omega
  have hq5 : min (q + j + 1) (q + j + 1) = q + j + 1 := by omega
  have hq6 : q + j + 1 - (1 + q) = j := by omega
  rcases hc with rfl | rfl
  · go_enter Try.func20, Try.ntmps20
    go_wp2
    go_region
    go_wp2
    go_quiet (fail)
    go_wp2
    go_region
    go_wp2
    refine bodyPost_ret (v := .tuple #[.agg #[.int .i64 0, .int .i64 0, .string ⟨#[]⟩, .string ⟨#[]⟩], .int .i64 601]) (by simp [results, Try.results20, go_sem]) rfl ⟨rfl, ?_⟩
    repeat (with_reducible first | exact Below.refl _ _ | apply be_alloc | apply be_drewN | apply be_drew | refine be_set ?_ (by omega))
  · go_enter Try.func20, Try.ntmps20
    go_wp2
    go_region
    go_wp2
    go_quiet (fail)
    go_wp2
    go_region
    go_wp2
    refine bodyPost_ret (v := .tuple #[.agg #[.int .i64 0, .int .i64 0, .string ⟨#[]⟩, .string ⟨#[]⟩], .int .i64 601]) (by simp [results, Try.results20, go_sem]) rfl ⟨rfl, ?_⟩
    repeat (with_reducible first | exact Below.refl _ _ | apply be_alloc | apply be_drewN | apply be_drew | refine be_set ?_ (by omega))
set_option maxHeartbeats 1000000 in
set_option maxRecDepth 100000 in
theorem get_val {s : ByteArray} {a0 a1 a2 a3 : Int} {q j : Nat} (w : World) (H : Hd s a0 a1 a2 a3 (q + j + 5)) (hc : a0 = 1 ∨ a0 = 2) (hp : q + j + 5 ≤ s.size) (e4 : ∀ h : 0 < (s.extract 4 (q + j + 5)).size, (((s.extract 4 (q + j + 5))[0]'h).toNat : Int) = (q : Int)) (hq : q ≤ 255) (hqp : 1 ≤ q) (hn : (j : Int) ≤ 253) : GetS s a0 a1 ((s.extract 4 (q + j + 5)).extract 1 (1 + q)) ((s.extract 4 (q + j + 5)).extract (1 + q) (q + j + 1)) 0 w := by
  unfold GetS
  obtain ⟨h, e0, e1, e2, e3, b0, b1, b2, b3, c0, c1, c2, c3, hm0, _⟩ := H
  have h0 : 0 < s.size := by omega
  have h1 : 1 < s.size := by omega
  have h2 : 2 < s.size := by omega
  have h3 : 3 < s.size := by omega
  have hm : Go.bits .or .i64 (a2 * 256) a3 = (q : Int) + (j : Int) + 5 := by rw [hm0]; omega
  clear hm0
  have hs1 : q + j + 5 ≤ s.size := hp
  have hs2 : decide (s.size < q + j + 5) = false := decide_eq_false (by omega)
  have hs3 : min (q + j + 5) s.size = q + j + 5 := by omega
  have hs4 : decide ((q : Int) + (j : Int) + 5 < 4) = false := decide_eq_false (by omega)
  have hne : (s.extract 4 (q + j + 5)).toList.isEmpty = false := ext_ne _ _ (by omega) hp
  have hk : 0 < q + j + 1 := by omega
  have hq0 : ((q : Int) == 0) = false := by simp; omega
  have hq2 : decide (q + j < q) = false := decide_eq_false (by omega)
  have hq3 : decide ((q : Int) + j < q) = false := decide_eq_false (by omega)
  have hq1 : (q : Int) ≤ 255 := by omega
  have hq4 : 1 + q ≤ q + j + 1 := by omega
  have hq5 : min (q + j + 1) (q + j + 1) = q + j + 1 := by omega
  have hq6 : q + j + 1 - (1 + q) = j := by omega
  rcases hc with rfl | rfl
  · go_enter Try.func20, Try.ntmps20
    go_wp2
    go_region
    go_wp2
    go_quiet (fail)
    go_wp2
    go_region
    go_wp2
    refine bodyPost_ret (v := .tuple #[.agg #[.int .i64 1, .int .i64 a1, .string ((s.extract 4 (q + j + 5)).extract 1 (1 + q)), .string ((s.extract 4 (q + j + 5)).extract (1 + q) (q + j + 1))], .int .i64 0]) (by simp [results, Try.results20, go_sem]) rfl ⟨rfl, ?_⟩
    repeat (with_reducible first | exact Below.refl _ _ | apply be_alloc | apply be_drewN | apply be_drew | refine be_set ?_ (by omega))
  · go_enter Try.func20, Try.ntmps20
    go_wp2
    go_region
    go_wp2
    go_quiet (fail)
    go_wp2
    go_region
    go_wp2
    refine bodyPost_ret (v := .tuple #[.agg #[.int .i64 2, .int .i64 a1, .string ((s.extract 4 (q + j + 5)).extract 1 (1 + q)), .string ((s.extract 4 (q + j + 5)).extract (1 + q) (q + j + 1))], .int .i64 0]) (by simp [results, Try.results20, go_sem]) rfl ⟨rfl, ?_⟩
    repeat (with_reducible first | exact Below.refl _ _ | apply be_alloc | apply be_drewN | apply be_drew | refine be_set ?_ (by omega))
end Go.Proofs.Ytoldjadadgokeaa.Ch6
