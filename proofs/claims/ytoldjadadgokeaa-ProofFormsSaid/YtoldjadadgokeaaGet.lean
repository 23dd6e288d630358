/- What chapmsg.Get answers, for every string. No condition. -/
import Derived.Test.YtoldjadadgokeaaProg
import Derived.Test.YtoldjadadgokeaaB
import Derived.Below
import Derived.WalkKit
import Derived.WalkLawsBesides
import Derived.WalkSpells
import Derived.RegionTactic
import Derived.ChangeAlike
import Derived.BigRegion
import Derived.Deep.QuietTactic
import Derived.BigQuiet
import Derived.Outline
namespace Go.Proofs.Ytoldjadadgokeaa.Ch6
open Go.RowKit Go.Proofs.Ytoldjadadgokeaa.Bytes

/-- A call of Get answers this, and writes nothing that was there. -/
def GetS (s : ByteArray) (c id : Int) (v n : ByteArray) (e : Int) (w : World) : Prop :=
  Calls Try.prog 20 #[.string s] w fun e' w' => e' = .returned (.tuple #[.agg #[.int .i64 c, .int .i64 id, .string v, .string n], .int .i64 e]) ∧ Below w.heap.size w w'

/-- The first four bytes of a string, and the length that they tell. -/
structure Hd (s : ByteArray) (a0 a1 a2 a3 : Int) (m : Nat) : Prop where
  h : 4 ≤ s.size
  e0 : ∀ h : 0 < s.size, ((s[0]'h).toNat : Int) = a0
  e1 : ∀ h : 1 < s.size, ((s[1]'h).toNat : Int) = a1
  e2 : ∀ h : 2 < s.size, ((s[2]'h).toNat : Int) = a2
  e3 : ∀ h : 3 < s.size, ((s[3]'h).toNat : Int) = a3
  b0 : 0 ≤ a0
  b1 : 0 ≤ a1
  b2 : 0 ≤ a2
  b3 : 0 ≤ a3
  c0 : a0 ≤ 255
  c1 : a1 ≤ 255
  c2 : a2 ≤ 255
  c3 : a3 ≤ 255
  hm : Go.bits .or .i64 (a2 * 256) a3 = (m : Int)
  ml : m ≤ 65535

set_option maxHeartbeats 400000 in
set_option maxRecDepth 100000 in
theorem get_short (s : ByteArray) (w : World) (h : (s.size : Int) < 4) : GetS s 0 0 (B []) (B []) 600 w := by
  unfold GetS
  go_enter Try.func20, Try.ntmps20
  go_wp2
  refine bodyPost_ret (v := .tuple #[.agg #[.int .i64 0, .int .i64 0, .string (B []), .string (B [])], .int .i64 600]) (by simp [results, Try.results20, go_sem]; rfl) rfl ⟨rfl, ?_⟩
  exact ((Below.refl _ _).alloc (Nat.le_refl _) _)
set_option maxHeartbeats 400000 in
set_option maxRecDepth 100000 in
theorem get_code0 {s : ByteArray} {a0 a1 a2 a3 : Int} {m : Nat} (w : World) (H : Hd s a0 a1 a2 a3 m) (hc : a0 < 1) : GetS s 0 0 (B []) (B []) 600 w := by
  unfold GetS
  obtain ⟨h, e0, e1, e2, e3, b0, b1, b2, b3, c0, c1, c2, c3, hm, ml⟩ := H
  have h0 : 0 < s.size := by omega
  have h1 : 1 < s.size := by omega
  have h2 : 2 < s.size := by omega
  have h3 : 3 < s.size := by omega
  go_enter Try.func20, Try.ntmps20
  go_wp2
  go_region
  go_wp2
  go_quiet (fail)
  go_wp2
  all_goals
    refine bodyPost_ret (v := .tuple #[.agg #[.int .i64 0, .int .i64 0, .string (B []), .string (B [])], .int .i64 600]) (by simp [results, Try.results20, go_sem]; try rfl) rfl ⟨rfl, ?_⟩
    repeat (with_reducible first | exact Below.refl _ _ | apply be_alloc | apply be_drewN | apply be_drew | refine be_set ?_ (by omega))
set_option maxHeartbeats 400000 in
set_option maxRecDepth 100000 in
theorem get_code5 {s : ByteArray} {a0 a1 a2 a3 : Int} {m : Nat} (w : World) (H : Hd s a0 a1 a2 a3 m) (hc : 4 < a0) : GetS s 0 0 (B []) (B []) 600 w := by
  unfold GetS
  obtain ⟨h, e0, e1, e2, e3, b0, b1, b2, b3, c0, c1, c2, c3, hm, ml⟩ := H
  have h0 : 0 < s.size := by omega
  have h1 : 1 < s.size := by omega
  have h2 : 2 < s.size := by omega
  have h3 : 3 < s.size := by omega
  have hc' : ¬ a0 < 1 := by omega
  go_enter Try.func20, Try.ntmps20
  go_wp2
  go_region
  go_wp2
  go_quiet (fail)
  go_wp2
  all_goals
    refine bodyPost_ret (v := .tuple #[.agg #[.int .i64 0, .int .i64 0, .string (B []), .string (B [])], .int .i64 600]) (by simp [results, Try.results20, go_sem]; try rfl) rfl ⟨rfl, ?_⟩
    repeat (with_reducible first | exact Below.refl _ _ | apply be_alloc | apply be_drewN | apply be_drew | refine be_set ?_ (by omega))
set_option maxHeartbeats 400000 in
set_option maxRecDepth 100000 in
theorem get_low {s : ByteArray} {a0 a1 a2 a3 : Int} {m : Nat} (w : World) (H : Hd s a0 a1 a2 a3 m) (hc : 1 ≤ a0) (hc' : a0 ≤ 4) (hl : (m : Int) < 4) : GetS s 0 0 (B []) (B []) 600 w := by
  unfold GetS
  obtain ⟨h, e0, e1, e2, e3, b0, b1, b2, b3, c0, c1, c2, c3, hm, ml⟩ := H
  have h0 : 0 < s.size := by omega
  have h1 : 1 < s.size := by omega
  have h2 : 2 < s.size := by omega
  have h3 : 3 < s.size := by omega
  go_enter Try.func20, Try.ntmps20
  go_wp2
  go_region
  go_wp2
  go_quiet (fail)
  go_wp2
  all_goals
    refine bodyPost_ret (v := .tuple #[.agg #[.int .i64 0, .int .i64 0, .string (B []), .string (B [])], .int .i64 600]) (by simp [results, Try.results20, go_sem]; try rfl) rfl ⟨rfl, ?_⟩
    repeat (with_reducible first | exact Below.refl _ _ | apply be_alloc | apply be_drewN | apply be_drew | refine be_set ?_ (by omega))
set_option maxHeartbeats 400000 in
set_option maxRecDepth 100000 in
theorem get_past {s : ByteArray} {a0 a1 a2 a3 : Int} {m : Nat} (w : World) (H : Hd s a0 a1 a2 a3 m) (hc : 1 ≤ a0) (hc' : a0 ≤ 4) (hl : (4 : Int) ≤ m) (hp : (s.size : Int) < m) : GetS s 0 0 (B []) (B []) 600 w := by
  unfold GetS
  obtain ⟨h, e0, e1, e2, e3, b0, b1, b2, b3, c0, c1, c2, c3, hm, ml⟩ := H
  have h0 : 0 < s.size := by omega
  have h1 : 1 < s.size := by omega
  have h2 : 2 < s.size := by omega
  have h3 : 3 < s.size := by omega
  go_enter Try.func20, Try.ntmps20
  go_wp2
  go_region
  go_wp2
  go_quiet (fail)
  go_wp2
  all_goals
    refine bodyPost_ret (v := .tuple #[.agg #[.int .i64 0, .int .i64 0, .string (B []), .string (B [])], .int .i64 600]) (by simp [results, Try.results20, go_sem]; try rfl) rfl ⟨rfl, ?_⟩
    repeat (with_reducible first | exact Below.refl _ _ | apply be_alloc | apply be_drewN | apply be_drew | refine be_set ?_ (by omega))
end Go.Proofs.Ytoldjadadgokeaa.Ch6
