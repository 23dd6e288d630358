/- What digest.mix, digest.turns and bits.RotateLeft32 answer. Conditions: the round is one of 64, the roll one of 1 to 31. -/
import Derived.Test.YtoldjadadgokeaaProg
import Derived.Test.YtoldjadadgokeaaMd
import Derived.Below
import Derived.WalkKit
import Derived.WalkLawsBesides
import Derived.WalkSpells
namespace Go.Proofs.Ytoldjadadgokeaa.Md
open Go.RowKit Go.Proofs.Ytoldjadadgokeaa.Bytes

set_option maxHeartbeats 400000 in
set_option maxRecDepth 100000 in
theorem mix_calls (i : Nat) (b c d : UInt32) (w : World) (hi : i < 64) :
    Calls Try.prog 58 #[.int .i64 i, .int .u32 b.toNat, .int .u32 c.toNat, .int .u32 d.toNat] w fun e w' => e = .returned (.tuple #[.int .u32 (fOf (i / 16) b c d).toNat, .int .i64 (gOf i)]) ∧ w' = w := by
  have m1 : Go.bits .xor .u32 IntKind.u32.max (b.toNat : Int) = ((~~~b).toNat : Int) := not_u b
  have m2 : Go.bits .xor .u32 IntKind.u32.max (d.toNat : Int) = ((~~~d).toNat : Int) := not_u d
  obtain ⟨nb, hnb⟩ : ∃ nb, nb = ~~~b := ⟨_, rfl⟩
  obtain ⟨nd, hnd⟩ : ∃ nd, nd = ~~~d := ⟨_, rfl⟩
  have n1 : Go.bits .xor .u32 IntKind.u32.max (b.toNat : Int) = (nb.toNat : Int) := by rw [hnb]; exact m1
  have n2 : Go.bits .xor .u32 IntKind.u32.max (d.toNat : Int) = (nd.toNat : Int) := by rw [hnd]; exact m2
  clear m1 m2
  have hi' : (i : Int) < 64 := by omega
  have hq : i / 16 = 0 ∨ i / 16 = 1 ∨ i / 16 = 2 ∨ i / 16 = 3 := by omega
  rcases hq with hq | hq | hq | hq
  · have hg : gOf i = i := by unfold gOf; rw [hq]; rfl
    rw [hq, hg]
    have hq' : (i : Int) / 16 = 0 := by omega
    clear hq hg
    have v1 : Go.bits .or .u32 (Go.bits .and .u32 (b.toNat : Int) c.toNat) (Go.bits .and .u32 nb.toNat d.toNat) = ((fOf 0 b c d).toNat : Int) := by rw [and_u, and_u, or_u, hnb]; rfl
    clear hnb hnd n2
    go_enter Try.func58, Try.ntmps58
    go_wp2
    go_ret2
    exact ⟨rfl, rfl⟩
  · have hg : (gOf i : Int) = (5 * (i : Int) + 1) % 16 := by unfold gOf; rw [hq]; show (((5 * i + 1) % 16 : Nat) : Int) = _; omega
    rw [hq, hg]
    have hq' : (i : Int) / 16 = 1 := by omega
    clear hq hg
    have v1 : Go.bits .or .u32 (Go.bits .and .u32 (d.toNat : Int) b.toNat) (Go.bits .and .u32 nd.toNat c.toNat) = ((fOf 1 b c d).toNat : Int) := by rw [and_u, and_u, or_u, hnd]; rfl
    clear hnb hnd n1
    go_enter Try.func58, Try.ntmps58
    go_wp2
    go_ret2
    exact ⟨rfl, rfl⟩
  · have hg : (gOf i : Int) = (3 * (i : Int) + 5) % 16 := by unfold gOf; rw [hq]; show (((3 * i + 5) % 16 : Nat) : Int) = _; omega
    rw [hq, hg]
    have hq' : (i : Int) / 16 = 2 := by omega
    clear hq hg
    have v1 : Go.bits .xor .u32 (Go.bits .xor .u32 (b.toNat : Int) c.toNat) (d.toNat : Int) = ((fOf 2 b c d).toNat : Int) := by rw [xor_u, xor_u]; rfl
    clear hnb hnd n1 n2
    go_enter Try.func58, Try.ntmps58
    go_wp2
    go_ret2
    exact ⟨rfl, rfl⟩
  · have hg : (gOf i : Int) = (7 * (i : Int)) % 16 := by unfold gOf; rw [hq]; show ((7 * i % 16 : Nat) : Int) = _; omega
    rw [hq, hg]
    have hq' : (i : Int) / 16 = 3 := by omega
    clear hq hg
    have v1 : Go.bits .xor .u32 (c.toNat : Int) (Go.bits .or .u32 (b.toNat : Int) nd.toNat) = ((fOf 3 b c d).toNat : Int) := by rw [or_u, xor_u, hnd]; rfl
    clear hnb hnd n1
    go_enter Try.func58, Try.ntmps58
    go_wp2
    go_ret2
    exact ⟨rfl, rfl⟩

theorem tOf_bd (i : Nat) (hi : i < 64) : 1 ≤ tOf i ∧ tOf i ≤ 31 := by
  have : ∀ j, j < 64 → 1 ≤ tOf j ∧ tOf j ≤ 31 := by decide
  exact this i hi

set_option maxHeartbeats 400000 in
theorem rot_calls (x : UInt32) (t : Nat) (w : World) (h1 : 1 ≤ t) (h2 : t ≤ 31) :
    Calls Try.prog 59 #[.int .u32 x.toNat, .int .i64 t] w fun e w' => e = .returned (.int .u32 (rotl x t).toNat) ∧ w' = w := by
  have a1 : Go.bits .and .u64 (t : Int) 31 = (t : Int) := by
    have := Go.bits_mask .u64 16 (by decide) (fun n h0 h1 => by simp [IntKind.wrap, IntKind.bits, IntKind.signed]; omega) 5 (by decide) t (by omega) (by omega)
    have e : ((2 : Int) ^ 5 - 1) = 31 := by decide
    rw [e] at this
    rw [this]; omega
  obtain ⟨l, hl⟩ : ∃ l, l = x <<< UInt32.ofNat t := ⟨_, rfl⟩
  obtain ⟨r, hr⟩ : ∃ r, r = x >>> UInt32.ofNat (32 - t) := ⟨_, rfl⟩
  have hmin : min t 32 = t := Nat.min_eq_left (by omega)
  have hmin2 : min (32 - t) 32 = 32 - t := Nat.min_eq_left (by omega)
  have a2 : IntKind.u32.wrap ((x.toNat : Int) * 2 ^ t) = (l.toNat : Int) := by rw [hl]; exact shl_u x t (by omega)
  have a3 : (x.toNat : Int) / 2 ^ (32 - t) = (r.toNat : Int) := by rw [hr]; exact shr_u x (32 - t) (by omega)
  have a4 : ((32 : Int) - t).toNat = 32 - t := by omega
  have a5 : Go.bits .or .u32 (l.toNat : Int) (r.toNat : Int) = ((rotl x t).toNat : Int) := by rw [or_u, hl, hr]; rfl
  have h1' : (1 : Int) ≤ t := by omega
  have h2' : (t : Int) ≤ 31 := by omega
  clear hl hr
  go_enter Try.func59, Try.ntmps59
  go_wp2
  go_ret
  exact ⟨rfl, rfl⟩

set_option maxHeartbeats 400000 in
set_option maxRecDepth 100000 in
theorem turns_0 (i : Nat) (w : World) (hi : i < 64) (hq : i / 16 = 0) :
    Calls Try.prog 60 #[.int .i64 i] w fun e w' => e = .returned (.int .i64 (tOf i)) ∧ w' = w := by
  have hi' : (i : Int) < 64 := by omega
  have g1 : (i : Int) / 16 = 0 := by omega
  have x1 : ∀ w, (Instr.index 102 (.agg #[.int .i64 7, .int .i64 12, .int .i64 17, .int .i64 22, .int .i64 5, .int .i64 9, .int .i64 14, .int .i64 20, .int .i64 4, .int .i64 11, .int .i64 16, .int .i64 23, .int .i64 6, .int .i64 10, .int .i64 15, .int .i64 21]) (.int .i64 0)).run Try.prog w = .ok (.agg #[.int .i64 7, .int .i64 12, .int .i64 17, .int .i64 22]) w := fun _ => by kernel_rfl
  have hr : i % 4 = 0 ∨ i % 4 = 1 ∨ i % 4 = 2 ∨ i % 4 = 3 := by omega
  rcases hr with hr | hr | hr | hr
  · have ht : tOf i = 7 := by unfold tOf; rw [hq, hr]; rfl
    rw [ht]
    have g2 : (i : Int) % 4 = 0 := by omega
    clear hq hr ht
    have x2 : ∀ w, (Instr.index 101 (.agg #[.int .i64 7, .int .i64 12, .int .i64 17, .int .i64 22]) (.int .i64 0)).run Try.prog w = .ok (.int .i64 7) w := fun _ => by kernel_rfl
    go_enter Try.func60, Try.ntmps60
    go_wp2
    go_ret
    exact ⟨rfl, rfl⟩
  · have ht : tOf i = 12 := by unfold tOf; rw [hq, hr]; rfl
    rw [ht]
    have g2 : (i : Int) % 4 = 1 := by omega
    clear hq hr ht
    have x2 : ∀ w, (Instr.index 101 (.agg #[.int .i64 7, .int .i64 12, .int .i64 17, .int .i64 22]) (.int .i64 1)).run Try.prog w = .ok (.int .i64 12) w := fun _ => by kernel_rfl
    go_enter Try.func60, Try.ntmps60
    go_wp2
    go_ret
    exact ⟨rfl, rfl⟩
  · have ht : tOf i = 17 := by unfold tOf; rw [hq, hr]; rfl
    rw [ht]
    have g2 : (i : Int) % 4 = 2 := by omega
    clear hq hr ht
    have x2 : ∀ w, (Instr.index 101 (.agg #[.int .i64 7, .int .i64 12, .int .i64 17, .int .i64 22]) (.int .i64 2)).run Try.prog w = .ok (.int .i64 17) w := fun _ => by kernel_rfl
    go_enter Try.func60, Try.ntmps60
    go_wp2
    go_ret
    exact ⟨rfl, rfl⟩
  · have ht : tOf i = 22 := by unfold tOf; rw [hq, hr]; rfl
    rw [ht]
    have g2 : (i : Int) % 4 = 3 := by omega
    clear hq hr ht
    have x2 : ∀ w, (Instr.index 101 (.agg #[.int .i64 7, .int .i64 12, .int .i64 17, .int .i64 22]) (.int .i64 3)).run Try.prog w = .ok (.int .i64 22) w := fun _ => by kernel_rfl
    go_enter Try.func60, Try.ntmps60
    go_wp2
    go_ret
    exact ⟨rfl, rfl⟩
set_option maxHeartbeats 400000 in
set_option maxRecDepth 100000 in
theorem turns_1 (i : Nat) (w : World) (hi : i < 64) (hq : i / 16 = 1) :
    Calls Try.prog 60 #[.int .i64 i] w fun e w' => e = .returned (.int .i64 (tOf i)) ∧ w' = w := by
  have hi' : (i : Int) < 64 := by omega
  have g1 : (i : Int) / 16 = 1 := by omega
  have x1 : ∀ w, (Instr.index 102 (.agg #[.int .i64 7, .int .i64 12, .int .i64 17, .int .i64 22, .int .i64 5, .int .i64 9, .int .i64 14, .int .i64 20, .int .i64 4, .int .i64 11, .int .i64 16, .int .i64 23, .int .i64 6, .int .i64 10, .int .i64 15, .int .i64 21]) (.int .i64 1)).run Try.prog w = .ok (.agg #[.int .i64 5, .int .i64 9, .int .i64 14, .int .i64 20]) w := fun _ => by kernel_rfl
  have hr : i % 4 = 0 ∨ i % 4 = 1 ∨ i % 4 = 2 ∨ i % 4 = 3 := by omega
  rcases hr with hr | hr | hr | hr
  · have ht : tOf i = 5 := by unfold tOf; rw [hq, hr]; rfl
    rw [ht]
    have g2 : (i : Int) % 4 = 0 := by omega
    clear hq hr ht
    have x2 : ∀ w, (Instr.index 101 (.agg #[.int .i64 5, .int .i64 9, .int .i64 14, .int .i64 20]) (.int .i64 0)).run Try.prog w = .ok (.int .i64 5) w := fun _ => by kernel_rfl
    go_enter Try.func60, Try.ntmps60
    go_wp2
    go_ret
    exact ⟨rfl, rfl⟩
  · have ht : tOf i = 9 := by unfold tOf; rw [hq, hr]; rfl
    rw [ht]
    have g2 : (i : Int) % 4 = 1 := by omega
    clear hq hr ht
    have x2 : ∀ w, (Instr.index 101 (.agg #[.int .i64 5, .int .i64 9, .int .i64 14, .int .i64 20]) (.int .i64 1)).run Try.prog w = .ok (.int .i64 9) w := fun _ => by kernel_rfl
    go_enter Try.func60, Try.ntmps60
    go_wp2
    go_ret
    exact ⟨rfl, rfl⟩
  · have ht : tOf i = 14 := by unfold tOf; rw [hq, hr]; rfl
    rw [ht]
    have g2 : (i : Int) % 4 = 2 := by omega
    clear hq hr ht
    have x2 : ∀ w, (Instr.index 101 (.agg #[.int .i64 5, .int .i64 9, .int .i64 14, .int .i64 20]) (.int .i64 2)).run Try.prog w = .ok (.int .i64 14) w := fun _ => by kernel_rfl
    go_enter Try.func60, Try.ntmps60
    go_wp2
    go_ret
    exact ⟨rfl, rfl⟩
  · have ht : tOf i = 20 := by unfold tOf; rw [hq, hr]; rfl
    rw [ht]
    have g2 : (i : Int) % 4 = 3 := by omega
    clear hq hr ht
    have x2 : ∀ w, (Instr.index 101 (.agg #[.int .i64 5, .int .i64 9, .int .i64 14, .int .i64 20]) (.int .i64 3)).run Try.prog w = .ok (.int .i64 20) w := fun _ => by kernel_rfl
    go_enter Try.func60, Try.ntmps60
    go_wp2
    go_ret
    exact ⟨rfl, rfl⟩
set_option maxHeartbeats 400000 in
set_option maxRecDepth 100000 in
theorem turns_2 (i : Nat) (w : World) (hi : i < 64) (hq : i / 16 = 2) :
    Calls Try.prog 60 #[.int .i64 i] w fun e w' => e = .returned (.int .i64 (tOf i)) ∧ w' = w := by
  have hi' : (i : Int) < 64 := by omega
  have g1 : (i : Int) / 16 = 2 := by omega
  have x1 : ∀ w, (Instr.index 102 (.agg #[.int .i64 7, .int .i64 12, .int .i64 17, .int .i64 22, .int .i64 5, .int .i64 9, .int .i64 14, .int .i64 20, .int .i64 4, .int .i64 11, .int .i64 16, .int .i64 23, .int .i64 6, .int .i64 10, .int .i64 15, .int .i64 21]) (.int .i64 2)).run Try.prog w = .ok (.agg #[.int .i64 4, .int .i64 11, .int .i64 16, .int .i64 23]) w := fun _ => by kernel_rfl
  have hr : i % 4 = 0 ∨ i % 4 = 1 ∨ i % 4 = 2 ∨ i % 4 = 3 := by omega
  rcases hr with hr | hr | hr | hr
  · have ht : tOf i = 4 := by unfold tOf; rw [hq, hr]; rfl
    rw [ht]
    have g2 : (i : Int) % 4 = 0 := by omega
    clear hq hr ht
    have x2 : ∀ w, (Instr.index 101 (.agg #[.int .i64 4, .int .i64 11, .int .i64 16, .int .i64 23]) (.int .i64 0)).run Try.prog w = .ok (.int .i64 4) w := fun _ => by kernel_rfl
    go_enter Try.func60, Try.ntmps60
    go_wp2
    go_ret
    exact ⟨rfl, rfl⟩
  · have ht : tOf i = 11 := by unfold tOf; rw [hq, hr]; rfl
    rw [ht]
    have g2 : (i : Int) % 4 = 1 := by omega
    clear hq hr ht
    have x2 : ∀ w, (Instr.index 101 (.agg #[.int .i64 4, .int .i64 11, .int .i64 16, .int .i64 23]) (.int .i64 1)).run Try.prog w = .ok (.int .i64 11) w := fun _ => by kernel_rfl
    go_enter Try.func60, Try.ntmps60
    go_wp2
    go_ret
    exact ⟨rfl, rfl⟩
  · have ht : tOf i = 16 := by unfold tOf; rw [hq, hr]; rfl
    rw [ht]
    have g2 : (i : Int) % 4 = 2 := by omega
    clear hq hr ht
    have x2 : ∀ w, (Instr.index 101 (.agg #[.int .i64 4, .int .i64 11, .int .i64 16, .int .i64 23]) (.int .i64 2)).run Try.prog w = .ok (.int .i64 16) w := fun _ => by kernel_rfl
    go_enter Try.func60, Try.ntmps60
    go_wp2
    go_ret
    exact ⟨rfl, rfl⟩
  · have ht : tOf i = 23 := by unfold tOf; rw [hq, hr]; rfl
    rw [ht]
    have g2 : (i : Int) % 4 = 3 := by omega
    clear hq hr ht
    have x2 : ∀ w, (Instr.index 101 (.agg #[.int .i64 4, .int .i64 11, .int .i64 16, .int .i64 23]) (.int .i64 3)).run Try.prog w = .ok (.int .i64 23) w := fun _ => by kernel_rfl
    go_enter Try.func60, Try.ntmps60
    go_wp2
    go_ret
    exact ⟨rfl, rfl⟩
set_option maxHeartbeats 400000 in
set_option maxRecDepth 100000 in
theorem turns_3 (i : Nat) (w : World) (hi : i < 64) (hq : i / 16 = 3) :
    Calls Try.prog 60 #[.int .i64 i] w fun e w' => e = .returned (.int .i64 (tOf i)) ∧ w' = w := by
  have hi' : (i : Int) < 64 := by omega
  have g1 : (i : Int) / 16 = 3 := by omega
  have x1 : ∀ w, (Instr.index 102 (.agg #[.int .i64 7, .int .i64 12, .int .i64 17, .int .i64 22, .int .i64 5, .int .i64 9, .int .i64 14, .int .i64 20, .int .i64 4, .int .i64 11, .int .i64 16, .int .i64 23, .int .i64 6, .int .i64 10, .int .i64 15, .int .i64 21]) (.int .i64 3)).run Try.prog w = .ok (.agg #[.int .i64 6, .int .i64 10, .int .i64 15, .int .i64 21]) w := fun _ => by kernel_rfl
  have hr : i % 4 = 0 ∨ i % 4 = 1 ∨ i % 4 = 2 ∨ i % 4 = 3 := by omega
  rcases hr with hr | hr | hr | hr
  · have ht : tOf i = 6 := by unfold tOf; rw [hq, hr]; rfl
    rw [ht]
    have g2 : (i : Int) % 4 = 0 := by omega
    clear hq hr ht
    have x2 : ∀ w, (Instr.index 101 (.agg #[.int .i64 6, .int .i64 10, .int .i64 15, .int .i64 21]) (.int .i64 0)).run Try.prog w = .ok (.int .i64 6) w := fun _ => by kernel_rfl
    go_enter Try.func60, Try.ntmps60
    go_wp2
    go_ret
    exact ⟨rfl, rfl⟩
  · have ht : tOf i = 10 := by unfold tOf; rw [hq, hr]; rfl
    rw [ht]
    have g2 : (i : Int) % 4 = 1 := by omega
    clear hq hr ht
    have x2 : ∀ w, (Instr.index 101 (.agg #[.int .i64 6, .int .i64 10, .int .i64 15, .int .i64 21]) (.int .i64 1)).run Try.prog w = .ok (.int .i64 10) w := fun _ => by kernel_rfl
    go_enter Try.func60, Try.ntmps60
    go_wp2
    go_ret
    exact ⟨rfl, rfl⟩
  · have ht : tOf i = 15 := by unfold tOf; rw [hq, hr]; rfl
    rw [ht]
    have g2 : (i : Int) % 4 = 2 := by omega
    clear hq hr ht
    have x2 : ∀ w, (Instr.index 101 (.agg #[.int .i64 6, .int .i64 10, .int .i64 15, .int .i64 21]) (.int .i64 2)).run Try.prog w = .ok (.int .i64 15) w := fun _ => by kernel_rfl
    go_enter Try.func60, Try.ntmps60
    go_wp2
    go_ret
    exact ⟨rfl, rfl⟩
  · have ht : tOf i = 21 := by unfold tOf; rw [hq, hr]; rfl
    rw [ht]
    have g2 : (i : Int) % 4 = 3 := by omega
    clear hq hr ht
    have x2 : ∀ w, (Instr.index 101 (.agg #[.int .i64 6, .int .i64 10, .int .i64 15, .int .i64 21]) (.int .i64 3)).run Try.prog w = .ok (.int .i64 21) w := fun _ => by kernel_rfl
    go_enter Try.func60, Try.ntmps60
    go_wp2
    go_ret
    exact ⟨rfl, rfl⟩
theorem turns_calls (i : Nat) (w : World) (hi : i < 64) :
    Calls Try.prog 60 #[.int .i64 i] w fun e w' => e = .returned (.int .i64 (tOf i)) ∧ w' = w := by
  have hq : i / 16 = 0 ∨ i / 16 = 1 ∨ i / 16 = 2 ∨ i / 16 = 3 := by omega
  rcases hq with hq | hq | hq | hq
  · exact turns_0 i w hi hq
  · exact turns_1 i w hi hq
  · exact turns_2 i w hi hq
  · exact turns_3 i w hi hq
end Go.Proofs.Ytoldjadadgokeaa.Md
