/- The blocks of a side's proof, the program's and the reference's, and the small functions on them: may, secretMay, ask, asks, Proved, Taken, Failed. No condition. -/
import Derived.Test.YtoldjadadgokeaaCd
import Derived.Test.YtoldjadadgokeaaAw
import Derived.Deep.RegionHeld3
import Derived.Deep.DrawnRows
namespace Go.Proofs.Ytoldjadadgokeaa.Ch16
open Go.RowKit Go.Proofs.Ytoldjadadgokeaa.Bytes Go.Proofs.Ytoldjadadgokeaa.Md

/-- The program's proof: expect, challenge, left, started, proved, name, secret, taken, failed. -/
def PB (w : World) (b : Nat) (ex ch nm sc : ByteArray) (lf : Int) (st pr tk fl : Bool) : Prop :=
  Blk w b (.cells #[.string ex, .string ch, .int .i64 lf, .bool st, .bool pr, .string nm, .string sc, .bool tk, .bool fl] 78 (0, 0))
/-- The reference's proof: Proved, Taken, Failed, name, secret, expect, challenge, left. -/
def RB (w : World) (b : Nat) (ex ch nm sc : ByteArray) (lf : Int) (pr tk fl : Bool) : Prop :=
  Blk w b (.cells #[.bool pr, .bool tk, .bool fl, .string nm, .string sc, .string ex, .string ch, .int .i64 lf] 58 (0, 0))
section
variable {w w' : World} {b : Nat} {ex ch nm sc : ByteArray} {lf : Int} {st pr tk fl : Bool}
theorem PB.cells (h : PB w b ex ch nm sc lf st pr tk fl) : w.cell? ⟨b, 0, none⟩ = some (.string ex) ∧ w.cell? ⟨b, 1, none⟩ = some (.string ch) ∧ w.cell? ⟨b, 2, none⟩ = some (.int .i64 lf) ∧ w.cell? ⟨b, 3, none⟩ = some (.bool st) ∧
    w.cell? ⟨b, 4, none⟩ = some (.bool pr) ∧ w.cell? ⟨b, 5, none⟩ = some (.string nm) ∧ w.cell? ⟨b, 6, none⟩ = some (.string sc) ∧ w.cell? ⟨b, 7, none⟩ = some (.bool tk) ∧ w.cell? ⟨b, 8, none⟩ = some (.bool fl) :=
  ⟨Blk.cell h 0, Blk.cell h 1, Blk.cell h 2, Blk.cell h 3, Blk.cell h 4, Blk.cell h 5, Blk.cell h 6, Blk.cell h 7, Blk.cell h 8⟩
theorem PB.free (h : PB w b ex ch nm sc lf st pr tk fl) : w.frozen? ⟨b, 0, none⟩ = false ∧ w.frozen? ⟨b, 1, none⟩ = false ∧ w.frozen? ⟨b, 2, none⟩ = false ∧ w.frozen? ⟨b, 3, none⟩ = false ∧
    w.frozen? ⟨b, 4, none⟩ = false ∧ w.frozen? ⟨b, 5, none⟩ = false ∧ w.frozen? ⟨b, 6, none⟩ = false ∧ w.frozen? ⟨b, 7, none⟩ = false ∧ w.frozen? ⟨b, 8, none⟩ = false :=
  ⟨Blk.frozen h 0, Blk.frozen h 1, Blk.frozen h 2, Blk.frozen h 3, Blk.frozen h 4, Blk.frozen h 5, Blk.frozen h 6, Blk.frozen h 7, Blk.frozen h 8⟩
theorem RB.cells (h : RB w b ex ch nm sc lf pr tk fl) : w.cell? ⟨b, 0, none⟩ = some (.bool pr) ∧ w.cell? ⟨b, 1, none⟩ = some (.bool tk) ∧ w.cell? ⟨b, 2, none⟩ = some (.bool fl) ∧ w.cell? ⟨b, 3, none⟩ = some (.string nm) ∧
    w.cell? ⟨b, 4, none⟩ = some (.string sc) ∧ w.cell? ⟨b, 5, none⟩ = some (.string ex) ∧ w.cell? ⟨b, 6, none⟩ = some (.string ch) ∧ w.cell? ⟨b, 7, none⟩ = some (.int .i64 lf) :=
  ⟨Blk.cell h 0, Blk.cell h 1, Blk.cell h 2, Blk.cell h 3, Blk.cell h 4, Blk.cell h 5, Blk.cell h 6, Blk.cell h 7⟩
theorem RB.free (h : RB w b ex ch nm sc lf pr tk fl) : w.frozen? ⟨b, 0, none⟩ = false ∧ w.frozen? ⟨b, 1, none⟩ = false ∧ w.frozen? ⟨b, 2, none⟩ = false ∧ w.frozen? ⟨b, 3, none⟩ = false ∧
    w.frozen? ⟨b, 4, none⟩ = false ∧ w.frozen? ⟨b, 5, none⟩ = false ∧ w.frozen? ⟨b, 6, none⟩ = false ∧ w.frozen? ⟨b, 7, none⟩ = false :=
  ⟨Blk.frozen h 0, Blk.frozen h 1, Blk.frozen h 2, Blk.frozen h 3, Blk.frozen h 4, Blk.frozen h 5, Blk.frozen h 6, Blk.frozen h 7⟩
end

/-- May a secret be: function f's answer. -/
def MayS (f : Nat) (s : ByteArray) (b : Bool) (w : World) : Prop := Calls Try.prog f #[.string s] w fun e w' => e = .returned (.bool b) ∧ w = w'
theorem MayS.use {f : Nat} {s : ByteArray} {b : Bool} {w : World} {Q : Ending → World → Prop} (h : MayS f s b w) (k : ∀ e' w', (e' = .returned (.bool b) ∧ w = w') → Q e' w') : Calls Try.prog f #[.string s] w Q := Calls.mono h k
theorem may_yes (s : ByteArray) (h1 : 1 ≤ (s.size : Int)) (h2 : (s.size : Int) ≤ 64) (w : World) : MayS 47 s true w ∧ MayS 48 s true w := by
  constructor
  · unfold MayS
    go_enter Try.func47, Try.ntmps47
    go_wp2
    go_ret
    exact ⟨rfl, rfl⟩
  · unfold MayS
    go_enter Try.func48, Try.ntmps48
    go_wp2
    go_ret
    exact ⟨rfl, rfl⟩
theorem may_no (s : ByteArray) (h : (s.size : Int) < 1 ∨ 64 < (s.size : Int)) (w : World) : MayS 47 s false w ∧ MayS 48 s false w := by
  rcases h with h | h
  · constructor
    · unfold MayS
      go_enter Try.func47, Try.ntmps47
      go_wp2
      go_ret
      exact ⟨rfl, rfl⟩
    · unfold MayS
      go_enter Try.func48, Try.ntmps48
      go_wp2
      go_ret
      exact ⟨rfl, rfl⟩
  · have h' : 1 ≤ (s.size : Int) := by omega
    have hd : decide ((s.size : Int) ≤ 64) = false := decide_eq_false (by omega)
    constructor
    · unfold MayS
      go_enter Try.func47, Try.ntmps47
      go_wp2
      go_ret
      exact ⟨rfl, rfl⟩
    · unfold MayS
      go_enter Try.func48, Try.ntmps48
      go_wp2
      go_ret
      exact ⟨rfl, rfl⟩

set_option maxRecDepth 100000 in
theorem ask_calls {b : Nat} {ex ch nm sc : ByteArray} {lf : Int} {st pr tk fl : Bool} {w : World} (h : PB w b ex ch nm sc lf st pr tk fl) :
    Calls Try.prog 49 #[.pointer (some ⟨b, 0, none⟩)] w fun e w' => e = .returned (.agg #[.int .i64 1, .int .i64 1, .string ch, .string nm]) ∧ Below w.heap.size w w' := by
  obtain ⟨c0, c1, c2, c3, c4, c5, c6, c7, c8⟩ := h.cells
  have hlt := Blk.lt h
  clear h
  go_enter Try.func49, Try.ntmps49
  go_wp2
  go_region
  all_goals
    go_wp2
    refine bodyPost_ret (v := .agg #[.int .i64 1, .int .i64 1, .string ch, .string nm]) (by simp [results, Try.results49, go_sem]) rfl ⟨rfl, ?_⟩
    repeat (with_reducible first | exact Below.refl _ _ | apply be_alloc | apply be_drewN | apply be_drew | refine be_set ?_ (by omega))
set_option maxRecDepth 100000 in
theorem asks_calls {b : Nat} {ex ch nm sc : ByteArray} {lf : Int} {pr tk fl : Bool} {w : World} (h : RB w b ex ch nm sc lf pr tk fl) :
    Calls Try.prog 50 #[.pointer (some ⟨b, 0, none⟩)] w fun e w' => e = .returned (.agg #[.int .i64 1, .int .i64 1, .string ch, .string nm]) ∧ Below w.heap.size w w' := by
  obtain ⟨c0, c1, c2, c3, c4, c5, c6, c7⟩ := h.cells
  have hlt := Blk.lt h
  clear h
  go_enter Try.func50, Try.ntmps50
  go_wp2
  go_region
  all_goals
    go_wp2
    refine bodyPost_ret (v := .agg #[.int .i64 1, .int .i64 1, .string ch, .string nm]) (by simp [results, Try.results50, go_sem]) rfl ⟨rfl, ?_⟩
    repeat (with_reducible first | exact Below.refl _ _ | apply be_alloc | apply be_drewN | apply be_drew | refine be_set ?_ (by omega))
theorem proved_calls {b : Nat} {ex ch nm sc : ByteArray} {lf : Int} {st pr tk fl : Bool} {w : World} (h : PB w b ex ch nm sc lf st pr tk fl) :
    Calls Try.prog 35 #[.pointer (some ⟨b, 0, none⟩)] w fun e w' => e = .returned (.bool pr) ∧ w = w' := by
  obtain ⟨c0, c1, c2, c3, c4, c5, c6, c7, c8⟩ := h.cells
  clear h
  go_enter Try.func35, Try.ntmps35
  go_wp2
  go_ret
  exact ⟨rfl, rfl⟩
theorem taken_calls {b : Nat} {ex ch nm sc : ByteArray} {lf : Int} {st pr tk fl : Bool} {w : World} (h : PB w b ex ch nm sc lf st pr tk fl) :
    Calls Try.prog 36 #[.pointer (some ⟨b, 0, none⟩)] w fun e w' => e = .returned (.bool tk) ∧ w = w' := by
  obtain ⟨c0, c1, c2, c3, c4, c5, c6, c7, c8⟩ := h.cells
  clear h
  go_enter Try.func36, Try.ntmps36
  go_wp2
  go_ret
  exact ⟨rfl, rfl⟩
theorem failed_calls {b : Nat} {ex ch nm sc : ByteArray} {lf : Int} {st pr tk fl : Bool} {w : World} (h : PB w b ex ch nm sc lf st pr tk fl) :
    Calls Try.prog 37 #[.pointer (some ⟨b, 0, none⟩)] w fun e w' => e = .returned (.bool fl) ∧ w = w' := by
  obtain ⟨c0, c1, c2, c3, c4, c5, c6, c7, c8⟩ := h.cells
  clear h
  go_enter Try.func37, Try.ntmps37
  go_wp2
  go_ret
  exact ⟨rfl, rfl⟩

/-- May such a proof be? -/
def mayNew (nm sc ex : ByteArray) (n : Int) : Prop := nm.size ≤ 32 ∧ (1 ≤ sc.size ∧ sc.size ≤ 64) ∧ (1 ≤ ex.size ∧ ex.size ≤ 64) ∧ 1 ≤ n ∧ n ≤ 10
instance (nm sc ex : ByteArray) (n : Int) : Decidable (mayNew nm sc ex n) := by unfold mayNew; infer_instance
/-- A call of New (24), of NewProof (25) that is refused. -/
def NoS (f : Nat) (nm sc ex : ByteArray) (n : Int) (w : World) : Prop :=
  Calls Try.prog f #[.string nm, .string sc, .string ex, .int .i64 n] w fun e w' => e = .returned (.tuple #[.pointer none, .int .i64 1600]) ∧ w = w'
set_option maxRecDepth 100000 in
theorem new_yes (nm sc ex : ByteArray) (n : Int) (w : World) (h : mayNew nm sc ex n) :
    Calls Try.prog 24 #[.string nm, .string sc, .string ex, .int .i64 n] w fun e w' => e = .returned (.tuple #[.pointer (some ⟨w.heap.size, 0, none⟩), .int .i64 0]) ∧ PB w' w.heap.size ex ⟨#[]⟩ nm sc n false false false false ∧ Below w.heap.size w w' := by
  obtain ⟨h1, ⟨h2, h3⟩, ⟨h4, h5⟩, h6, h7⟩ := h
  have m1 := fun w => (may_yes sc (by omega) (by omega) w).1
  have m2 := fun w => (may_yes ex (by omega) (by omega) w).1
  have h1' : (nm.size : Int) ≤ 32 := by omega
  have M1 := Lib.hid m1
  have M2 := Lib.hid m2
  clear m1 m2 h1 h2 h3 h4 h5
  go_enter Try.func24, Try.ntmps24
  go_wp2_with fail
  refine (M1.out _).use ?_
  rintro _ _ ⟨rfl, rfl⟩
  go_wp2_with fail
  refine (M2.out _).use ?_
  rintro _ _ ⟨rfl, rfl⟩
  go_wp2_with fail
  go_ret2
  exact ⟨rfl, Blk.new _ _, be_alloc (Below.refl _ _) _⟩
set_option maxRecDepth 100000 in
theorem newProof_yes (nm sc ex : ByteArray) (n : Int) (w : World) (h : mayNew nm sc ex n) :
    Calls Try.prog 25 #[.string nm, .string sc, .string ex, .int .i64 n] w fun e w' => e = .returned (.tuple #[.pointer (some ⟨w.heap.size, 0, none⟩), .int .i64 0]) ∧ RB w' w.heap.size ex ⟨#[]⟩ nm sc n false false false ∧ Below w.heap.size w w' := by
  obtain ⟨h1, ⟨h2, h3⟩, ⟨h4, h5⟩, h6, h7⟩ := h
  have m1 := fun w => (may_yes sc (by omega) (by omega) w).2
  have m2 := fun w => (may_yes ex (by omega) (by omega) w).2
  have h1' : (nm.size : Int) ≤ 32 := by omega
  have M1 := Lib.hid m1
  have M2 := Lib.hid m2
  clear m1 m2 h1 h2 h3 h4 h5
  go_enter Try.func25, Try.ntmps25
  go_wp2_with fail
  refine (M1.out _).use ?_
  rintro _ _ ⟨rfl, rfl⟩
  go_wp2_with fail
  refine (M2.out _).use ?_
  rintro _ _ ⟨rfl, rfl⟩
  go_wp2_with fail
  go_ret2
  exact ⟨rfl, Blk.new _ _, be_alloc (Below.refl _ _) _⟩
set_option maxRecDepth 100000 in
theorem new_no (nm sc ex : ByteArray) (n : Int) (w : World) (h : ¬ mayNew nm sc ex n) : NoS 24 nm sc ex n w := by
  unfold NoS
  by_cases h1 : 32 < (nm.size : Int)
  ·
    go_enter Try.func24, Try.ntmps24
    go_wp2_with fail
    go_ret2
    exact ⟨rfl, rfl⟩
  by_cases h2 : (sc.size : Int) < 1 ∨ 64 < (sc.size : Int)
  · have M1 := Lib.hid fun w => (may_no sc h2 w).1
    clear h h2
    have h1' : (nm.size : Int) ≤ 32 := by omega
    go_enter Try.func24, Try.ntmps24
    go_wp2_with fail
    refine (M1.out _).use ?_
    rintro _ _ ⟨rfl, rfl⟩
    go_wp2_with fail
    go_ret2
    exact ⟨rfl, rfl⟩
  have M1 := Lib.hid fun w => (may_yes sc (by omega) (by omega) w).1
  by_cases h3 : (ex.size : Int) < 1 ∨ 64 < (ex.size : Int)
  · have M2 := Lib.hid fun w => (may_no ex h3 w).1
    clear h h2 h3
    have h1' : (nm.size : Int) ≤ 32 := by omega
    go_enter Try.func24, Try.ntmps24
    go_wp2_with fail
    refine (M1.out _).use ?_
    rintro _ _ ⟨rfl, rfl⟩
    go_wp2_with fail
    refine (M2.out _).use ?_
    rintro _ _ ⟨rfl, rfl⟩
    go_wp2_with fail
    go_ret2
    exact ⟨rfl, rfl⟩
  have M2 := Lib.hid fun w => (may_yes ex (by omega) (by omega) w).1
  have h1' : (nm.size : Int) ≤ 32 := by omega
  by_cases h4 : n < 1
  · clear h h2 h3
    go_enter Try.func24, Try.ntmps24
    go_wp2_with fail
    refine (M1.out _).use ?_
    rintro _ _ ⟨rfl, rfl⟩
    go_wp2_with fail
    refine (M2.out _).use ?_
    rintro _ _ ⟨rfl, rfl⟩
    go_wp2_with fail
    go_ret2
    exact ⟨rfl, rfl⟩
  · have h5 : 10 < n := by unfold mayNew at h; omega
    have h4' : 1 ≤ n := by omega
    have hd : decide (n ≤ 10) = false := decide_eq_false (by omega)
    clear h h2 h3
    go_enter Try.func24, Try.ntmps24
    go_wp2_with fail
    refine (M1.out _).use ?_
    rintro _ _ ⟨rfl, rfl⟩
    go_wp2_with fail
    refine (M2.out _).use ?_
    rintro _ _ ⟨rfl, rfl⟩
    go_wp2_with fail
    go_ret2
    exact ⟨rfl, rfl⟩
set_option maxRecDepth 100000 in
theorem newProof_no (nm sc ex : ByteArray) (n : Int) (w : World) (h : ¬ mayNew nm sc ex n) : NoS 25 nm sc ex n w := by
  unfold NoS
  by_cases h2 : (sc.size : Int) < 1 ∨ 64 < (sc.size : Int)
  · have M1 := Lib.hid fun w => (may_no sc h2 w).2
    clear h h2
    by_cases h1 : 32 < (nm.size : Int)
    ·
      go_enter Try.func25, Try.ntmps25
      go_wp2_with fail
      refine (M1.out _).use ?_
      rintro _ _ ⟨rfl, rfl⟩
      go_wp2_with fail
      go_ret2
      exact ⟨rfl, rfl⟩
    · have h1' : (nm.size : Int) ≤ 32 := by omega
      go_enter Try.func25, Try.ntmps25
      go_wp2_with fail
      refine (M1.out _).use ?_
      rintro _ _ ⟨rfl, rfl⟩
      go_wp2_with fail
      go_ret2
      exact ⟨rfl, rfl⟩
  have M1 := Lib.hid fun w => (may_yes sc (by omega) (by omega) w).2
  by_cases h3 : (ex.size : Int) < 1 ∨ 64 < (ex.size : Int)
  · have M2 := Lib.hid fun w => (may_no ex h3 w).2
    clear h h2 h3
    by_cases h1 : 32 < (nm.size : Int)
    ·
      go_enter Try.func25, Try.ntmps25
      go_wp2_with fail
      refine (M1.out _).use ?_
      rintro _ _ ⟨rfl, rfl⟩
      go_wp2_with fail
      refine (M2.out _).use ?_
      rintro _ _ ⟨rfl, rfl⟩
      go_wp2_with fail
      go_ret2
      exact ⟨rfl, rfl⟩
    · have h1' : (nm.size : Int) ≤ 32 := by omega
      go_enter Try.func25, Try.ntmps25
      go_wp2_with fail
      refine (M1.out _).use ?_
      rintro _ _ ⟨rfl, rfl⟩
      go_wp2_with fail
      refine (M2.out _).use ?_
      rintro _ _ ⟨rfl, rfl⟩
      go_wp2_with fail
      go_ret2
      exact ⟨rfl, rfl⟩
  have M2 := Lib.hid fun w => (may_yes ex (by omega) (by omega) w).2
  by_cases h1 : 32 < (nm.size : Int)
  · clear h h2 h3
    go_enter Try.func25, Try.ntmps25
    go_wp2_with fail
    refine (M1.out _).use ?_
    rintro _ _ ⟨rfl, rfl⟩
    go_wp2_with fail
    refine (M2.out _).use ?_
    rintro _ _ ⟨rfl, rfl⟩
    go_wp2_with fail
    go_ret2
    exact ⟨rfl, rfl⟩
  have h1' : (nm.size : Int) ≤ 32 := by omega
  by_cases h4 : n < 1
  · clear h h2 h3
    go_enter Try.func25, Try.ntmps25
    go_wp2_with fail
    refine (M1.out _).use ?_
    rintro _ _ ⟨rfl, rfl⟩
    go_wp2_with fail
    refine (M2.out _).use ?_
    rintro _ _ ⟨rfl, rfl⟩
    go_wp2_with fail
    go_ret2
    exact ⟨rfl, rfl⟩
  · have h5 : 10 < n := by unfold mayNew at h; omega
    have h4' : 1 ≤ n := by omega
    clear h h2 h3
    go_enter Try.func25, Try.ntmps25
    go_wp2_with fail
    refine (M1.out _).use ?_
    rintro _ _ ⟨rfl, rfl⟩
    go_wp2_with fail
    refine (M2.out _).use ?_
    rintro _ _ ⟨rfl, rfl⟩
    go_wp2_with fail
    go_ret2
    exact ⟨rfl, rfl⟩
end Go.Proofs.Ytoldjadadgokeaa.Ch16
