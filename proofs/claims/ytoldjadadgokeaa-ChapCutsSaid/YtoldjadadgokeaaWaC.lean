/- withylaw6.ChapValues answers true, whatever numbers and string it is given. No condition. -/
import Derived.Test.YtoldjadadgokeaaZe
import Derived.Test.YtoldjadadgokeaaWaB
namespace Go.Proofs.Ytoldjadadgokeaa.Ch6
open Go.RowKit Go.Proofs.Ytoldjadadgokeaa.Bytes
/-- The name that the law takes: at most a hundred bytes. -/
def Named (a m : ByteArray) : Prop := (decide (100 < (a.size : Int)) = false ∧ m = a) ∨ (decide (100 < (a.size : Int)) = true ∧ 100 ≤ a.size ∧ m = a.extract 0 100)
set_option maxHeartbeats 1000000 in
set_option maxRecDepth 100000 in
theorem val_ok0 (a0 a1 : Int) (k : Nat) (a2 m z r : ByteArray) (w : World) (hq : Int.tmod (IntKind.u64.wrap a0) 4 = 0) (hk : Go.bits .and .i64 a1 511 = (k : Int)) (hk5 : k ≤ 511) (hn : Named a2 m)
    (hz : z.size = k) (hcz : ∀ (W : World) (b : Nat), b = W.heap.size → (convert 37 9 (.slice (some ⟨b, 0, none⟩) k k)).run Try.prog (W.alloc (.cells (zc k) 5)) = .ok (.string z) (W.alloc (.cells (zc k) 5)))
    (hP : ∀ w, PutS 1 1 z m r 0 w) (hG : ∀ w, GetS r 1 1 z m 0 w) (h1 : 1 ≤ k) (h2 : k ≤ 255) :
    Calls Try.prog 5 #[.int .i64 a0, .int .i64 a1, .string a2] w fun e w' => e = .returned (.bool true) ∧ Below w.heap.size w w' := by
  have hmk := make_zeros k (by omega)
  have hk6 : (k : Int) ≤ 511 := by omega
  have f1 : decide (1 ≤ (k : Int)) = true := decide_eq_true (by omega)
  have f2 : decide ((k : Int) ≤ 255) = true := decide_eq_true (by omega)
  have f3 : decide (1 ≤ k) = true := decide_eq_true (by omega)
  have f4 : decide (k ≤ 255) = true := decide_eq_true (by omega)
  rcases hn with ⟨hn, rfl⟩ | ⟨hn, hn2, rfl⟩
  · go_enter Try.func5, Try.ntmps5
    go_wp2_with fail
    refine (awake_calls _).mono ?_
    rintro _ w1 ⟨rfl, hb1⟩
    have B1 := hb1
    clear hb1
    go_wp2_with fail
    refine (hP _).use ?_
    rintro _ w2 ⟨rfl, hb2⟩
    replace B1 := (be_alloc B1 _).trans (hb2.mono (be_alloc B1 _).size)
    clear hb2
    go_wp2_with fail
    refine (hG _).use ?_
    rintro _ w3 ⟨rfl, hb3⟩
    replace B1 := B1.trans (hb3.mono B1.size)
    clear hb3
    go_wp2_with (first | (go_at_call 22; refine (num_calls _ _).mono ?_; rintro _ _ ⟨rfl, rfl⟩))
    go_ret
    exact ⟨rfl, be_alloc B1 _⟩
  · go_enter Try.func5, Try.ntmps5
    go_wp2_with fail
    refine (awake_calls _).mono ?_
    rintro _ w1 ⟨rfl, hb1⟩
    have B1 := hb1
    clear hb1
    go_wp2_with fail
    refine (hP _).use ?_
    rintro _ w2 ⟨rfl, hb2⟩
    replace B1 := (be_alloc B1 _).trans (hb2.mono (be_alloc B1 _).size)
    clear hb2
    go_wp2_with fail
    refine (hG _).use ?_
    rintro _ w3 ⟨rfl, hb3⟩
    replace B1 := B1.trans (hb3.mono B1.size)
    clear hb3
    go_wp2_with (first | (go_at_call 22; refine (num_calls _ _).mono ?_; rintro _ _ ⟨rfl, rfl⟩))
    go_ret
    exact ⟨rfl, be_alloc B1 _⟩
set_option maxHeartbeats 1000000 in
set_option maxRecDepth 100000 in
theorem val_zero0 (a0 a1 : Int) (k : Nat) (a2 m z : ByteArray) (w : World) (hq : Int.tmod (IntKind.u64.wrap a0) 4 = 0) (hk : Go.bits .and .i64 a1 511 = (k : Int)) (hk5 : k ≤ 511) (hn : Named a2 m)
    (hz : z.size = k) (hcz : ∀ (W : World) (b : Nat), b = W.heap.size → (convert 37 9 (.slice (some ⟨b, 0, none⟩) k k)).run Try.prog (W.alloc (.cells (zc k) 5)) = .ok (.string z) (W.alloc (.cells (zc k) 5)))
    (hP : ∀ w, PutS 1 1 z m ⟨#[]⟩ 600 w) (h1 : k = 0) :
    Calls Try.prog 5 #[.int .i64 a0, .int .i64 a1, .string a2] w fun e w' => e = .returned (.bool true) ∧ Below w.heap.size w w' := by
  have hmk := make_zeros k (by omega)
  have hk6 : (k : Int) ≤ 511 := by omega
  subst h1
  clear hmk hk6
  have hmk : ∀ w, (Instr.makeSlice 37 (.int .i64 0) (.int .i64 0)).run Try.prog w = .ok (.slice (some ⟨w.heap.size, 0, none⟩) 0 0) (w.alloc (.cells (zc 0) 5)) := make_zeros 0 (by omega)
  replace hk : Go.bits .and .i64 a1 511 = 0 := hk
  rcases hn with ⟨hn, rfl⟩ | ⟨hn, hn2, rfl⟩
  · go_enter Try.func5, Try.ntmps5
    go_wp2_with fail
    refine (awake_calls _).mono ?_
    rintro _ w1 ⟨rfl, hb1⟩
    have B1 := hb1
    clear hb1
    go_wp2_with fail
    refine (hP _).use ?_
    rintro _ w2 ⟨rfl, hb2⟩
    replace B1 := (be_alloc B1 _).trans (hb2.mono (be_alloc B1 _).size)
    clear hb2
    go_wp2_with (first | (go_at_call 22; refine (num_calls _ _).mono ?_; rintro _ _ ⟨rfl, rfl⟩))
    go_ret
    exact ⟨rfl, B1⟩
  · go_enter Try.func5, Try.ntmps5
    go_wp2_with fail
    refine (awake_calls _).mono ?_
    rintro _ w1 ⟨rfl, hb1⟩
    have B1 := hb1
    clear hb1
    go_wp2_with fail
    refine (hP _).use ?_
    rintro _ w2 ⟨rfl, hb2⟩
    replace B1 := (be_alloc B1 _).trans (hb2.mono (be_alloc B1 _).size)
    clear hb2
    go_wp2_with (first | (go_at_call 22; refine (num_calls _ _).mono ?_; rintro _ _ ⟨rfl, rfl⟩))
    go_ret
    exact ⟨rfl, B1⟩
set_option maxHeartbeats 1000000 in
set_option maxRecDepth 100000 in
theorem val_wide0 (a0 a1 : Int) (k : Nat) (a2 m z : ByteArray) (w : World) (hq : Int.tmod (IntKind.u64.wrap a0) 4 = 0) (hk : Go.bits .and .i64 a1 511 = (k : Int)) (hk5 : k ≤ 511) (hn : Named a2 m)
    (hz : z.size = k) (hcz : ∀ (W : World) (b : Nat), b = W.heap.size → (convert 37 9 (.slice (some ⟨b, 0, none⟩) k k)).run Try.prog (W.alloc (.cells (zc k) 5)) = .ok (.string z) (W.alloc (.cells (zc k) 5)))
    (hP : ∀ w, PutS 1 1 z m ⟨#[]⟩ 600 w) (h1 : 255 < k) :
    Calls Try.prog 5 #[.int .i64 a0, .int .i64 a1, .string a2] w fun e w' => e = .returned (.bool true) ∧ Below w.heap.size w w' := by
  have hmk := make_zeros k (by omega)
  have hk6 : (k : Int) ≤ 511 := by omega
  have f1 : decide (1 ≤ (k : Int)) = true := decide_eq_true (by omega)
  have f2 : decide ((k : Int) ≤ 255) = false := decide_eq_false (by omega)
  have f3 : decide (1 ≤ k) = true := decide_eq_true (by omega)
  have f4 : decide (k ≤ 255) = false := decide_eq_false (by omega)
  rcases hn with ⟨hn, rfl⟩ | ⟨hn, hn2, rfl⟩
  · go_enter Try.func5, Try.ntmps5
    go_wp2_with fail
    refine (awake_calls _).mono ?_
    rintro _ w1 ⟨rfl, hb1⟩
    have B1 := hb1
    clear hb1
    go_wp2_with fail
    refine (hP _).use ?_
    rintro _ w2 ⟨rfl, hb2⟩
    replace B1 := (be_alloc B1 _).trans (hb2.mono (be_alloc B1 _).size)
    clear hb2
    go_wp2_with (first | (go_at_call 22; refine (num_calls _ _).mono ?_; rintro _ _ ⟨rfl, rfl⟩))
    go_ret
    exact ⟨rfl, B1⟩
  · go_enter Try.func5, Try.ntmps5
    go_wp2_with fail
    refine (awake_calls _).mono ?_
    rintro _ w1 ⟨rfl, hb1⟩
    have B1 := hb1
    clear hb1
    go_wp2_with fail
    refine (hP _).use ?_
    rintro _ w2 ⟨rfl, hb2⟩
    replace B1 := (be_alloc B1 _).trans (hb2.mono (be_alloc B1 _).size)
    clear hb2
    go_wp2_with (first | (go_at_call 22; refine (num_calls _ _).mono ?_; rintro _ _ ⟨rfl, rfl⟩))
    go_ret
    exact ⟨rfl, B1⟩
set_option maxHeartbeats 1000000 in
set_option maxRecDepth 100000 in
theorem val_ok1 (a0 a1 : Int) (k : Nat) (a2 m z r : ByteArray) (w : World) (hq : Int.tmod (IntKind.u64.wrap a0) 4 = 1) (hk : Go.bits .and .i64 a1 511 = (k : Int)) (hk5 : k ≤ 511) (hn : Named a2 m)
    (hz : z.size = k) (hcz : ∀ (W : World) (b : Nat), b = W.heap.size → (convert 37 9 (.slice (some ⟨b, 0, none⟩) k k)).run Try.prog (W.alloc (.cells (zc k) 5)) = .ok (.string z) (W.alloc (.cells (zc k) 5)))
    (hP : ∀ w, PutS 2 1 z m r 0 w) (hG : ∀ w, GetS r 2 1 z m 0 w) (h1 : 1 ≤ k) (h2 : k ≤ 255) :
    Calls Try.prog 5 #[.int .i64 a0, .int .i64 a1, .string a2] w fun e w' => e = .returned (.bool true) ∧ Below w.heap.size w w' := by
  have hmk := make_zeros k (by omega)
  have hk6 : (k : Int) ≤ 511 := by omega
  have f1 : decide (1 ≤ (k : Int)) = true := decide_eq_true (by omega)
  have f2 : decide ((k : Int) ≤ 255) = true := decide_eq_true (by omega)
  have f3 : decide (1 ≤ k) = true := decide_eq_true (by omega)
  have f4 : decide (k ≤ 255) = true := decide_eq_true (by omega)
  rcases hn with ⟨hn, rfl⟩ | ⟨hn, hn2, rfl⟩
  · go_enter Try.func5, Try.ntmps5
    go_wp2_with fail
    refine (awake_calls _).mono ?_
    rintro _ w1 ⟨rfl, hb1⟩
    have B1 := hb1
    clear hb1
    go_wp2_with fail
    refine (hP _).use ?_
    rintro _ w2 ⟨rfl, hb2⟩
    replace B1 := (be_alloc B1 _).trans (hb2.mono (be_alloc B1 _).size)
    clear hb2
    go_wp2_with fail
    refine (hG _).use ?_
    rintro _ w3 ⟨rfl, hb3⟩
    replace B1 := B1.trans (hb3.mono B1.size)
    clear hb3
    go_wp2_with (first | (go_at_call 22; refine (num_calls _ _).mono ?_; rintro _ _ ⟨rfl, rfl⟩))
    go_ret
    exact ⟨rfl, be_alloc B1 _⟩
  · go_enter Try.func5, Try.ntmps5
    go_wp2_with fail
    refine (awake_calls _).mono ?_
    rintro _ w1 ⟨rfl, hb1⟩
    have B1 := hb1
    clear hb1
    go_wp2_with fail
    refine (hP _).use ?_
    rintro _ w2 ⟨rfl, hb2⟩
    replace B1 := (be_alloc B1 _).trans (hb2.mono (be_alloc B1 _).size)
    clear hb2
    go_wp2_with fail
    refine (hG _).use ?_
    rintro _ w3 ⟨rfl, hb3⟩
    replace B1 := B1.trans (hb3.mono B1.size)
    clear hb3
    go_wp2_with (first | (go_at_call 22; refine (num_calls _ _).mono ?_; rintro _ _ ⟨rfl, rfl⟩))
    go_ret
    exact ⟨rfl, be_alloc B1 _⟩
set_option maxHeartbeats 1000000 in
set_option maxRecDepth 100000 in
theorem val_zero1 (a0 a1 : Int) (k : Nat) (a2 m z : ByteArray) (w : World) (hq : Int.tmod (IntKind.u64.wrap a0) 4 = 1) (hk : Go.bits .and .i64 a1 511 = (k : Int)) (hk5 : k ≤ 511) (hn : Named a2 m)
    (hz : z.size = k) (hcz : ∀ (W : World) (b : Nat), b = W.heap.size → (convert 37 9 (.slice (some ⟨b, 0, none⟩) k k)).run Try.prog (W.alloc (.cells (zc k) 5)) = .ok (.string z) (W.alloc (.cells (zc k) 5)))
    (hP : ∀ w, PutS 2 1 z m ⟨#[]⟩ 600 w) (h1 : k = 0) :
    Calls Try.prog 5 #[.int .i64 a0, .int .i64 a1, .string a2] w fun e w' => e = .returned (.bool true) ∧ Below w.heap.size w w' := by
  have hmk := make_zeros k (by omega)
  have hk6 : (k : Int) ≤ 511 := by omega
  subst h1
  clear hmk hk6
  have hmk : ∀ w, (Instr.makeSlice 37 (.int .i64 0) (.int .i64 0)).run Try.prog w = .ok (.slice (some ⟨w.heap.size, 0, none⟩) 0 0) (w.alloc (.cells (zc 0) 5)) := make_zeros 0 (by omega)
  replace hk : Go.bits .and .i64 a1 511 = 0 := hk
  rcases hn with ⟨hn, rfl⟩ | ⟨hn, hn2, rfl⟩
  · go_enter Try.func5, Try.ntmps5
    go_wp2_with fail
    refine (awake_calls _).mono ?_
    rintro _ w1 ⟨rfl, hb1⟩
    have B1 := hb1
    clear hb1
    go_wp2_with fail
    refine (hP _).use ?_
    rintro _ w2 ⟨rfl, hb2⟩
    replace B1 := (be_alloc B1 _).trans (hb2.mono (be_alloc B1 _).size)
    clear hb2
    go_wp2_with (first | (go_at_call 22; refine (num_calls _ _).mono ?_; rintro _ _ ⟨rfl, rfl⟩))
    go_ret
    exact ⟨rfl, B1⟩
  · go_enter Try.func5, Try.ntmps5
    go_wp2_with fail
    refine (awake_calls _).mono ?_
    rintro _ w1 ⟨rfl, hb1⟩
    have B1 := hb1
    clear hb1
    go_wp2_with fail
    refine (hP _).use ?_
    rintro _ w2 ⟨rfl, hb2⟩
    replace B1 := (be_alloc B1 _).trans (hb2.mono (be_alloc B1 _).size)
    clear hb2
    go_wp2_with (first | (go_at_call 22; refine (num_calls _ _).mono ?_; rintro _ _ ⟨rfl, rfl⟩))
    go_ret
    exact ⟨rfl, B1⟩
set_option maxHeartbeats 1000000 in
set_option maxRecDepth 100000 in
theorem val_wide1 (a0 a1 : Int) (k : Nat) (a2 m z : ByteArray) (w : World) (hq : Int.tmod (IntKind.u64.wrap a0) 4 = 1) (hk : Go.bits .and .i64 a1 511 = (k : Int)) (hk5 : k ≤ 511) (hn : Named a2 m)
    (hz : z.size = k) (hcz : ∀ (W : World) (b : Nat), b = W.heap.size → (convert 37 9 (.slice (some ⟨b, 0, none⟩) k k)).run Try.prog (W.alloc (.cells (zc k) 5)) = .ok (.string z) (W.alloc (.cells (zc k) 5)))
    (hP : ∀ w, PutS 2 1 z m ⟨#[]⟩ 600 w) (h1 : 255 < k) :
    Calls Try.prog 5 #[.int .i64 a0, .int .i64 a1, .string a2] w fun e w' => e = .returned (.bool true) ∧ Below w.heap.size w w' := by
  have hmk := make_zeros k (by omega)
  have hk6 : (k : Int) ≤ 511 := by omega
  have f1 : decide (1 ≤ (k : Int)) = true := decide_eq_true (by omega)
  have f2 : decide ((k : Int) ≤ 255) = false := decide_eq_false (by omega)
  have f3 : decide (1 ≤ k) = true := decide_eq_true (by omega)
  have f4 : decide (k ≤ 255) = false := decide_eq_false (by omega)
  rcases hn with ⟨hn, rfl⟩ | ⟨hn, hn2, rfl⟩
  · go_enter Try.func5, Try.ntmps5
    go_wp2_with fail
    refine (awake_calls _).mono ?_
    rintro _ w1 ⟨rfl, hb1⟩
    have B1 := hb1
    clear hb1
    go_wp2_with fail
    refine (hP _).use ?_
    rintro _ w2 ⟨rfl, hb2⟩
    replace B1 := (be_alloc B1 _).trans (hb2.mono (be_alloc B1 _).size)
    clear hb2
    go_wp2_with (first | (go_at_call 22; refine (num_calls _ _).mono ?_; rintro _ _ ⟨rfl, rfl⟩))
    go_ret
    exact ⟨rfl, B1⟩
  · go_enter Try.func5, Try.ntmps5
    go_wp2_with fail
    refine (awake_calls _).mono ?_
    rintro _ w1 ⟨rfl, hb1⟩
    have B1 := hb1
    clear hb1
    go_wp2_with fail
    refine (hP _).use ?_
    rintro _ w2 ⟨rfl, hb2⟩
    replace B1 := (be_alloc B1 _).trans (hb2.mono (be_alloc B1 _).size)
    clear hb2
    go_wp2_with (first | (go_at_call 22; refine (num_calls _ _).mono ?_; rintro _ _ ⟨rfl, rfl⟩))
    go_ret
    exact ⟨rfl, B1⟩
set_option maxHeartbeats 1000000 in
set_option maxRecDepth 100000 in
theorem val_ok2 (a0 a1 : Int) (k : Nat) (a2 m z r : ByteArray) (w : World) (hq : Int.tmod (IntKind.u64.wrap a0) 4 = 2) (hk : Go.bits .and .i64 a1 511 = (k : Int)) (hk5 : k ≤ 511) (hn : Named a2 m)
    (hz : z.size = k) (hcz : ∀ (W : World) (b : Nat), b = W.heap.size → (convert 37 9 (.slice (some ⟨b, 0, none⟩) k k)).run Try.prog (W.alloc (.cells (zc k) 5)) = .ok (.string z) (W.alloc (.cells (zc k) 5)))
    (hP : ∀ w, PutS 3 1 z m r 0 w) (hG : ∀ w, GetS r 3 1 z m 0 w) (h1 : k = 0) :
    Calls Try.prog 5 #[.int .i64 a0, .int .i64 a1, .string a2] w fun e w' => e = .returned (.bool true) ∧ Below w.heap.size w w' := by
  have hmk := make_zeros k (by omega)
  have hk6 : (k : Int) ≤ 511 := by omega
  subst h1
  clear hmk hk6
  have hmk : ∀ w, (Instr.makeSlice 37 (.int .i64 0) (.int .i64 0)).run Try.prog w = .ok (.slice (some ⟨w.heap.size, 0, none⟩) 0 0) (w.alloc (.cells (zc 0) 5)) := make_zeros 0 (by omega)
  replace hk : Go.bits .and .i64 a1 511 = 0 := hk
  rcases hn with ⟨hn, rfl⟩ | ⟨hn, hn2, rfl⟩
  · go_enter Try.func5, Try.ntmps5
    go_wp2_with fail
    refine (awake_calls _).mono ?_
    rintro _ w1 ⟨rfl, hb1⟩
    have B1 := hb1
    clear hb1
    go_wp2_with fail
    refine (hP _).use ?_
    rintro _ w2 ⟨rfl, hb2⟩
    replace B1 := (be_alloc B1 _).trans (hb2.mono (be_alloc B1 _).size)
    clear hb2
    go_wp2_with fail
    refine (hG _).use ?_
    rintro _ w3 ⟨rfl, hb3⟩
    replace B1 := B1.trans (hb3.mono B1.size)
    clear hb3
    go_wp2_with (first | (go_at_call 22; refine (num_calls _ _).mono ?_; rintro _ _ ⟨rfl, rfl⟩))
    go_ret
    exact ⟨rfl, be_alloc B1 _⟩
  · go_enter Try.func5, Try.ntmps5
    go_wp2_with fail
    refine (awake_calls _).mono ?_
    rintro _ w1 ⟨rfl, hb1⟩
    have B1 := hb1
    clear hb1
    go_wp2_with fail
    refine (hP _).use ?_
    rintro _ w2 ⟨rfl, hb2⟩
    replace B1 := (be_alloc B1 _).trans (hb2.mono (be_alloc B1 _).size)
    clear hb2
    go_wp2_with fail
    refine (hG _).use ?_
    rintro _ w3 ⟨rfl, hb3⟩
    replace B1 := B1.trans (hb3.mono B1.size)
    clear hb3
    go_wp2_with (first | (go_at_call 22; refine (num_calls _ _).mono ?_; rintro _ _ ⟨rfl, rfl⟩))
    go_ret
    exact ⟨rfl, be_alloc B1 _⟩
set_option maxHeartbeats 1000000 in
set_option maxRecDepth 100000 in
theorem val_bad2 (a0 a1 : Int) (k : Nat) (a2 m z : ByteArray) (w : World) (hq : Int.tmod (IntKind.u64.wrap a0) 4 = 2) (hk : Go.bits .and .i64 a1 511 = (k : Int)) (hk5 : k ≤ 511) (hn : Named a2 m)
    (hz : z.size = k) (hcz : ∀ (W : World) (b : Nat), b = W.heap.size → (convert 37 9 (.slice (some ⟨b, 0, none⟩) k k)).run Try.prog (W.alloc (.cells (zc k) 5)) = .ok (.string z) (W.alloc (.cells (zc k) 5)))
    (hP : ∀ w, PutS 3 1 z m ⟨#[]⟩ 600 w) (h1 : 1 ≤ k) :
    Calls Try.prog 5 #[.int .i64 a0, .int .i64 a1, .string a2] w fun e w' => e = .returned (.bool true) ∧ Below w.heap.size w w' := by
  have hmk := make_zeros k (by omega)
  have hk6 : (k : Int) ≤ 511 := by omega
  have f1 : ((k : Int) == 0) = false := by simp; omega
  rcases hn with ⟨hn, rfl⟩ | ⟨hn, hn2, rfl⟩
  · go_enter Try.func5, Try.ntmps5
    go_wp2_with fail
    refine (awake_calls _).mono ?_
    rintro _ w1 ⟨rfl, hb1⟩
    have B1 := hb1
    clear hb1
    go_wp2_with fail
    refine (hP _).use ?_
    rintro _ w2 ⟨rfl, hb2⟩
    replace B1 := (be_alloc B1 _).trans (hb2.mono (be_alloc B1 _).size)
    clear hb2
    go_wp2_with (first | (go_at_call 22; refine (num_calls _ _).mono ?_; rintro _ _ ⟨rfl, rfl⟩))
    go_ret
    exact ⟨rfl, B1⟩
  · go_enter Try.func5, Try.ntmps5
    go_wp2_with fail
    refine (awake_calls _).mono ?_
    rintro _ w1 ⟨rfl, hb1⟩
    have B1 := hb1
    clear hb1
    go_wp2_with fail
    refine (hP _).use ?_
    rintro _ w2 ⟨rfl, hb2⟩
    replace B1 := (be_alloc B1 _).trans (hb2.mono (be_alloc B1 _).size)
    clear hb2
    go_wp2_with (first | (go_at_call 22; refine (num_calls _ _).mono ?_; rintro _ _ ⟨rfl, rfl⟩))
    go_ret
    exact ⟨rfl, B1⟩
set_option maxHeartbeats 1000000 in
set_option maxRecDepth 100000 in
theorem val_ok3 (a0 a1 : Int) (k : Nat) (a2 m z r : ByteArray) (w : World) (hq : Int.tmod (IntKind.u64.wrap a0) 4 = 3) (hk : Go.bits .and .i64 a1 511 = (k : Int)) (hk5 : k ≤ 511) (hn : Named a2 m)
    (hz : z.size = k) (hcz : ∀ (W : World) (b : Nat), b = W.heap.size → (convert 37 9 (.slice (some ⟨b, 0, none⟩) k k)).run Try.prog (W.alloc (.cells (zc k) 5)) = .ok (.string z) (W.alloc (.cells (zc k) 5)))
    (hP : ∀ w, PutS 4 1 z m r 0 w) (hG : ∀ w, GetS r 4 1 z m 0 w) (h1 : k = 0) :
    Calls Try.prog 5 #[.int .i64 a0, .int .i64 a1, .string a2] w fun e w' => e = .returned (.bool true) ∧ Below w.heap.size w w' := by
  have hmk := make_zeros k (by omega)
  have hk6 : (k : Int) ≤ 511 := by omega
  subst h1
  clear hmk hk6
  have hmk : ∀ w, (Instr.makeSlice 37 (.int .i64 0) (.int .i64 0)).run Try.prog w = .ok (.slice (some ⟨w.heap.size, 0, none⟩) 0 0) (w.alloc (.cells (zc 0) 5)) := make_zeros 0 (by omega)
  replace hk : Go.bits .and .i64 a1 511 = 0 := hk
  rcases hn with ⟨hn, rfl⟩ | ⟨hn, hn2, rfl⟩
  · go_enter Try.func5, Try.ntmps5
    go_wp2_with fail
    refine (awake_calls _).mono ?_
    rintro _ w1 ⟨rfl, hb1⟩
    have B1 := hb1
    clear hb1
    go_wp2_with fail
    refine (hP _).use ?_
    rintro _ w2 ⟨rfl, hb2⟩
    replace B1 := (be_alloc B1 _).trans (hb2.mono (be_alloc B1 _).size)
    clear hb2
    go_wp2_with fail
    refine (hG _).use ?_
    rintro _ w3 ⟨rfl, hb3⟩
    replace B1 := B1.trans (hb3.mono B1.size)
    clear hb3
    go_wp2_with (first | (go_at_call 22; refine (num_calls _ _).mono ?_; rintro _ _ ⟨rfl, rfl⟩))
    go_ret
    exact ⟨rfl, be_alloc B1 _⟩
  · go_enter Try.func5, Try.ntmps5
    go_wp2_with fail
    refine (awake_calls _).mono ?_
    rintro _ w1 ⟨rfl, hb1⟩
    have B1 := hb1
    clear hb1
    go_wp2_with fail
    refine (hP _).use ?_
    rintro _ w2 ⟨rfl, hb2⟩
    replace B1 := (be_alloc B1 _).trans (hb2.mono (be_alloc B1 _).size)
    clear hb2
    go_wp2_with fail
    refine (hG _).use ?_
    rintro _ w3 ⟨rfl, hb3⟩
    replace B1 := B1.trans (hb3.mono B1.size)
    clear hb3
    go_wp2_with (first | (go_at_call 22; refine (num_calls _ _).mono ?_; rintro _ _ ⟨rfl, rfl⟩))
    go_ret
    exact ⟨rfl, be_alloc B1 _⟩
set_option maxHeartbeats 1000000 in
set_option maxRecDepth 100000 in
theorem val_bad3 (a0 a1 : Int) (k : Nat) (a2 m z : ByteArray) (w : World) (hq : Int.tmod (IntKind.u64.wrap a0) 4 = 3) (hk : Go.bits .and .i64 a1 511 = (k : Int)) (hk5 : k ≤ 511) (hn : Named a2 m)
    (hz : z.size = k) (hcz : ∀ (W : World) (b : Nat), b = W.heap.size → (convert 37 9 (.slice (some ⟨b, 0, none⟩) k k)).run Try.prog (W.alloc (.cells (zc k) 5)) = .ok (.string z) (W.alloc (.cells (zc k) 5)))
    (hP : ∀ w, PutS 4 1 z m ⟨#[]⟩ 600 w) (h1 : 1 ≤ k) :
    Calls Try.prog 5 #[.int .i64 a0, .int .i64 a1, .string a2] w fun e w' => e = .returned (.bool true) ∧ Below w.heap.size w w' := by
  have hmk := make_zeros k (by omega)
  have hk6 : (k : Int) ≤ 511 := by omega
  have f1 : ((k : Int) == 0) = false := by simp; omega
  rcases hn with ⟨hn, rfl⟩ | ⟨hn, hn2, rfl⟩
  · go_enter Try.func5, Try.ntmps5
    go_wp2_with fail
    refine (awake_calls _).mono ?_
    rintro _ w1 ⟨rfl, hb1⟩
    have B1 := hb1
    clear hb1
    go_wp2_with fail
    refine (hP _).use ?_
    rintro _ w2 ⟨rfl, hb2⟩
    replace B1 := (be_alloc B1 _).trans (hb2.mono (be_alloc B1 _).size)
    clear hb2
    go_wp2_with (first | (go_at_call 22; refine (num_calls _ _).mono ?_; rintro _ _ ⟨rfl, rfl⟩))
    go_ret
    exact ⟨rfl, B1⟩
  · go_enter Try.func5, Try.ntmps5
    go_wp2_with fail
    refine (awake_calls _).mono ?_
    rintro _ w1 ⟨rfl, hb1⟩
    have B1 := hb1
    clear hb1
    go_wp2_with fail
    refine (hP _).use ?_
    rintro _ w2 ⟨rfl, hb2⟩
    replace B1 := (be_alloc B1 _).trans (hb2.mono (be_alloc B1 _).size)
    clear hb2
    go_wp2_with (first | (go_at_call 22; refine (num_calls _ _).mono ?_; rintro _ _ ⟨rfl, rfl⟩))
    go_ret
    exact ⟨rfl, B1⟩

theorem named_of (a : ByteArray) : ∃ m, Named a m ∧ m.size ≤ 100 := by
  by_cases h : 100 < a.size
  · refine ⟨a.extract 0 100, Or.inr ⟨decide_eq_true (by omega), by omega, rfl⟩, ?_⟩
    obtain ⟨l, rfl⟩ := B_of a
    rw [B_extract, B_size]; simp; omega
  · exact ⟨a, Or.inl ⟨decide_eq_false (by omega), rfl⟩, by omega⟩

theorem values_calls (a0 a1 : Int) (a2 : ByteArray) (w : World) :
    Calls Try.prog 5 #[.int .i64 a0, .int .i64 a1, .string a2] w fun e w' => e = .returned (.bool true) ∧ Below w.heap.size w w' := by
  obtain ⟨q, hq, hq3⟩ := code_of a0
  obtain ⟨k, hk, hk5⟩ := and_mask a1 9 (by omega) 511 (by decide)
  obtain ⟨m, hn, hm⟩ := named_of a2
  have hk5 : k ≤ 511 := hk5
  have hz : (B (List.replicate k 0)).size = k := by rw [B_size]; simp
  have hcz := conv_zeros k
  obtain ⟨n, rfl⟩ := B_of m
  rw [B_size] at hm
  have hP := put_any ((q : Int) + 1) 1 (List.replicate k 0) n
  by_cases hf : fit ((q : Int) + 1) 1 (List.replicate k 0)
  · have hF := hf
    unfold fit at hF
    rw [List.length_replicate] at hF
    have e : putV ((q : Int) + 1) 1 (List.replicate k 0) n = (msg ((q : Int) + 1) 1 (List.replicate k 0) n, 0) := by unfold putV; rw [if_pos hf, if_neg (by omega)]
    rw [e] at hP
    have hG : ∀ w, GetS (B (msg ((q : Int) + 1) 1 (List.replicate k 0) n)) ((q : Int) + 1) 1 (B (List.replicate k 0)) (B n) 0 w := by
      intro w
      have := get_any (msg ((q : Int) + 1) 1 (List.replicate k 0) n) w
      have e2 := getV_msg ((q : Int) + 1) 1 (List.replicate k 0) n [] hf (by omega)
      rw [List.append_nil] at e2
      rw [e2] at this
      exact this
    have : q = 0 ∨ q = 1 ∨ q = 2 ∨ q = 3 := by omega
    rcases this with rfl | rfl | rfl | rfl
    · exact val_ok0 a0 a1 k a2 _ _ _ w hq hk hk5 hn hz hcz hP hG (by omega) (by omega)
    · exact val_ok1 a0 a1 k a2 _ _ _ w hq hk hk5 hn hz hcz hP hG (by omega) (by omega)
    · exact val_ok2 a0 a1 k a2 _ _ _ w hq hk hk5 hn hz hcz hP hG (by omega)
    · exact val_ok3 a0 a1 k a2 _ _ _ w hq hk hk5 hn hz hcz hP hG (by omega)
  · have hF := hf
    unfold fit at hF
    rw [List.length_replicate] at hF
    have e : putV ((q : Int) + 1) 1 (List.replicate k 0) n = ([], 600) := by unfold putV; rw [if_neg hf]
    rw [e] at hP
    have : q = 0 ∨ q = 1 ∨ q = 2 ∨ q = 3 := by omega
    rcases this with rfl | rfl | rfl | rfl
    · by_cases h0 : k = 0
      · exact val_zero0 a0 a1 k a2 _ _ w hq hk hk5 hn hz hcz hP h0
      · exact val_wide0 a0 a1 k a2 _ _ w hq hk hk5 hn hz hcz hP (by omega)
    · by_cases h0 : k = 0
      · exact val_zero1 a0 a1 k a2 _ _ w hq hk hk5 hn hz hcz hP h0
      · exact val_wide1 a0 a1 k a2 _ _ w hq hk hk5 hn hz hcz hP (by omega)
    · exact val_bad2 a0 a1 k a2 _ _ w hq hk hk5 hn hz hcz hP (by omega)
    · exact val_bad3 a0 a1 k a2 _ _ w hq hk hk5 hn hz hcz hP (by omega)
end Go.Proofs.Ytoldjadadgokeaa.Ch6
