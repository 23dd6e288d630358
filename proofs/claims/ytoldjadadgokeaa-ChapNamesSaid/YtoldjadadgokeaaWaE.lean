/- withylaw6.ChapNames answers true, whatever numbers it is given. No condition. -/
import Derived.Test.YtoldjadadgokeaaWaC
namespace Go.Proofs.Ytoldjadadgokeaa.Ch6
open Go.RowKit Go.Proofs.Ytoldjadadgokeaa.Bytes
set_option maxHeartbeats 1000000 in
set_option maxRecDepth 100000 in
theorem names_long0 (a0 a1 : Int) (j k : Nat) (z r : ByteArray) (w : World) (hq : Int.tmod (IntKind.u64.wrap a1) 4 = 0) (hj : Go.bits .and .i64 a0 7 = (j : Int)) (hj5 : j ≤ 7) (hk : (k : Int) = 249 + j)
    (hz : z.size = k) (hcz : ∀ (W : World) (b : Nat), b = W.heap.size → (convert 37 9 (.slice (some ⟨b, 0, none⟩) k k)).run Try.prog (W.alloc (.cells (zc k) 5)) = .ok (.string z) (W.alloc (.cells (zc k) 5)))
    (hP : ∀ w, PutS 1 2 ⟨#[118]⟩ z ⟨#[]⟩ 601 w) (hP2 : ∀ w, PutS 1 2 ⟨#[118]⟩ ⟨#[]⟩ r 0 w) (hG : ∀ w, GetS r 1 2 ⟨#[118]⟩ ⟨#[]⟩ 0 w) (hl : 253 < k) :
    Calls Try.prog 9 #[.int .i64 a0, .int .i64 a1] w fun e w' => e = .returned (.bool true) ∧ Below w.heap.size w w' := by
  have hmk := make_zeros k (by omega)
  have hk6 : (k : Int) ≤ 511 := by omega
  have hk7 : decide (253 < (k : Int)) = true := decide_eq_true (by omega)
  have hk8 : (249 : Int) + j = (k : Int) := hk.symm
  clear hk
  go_enter Try.func9, Try.ntmps9
  go_wp2_with fail
  refine (awake_calls _).mono ?_
  rintro _ w1 ⟨rfl, hb1⟩
  have B1 := hb1
  clear hb1
  go_wp2_with fail
  refine (hP _).use ?_
  rintro _ w2 ⟨rfl, hb2⟩
  replace B1 := (be_alloc B1 _).trans (hb2.mono (be_alloc B1 _).size)
  clear hb2
  go_wp2_with fail
  refine (hP2 _).use ?_
  rintro _ w3 ⟨rfl, hb3⟩
  replace B1 := B1.trans (hb3.mono B1.size)
  clear hb3
  go_wp2_with fail
  refine (hG _).use ?_
  rintro _ w4 ⟨rfl, hb4⟩
  replace B1 := B1.trans (hb4.mono B1.size)
  clear hb4
  go_wp2_with (first | (go_at_call 22; refine (num_calls _ _).mono ?_; rintro _ _ ⟨rfl, rfl⟩))
  go_ret
  exact ⟨rfl, be_alloc B1 _⟩
set_option maxHeartbeats 1000000 in
set_option maxRecDepth 100000 in
theorem names_ok0 (a0 a1 : Int) (j k : Nat) (z r r2 : ByteArray) (w : World) (hq : Int.tmod (IntKind.u64.wrap a1) 4 = 0) (hj : Go.bits .and .i64 a0 7 = (j : Int)) (hj5 : j ≤ 7) (hk : (k : Int) = 249 + j)
    (hz : z.size = k) (hcz : ∀ (W : World) (b : Nat), b = W.heap.size → (convert 37 9 (.slice (some ⟨b, 0, none⟩) k k)).run Try.prog (W.alloc (.cells (zc k) 5)) = .ok (.string z) (W.alloc (.cells (zc k) 5)))
    (hP : ∀ w, PutS 1 2 ⟨#[118]⟩ z r2 0 w) (hP2 : ∀ w, PutS 1 2 ⟨#[118]⟩ ⟨#[]⟩ r 0 w) (hG : ∀ w, GetS r 1 2 ⟨#[118]⟩ ⟨#[]⟩ 0 w) (hG2 : ∀ w, GetS r2 1 2 ⟨#[118]⟩ z 0 w) (hl : k ≤ 253) :
    Calls Try.prog 9 #[.int .i64 a0, .int .i64 a1] w fun e w' => e = .returned (.bool true) ∧ Below w.heap.size w w' := by
  have hmk := make_zeros k (by omega)
  have hk6 : (k : Int) ≤ 511 := by omega
  have hk7 : decide (253 < (k : Int)) = false := decide_eq_false (by omega)
  have hk8 : (249 : Int) + j = (k : Int) := hk.symm
  clear hk
  go_enter Try.func9, Try.ntmps9
  go_wp2_with fail
  refine (awake_calls _).mono ?_
  rintro _ w1 ⟨rfl, hb1⟩
  have B1 := hb1
  clear hb1
  go_wp2_with fail
  refine (hP _).use ?_
  rintro _ w2 ⟨rfl, hb2⟩
  replace B1 := (be_alloc B1 _).trans (hb2.mono (be_alloc B1 _).size)
  clear hb2
  go_wp2_with fail
  refine (hP2 _).use ?_
  rintro _ w3 ⟨rfl, hb3⟩
  replace B1 := B1.trans (hb3.mono B1.size)
  clear hb3
  go_wp2_with fail
  refine (hG _).use ?_
  rintro _ w4 ⟨rfl, hb4⟩
  replace B1 := B1.trans (hb4.mono B1.size)
  clear hb4
  go_wp2_with fail
  refine (hG2 _).use ?_
  rintro _ w5 ⟨rfl, hb5⟩
  have k2 := (Blk.new w4 _).below hb5
  replace B1 := (be_alloc B1 _).trans (hb5.mono (be_alloc B1 _).size)
  clear hb5
  obtain ⟨y0, y1, y2, y3⟩ := k2.cells4
  have hlt2 := k2.lt
  clear k2
  go_wp2_with (first | (go_at_call 22; refine (num_calls _ _).mono ?_; rintro _ _ ⟨rfl, rfl⟩))
  go_ret
  exact ⟨rfl, be_alloc B1 _⟩
set_option maxHeartbeats 1000000 in
set_option maxRecDepth 100000 in
theorem names_long1 (a0 a1 : Int) (j k : Nat) (z r : ByteArray) (w : World) (hq : Int.tmod (IntKind.u64.wrap a1) 4 = 1) (hj : Go.bits .and .i64 a0 7 = (j : Int)) (hj5 : j ≤ 7) (hk : (k : Int) = 249 + j)
    (hz : z.size = k) (hcz : ∀ (W : World) (b : Nat), b = W.heap.size → (convert 37 9 (.slice (some ⟨b, 0, none⟩) k k)).run Try.prog (W.alloc (.cells (zc k) 5)) = .ok (.string z) (W.alloc (.cells (zc k) 5)))
    (hP : ∀ w, PutS 2 2 ⟨#[118]⟩ z ⟨#[]⟩ 601 w) (hP2 : ∀ w, PutS 2 2 ⟨#[118]⟩ ⟨#[]⟩ r 0 w) (hG : ∀ w, GetS r 2 2 ⟨#[118]⟩ ⟨#[]⟩ 0 w) (hl : 253 < k) :
    Calls Try.prog 9 #[.int .i64 a0, .int .i64 a1] w fun e w' => e = .returned (.bool true) ∧ Below w.heap.size w w' := by
  have hmk := make_zeros k (by omega)
  have hk6 : (k : Int) ≤ 511 := by omega
  have hk7 : decide (253 < (k : Int)) = true := decide_eq_true (by omega)
  have hk8 : (249 : Int) + j = (k : Int) := hk.symm
  clear hk
  go_enter Try.func9, Try.ntmps9
  go_wp2_with fail
  refine (awake_calls _).mono ?_
  rintro _ w1 ⟨rfl, hb1⟩
  have B1 := hb1
  clear hb1
  go_wp2_with fail
  refine (hP _).use ?_
  rintro _ w2 ⟨rfl, hb2⟩
  replace B1 := (be_alloc B1 _).trans (hb2.mono (be_alloc B1 _).size)
  clear hb2
  go_wp2_with fail
  refine (hP2 _).use ?_
  rintro _ w3 ⟨rfl, hb3⟩
  replace B1 := B1.trans (hb3.mono B1.size)
  clear hb3
  go_wp2_with fail
  refine (hG _).use ?_
  rintro _ w4 ⟨rfl, hb4⟩
  replace B1 := B1.trans (hb4.mono B1.size)
  clear hb4
  go_wp2_with (first | (go_at_call 22; refine (num_calls _ _).mono ?_; rintro _ _ ⟨rfl, rfl⟩))
  go_ret
  exact ⟨rfl, be_alloc B1 _⟩
set_option maxHeartbeats 1000000 in
set_option maxRecDepth 100000 in
theorem names_ok1 (a0 a1 : Int) (j k : Nat) (z r r2 : ByteArray) (w : World) (hq : Int.tmod (IntKind.u64.wrap a1) 4 = 1) (hj : Go.bits .and .i64 a0 7 = (j : Int)) (hj5 : j ≤ 7) (hk : (k : Int) = 249 + j)
    (hz : z.size = k) (hcz : ∀ (W : World) (b : Nat), b = W.heap.size → (convert 37 9 (.slice (some ⟨b, 0, none⟩) k k)).run Try.prog (W.alloc (.cells (zc k) 5)) = .ok (.string z) (W.alloc (.cells (zc k) 5)))
    (hP : ∀ w, PutS 2 2 ⟨#[118]⟩ z r2 0 w) (hP2 : ∀ w, PutS 2 2 ⟨#[118]⟩ ⟨#[]⟩ r 0 w) (hG : ∀ w, GetS r 2 2 ⟨#[118]⟩ ⟨#[]⟩ 0 w) (hG2 : ∀ w, GetS r2 2 2 ⟨#[118]⟩ z 0 w) (hl : k ≤ 253) :
    Calls Try.prog 9 #[.int .i64 a0, .int .i64 a1] w fun e w' => e = .returned (.bool true) ∧ Below w.heap.size w w' := by
  have hmk := make_zeros k (by omega)
  have hk6 : (k : Int) ≤ 511 := by omega
  have hk7 : decide (253 < (k : Int)) = false := decide_eq_false (by omega)
  have hk8 : (249 : Int) + j = (k : Int) := hk.symm
  clear hk
  go_enter Try.func9, Try.ntmps9
  go_wp2_with fail
  refine (awake_calls _).mono ?_
  rintro _ w1 ⟨rfl, hb1⟩
  have B1 := hb1
  clear hb1
  go_wp2_with fail
  refine (hP _).use ?_
  rintro _ w2 ⟨rfl, hb2⟩
  replace B1 := (be_alloc B1 _).trans (hb2.mono (be_alloc B1 _).size)
  clear hb2
  go_wp2_with fail
  refine (hP2 _).use ?_
  rintro _ w3 ⟨rfl, hb3⟩
  replace B1 := B1.trans (hb3.mono B1.size)
  clear hb3
  go_wp2_with fail
  refine (hG _).use ?_
  rintro _ w4 ⟨rfl, hb4⟩
  replace B1 := B1.trans (hb4.mono B1.size)
  clear hb4
  go_wp2_with fail
  refine (hG2 _).use ?_
  rintro _ w5 ⟨rfl, hb5⟩
  have k2 := (Blk.new w4 _).below hb5
  replace B1 := (be_alloc B1 _).trans (hb5.mono (be_alloc B1 _).size)
  clear hb5
  obtain ⟨y0, y1, y2, y3⟩ := k2.cells4
  have hlt2 := k2.lt
  clear k2
  go_wp2_with (first | (go_at_call 22; refine (num_calls _ _).mono ?_; rintro _ _ ⟨rfl, rfl⟩))
  go_ret
  exact ⟨rfl, be_alloc B1 _⟩
set_option maxHeartbeats 1000000 in
set_option maxRecDepth 100000 in
theorem names_long2 (a0 a1 : Int) (j k : Nat) (z r : ByteArray) (w : World) (hq : Int.tmod (IntKind.u64.wrap a1) 4 = 2) (hj : Go.bits .and .i64 a0 7 = (j : Int)) (hj5 : j ≤ 7) (hk : (k : Int) = 249 + j)
    (hz : z.size = k) (hcz : ∀ (W : World) (b : Nat), b = W.heap.size → (convert 37 9 (.slice (some ⟨b, 0, none⟩) k k)).run Try.prog (W.alloc (.cells (zc k) 5)) = .ok (.string z) (W.alloc (.cells (zc k) 5)))
    (hP : ∀ w, PutS 3 2 ⟨#[]⟩ z ⟨#[]⟩ 601 w) (hP2 : ∀ w, PutS 3 2 ⟨#[]⟩ ⟨#[]⟩ r 0 w) (hG : ∀ w, GetS r 3 2 ⟨#[]⟩ ⟨#[]⟩ 0 w) (hl : 253 < k) :
    Calls Try.prog 9 #[.int .i64 a0, .int .i64 a1] w fun e w' => e = .returned (.bool true) ∧ Below w.heap.size w w' := by
  have hmk := make_zeros k (by omega)
  have hk6 : (k : Int) ≤ 511 := by omega
  have hk7 : decide (253 < (k : Int)) = true := decide_eq_true (by omega)
  have hk8 : (249 : Int) + j = (k : Int) := hk.symm
  clear hk
  go_enter Try.func9, Try.ntmps9
  go_wp2_with fail
  refine (awake_calls _).mono ?_
  rintro _ w1 ⟨rfl, hb1⟩
  have B1 := hb1
  clear hb1
  go_wp2_with fail
  refine (hP _).use ?_
  rintro _ w2 ⟨rfl, hb2⟩
  replace B1 := (be_alloc B1 _).trans (hb2.mono (be_alloc B1 _).size)
  clear hb2
  go_wp2_with fail
  refine (hP2 _).use ?_
  rintro _ w3 ⟨rfl, hb3⟩
  replace B1 := B1.trans (hb3.mono B1.size)
  clear hb3
  go_wp2_with fail
  refine (hG _).use ?_
  rintro _ w4 ⟨rfl, hb4⟩
  replace B1 := B1.trans (hb4.mono B1.size)
  clear hb4
  go_wp2_with (first | (go_at_call 22; refine (num_calls _ _).mono ?_; rintro _ _ ⟨rfl, rfl⟩))
  go_ret
  exact ⟨rfl, be_alloc B1 _⟩
set_option maxHeartbeats 1000000 in
set_option maxRecDepth 100000 in
theorem names_ok2 (a0 a1 : Int) (j k : Nat) (z r r2 : ByteArray) (w : World) (hq : Int.tmod (IntKind.u64.wrap a1) 4 = 2) (hj : Go.bits .and .i64 a0 7 = (j : Int)) (hj5 : j ≤ 7) (hk : (k : Int) = 249 + j)
    (hz : z.size = k) (hcz : ∀ (W : World) (b : Nat), b = W.heap.size → (convert 37 9 (.slice (some ⟨b, 0, none⟩) k k)).run Try.prog (W.alloc (.cells (zc k) 5)) = .ok (.string z) (W.alloc (.cells (zc k) 5)))
    (hP : ∀ w, PutS 3 2 ⟨#[]⟩ z r2 0 w) (hP2 : ∀ w, PutS 3 2 ⟨#[]⟩ ⟨#[]⟩ r 0 w) (hG : ∀ w, GetS r 3 2 ⟨#[]⟩ ⟨#[]⟩ 0 w) (hG2 : ∀ w, GetS r2 3 2 ⟨#[]⟩ z 0 w) (hl : k ≤ 253) :
    Calls Try.prog 9 #[.int .i64 a0, .int .i64 a1] w fun e w' => e = .returned (.bool true) ∧ Below w.heap.size w w' := by
  have hmk := make_zeros k (by omega)
  have hk6 : (k : Int) ≤ 511 := by omega
  have hk7 : decide (253 < (k : Int)) = false := decide_eq_false (by omega)
  have hk8 : (249 : Int) + j = (k : Int) := hk.symm
  clear hk
  go_enter Try.func9, Try.ntmps9
  go_wp2_with fail
  refine (awake_calls _).mono ?_
  rintro _ w1 ⟨rfl, hb1⟩
  have B1 := hb1
  clear hb1
  go_wp2_with fail
  refine (hP _).use ?_
  rintro _ w2 ⟨rfl, hb2⟩
  replace B1 := (be_alloc B1 _).trans (hb2.mono (be_alloc B1 _).size)
  clear hb2
  go_wp2_with fail
  refine (hP2 _).use ?_
  rintro _ w3 ⟨rfl, hb3⟩
  replace B1 := B1.trans (hb3.mono B1.size)
  clear hb3
  go_wp2_with fail
  refine (hG _).use ?_
  rintro _ w4 ⟨rfl, hb4⟩
  replace B1 := B1.trans (hb4.mono B1.size)
  clear hb4
  go_wp2_with fail
  refine (hG2 _).use ?_
  rintro _ w5 ⟨rfl, hb5⟩
  have k2 := (Blk.new w4 _).below hb5
  replace B1 := (be_alloc B1 _).trans (hb5.mono (be_alloc B1 _).size)
  clear hb5
  obtain ⟨y0, y1, y2, y3⟩ := k2.cells4
  have hlt2 := k2.lt
  clear k2
  go_wp2_with (first | (go_at_call 22; refine (num_calls _ _).mono ?_; rintro _ _ ⟨rfl, rfl⟩))
  go_ret
  exact ⟨rfl, be_alloc B1 _⟩
set_option maxHeartbeats 1000000 in
set_option maxRecDepth 100000 in
theorem names_long3 (a0 a1 : Int) (j k : Nat) (z r : ByteArray) (w : World) (hq : Int.tmod (IntKind.u64.wrap a1) 4 = 3) (hj : Go.bits .and .i64 a0 7 = (j : Int)) (hj5 : j ≤ 7) (hk : (k : Int) = 249 + j)
    (hz : z.size = k) (hcz : ∀ (W : World) (b : Nat), b = W.heap.size → (convert 37 9 (.slice (some ⟨b, 0, none⟩) k k)).run Try.prog (W.alloc (.cells (zc k) 5)) = .ok (.string z) (W.alloc (.cells (zc k) 5)))
    (hP : ∀ w, PutS 4 2 ⟨#[]⟩ z ⟨#[]⟩ 601 w) (hP2 : ∀ w, PutS 4 2 ⟨#[]⟩ ⟨#[]⟩ r 0 w) (hG : ∀ w, GetS r 4 2 ⟨#[]⟩ ⟨#[]⟩ 0 w) (hl : 253 < k) :
    Calls Try.prog 9 #[.int .i64 a0, .int .i64 a1] w fun e w' => e = .returned (.bool true) ∧ Below w.heap.size w w' := by
  have hmk := make_zeros k (by omega)
  have hk6 : (k : Int) ≤ 511 := by omega
  have hk7 : decide (253 < (k : Int)) = true := decide_eq_true (by omega)
  have hk8 : (249 : Int) + j = (k : Int) := hk.symm
  clear hk
  go_enter Try.func9, Try.ntmps9
  go_wp2_with fail
  refine (awake_calls _).mono ?_
  rintro _ w1 ⟨rfl, hb1⟩
  have B1 := hb1
  clear hb1
  go_wp2_with fail
  refine (hP _).use ?_
  rintro _ w2 ⟨rfl, hb2⟩
  replace B1 := (be_alloc B1 _).trans (hb2.mono (be_alloc B1 _).size)
  clear hb2
  go_wp2_with fail
  refine (hP2 _).use ?_
  rintro _ w3 ⟨rfl, hb3⟩
  replace B1 := B1.trans (hb3.mono B1.size)
  clear hb3
  go_wp2_with fail
  refine (hG _).use ?_
  rintro _ w4 ⟨rfl, hb4⟩
  replace B1 := B1.trans (hb4.mono B1.size)
  clear hb4
  go_wp2_with (first | (go_at_call 22; refine (num_calls _ _).mono ?_; rintro _ _ ⟨rfl, rfl⟩))
  go_ret
  exact ⟨rfl, be_alloc B1 _⟩
set_option maxHeartbeats 1000000 in
set_option maxRecDepth 100000 in
theorem names_ok3 (a0 a1 : Int) (j k : Nat) (z r r2 : ByteArray) (w : World) (hq : Int.tmod (IntKind.u64.wrap a1) 4 = 3) (hj : Go.bits .and .i64 a0 7 = (j : Int)) (hj5 : j ≤ 7) (hk : (k : Int) = 249 + j)
    (hz : z.size = k) (hcz : ∀ (W : World) (b : Nat), b = W.heap.size → (convert 37 9 (.slice (some ⟨b, 0, none⟩) k k)).run Try.prog (W.alloc (.cells (zc k) 5)) = .ok (.string z) (W.alloc (.cells (zc k) 5)))
    (hP : ∀ w, PutS 4 2 ⟨#[]⟩ z r2 0 w) (hP2 : ∀ w, PutS 4 2 ⟨#[]⟩ ⟨#[]⟩ r 0 w) (hG : ∀ w, GetS r 4 2 ⟨#[]⟩ ⟨#[]⟩ 0 w) (hG2 : ∀ w, GetS r2 4 2 ⟨#[]⟩ z 0 w) (hl : k ≤ 253) :
    Calls Try.prog 9 #[.int .i64 a0, .int .i64 a1] w fun e w' => e = .returned (.bool true) ∧ Below w.heap.size w w' := by
  have hmk := make_zeros k (by omega)
  have hk6 : (k : Int) ≤ 511 := by omega
  have hk7 : decide (253 < (k : Int)) = false := decide_eq_false (by omega)
  have hk8 : (249 : Int) + j = (k : Int) := hk.symm
  clear hk
  go_enter Try.func9, Try.ntmps9
  go_wp2_with fail
  refine (awake_calls _).mono ?_
  rintro _ w1 ⟨rfl, hb1⟩
  have B1 := hb1
  clear hb1
  go_wp2_with fail
  refine (hP _).use ?_
  rintro _ w2 ⟨rfl, hb2⟩
  replace B1 := (be_alloc B1 _).trans (hb2.mono (be_alloc B1 _).size)
  clear hb2
  go_wp2_with fail
  refine (hP2 _).use ?_
  rintro _ w3 ⟨rfl, hb3⟩
  replace B1 := B1.trans (hb3.mono B1.size)
  clear hb3
  go_wp2_with fail
  refine (hG _).use ?_
  rintro _ w4 ⟨rfl, hb4⟩
  replace B1 := B1.trans (hb4.mono B1.size)
  clear hb4
  go_wp2_with fail
  refine (hG2 _).use ?_
  rintro _ w5 ⟨rfl, hb5⟩
  have k2 := (Blk.new w4 _).below hb5
  replace B1 := (be_alloc B1 _).trans (hb5.mono (be_alloc B1 _).size)
  clear hb5
  obtain ⟨y0, y1, y2, y3⟩ := k2.cells4
  have hlt2 := k2.lt
  clear k2
  go_wp2_with (first | (go_at_call 22; refine (num_calls _ _).mono ?_; rintro _ _ ⟨rfl, rfl⟩))
  go_ret
  exact ⟨rfl, be_alloc B1 _⟩

/-- The value that the law takes by code. -/
def valOf (q : Nat) : List UInt8 := if q < 2 then [118] else []
theorem fit_names (q : Nat) (hq : q ≤ 3) : fit ((q : Int) + 1) 2 (valOf q) := by
  unfold fit valOf
  split
  · simp; omega
  · simp; omega

theorem names_calls (a0 a1 : Int) (w : World) :
    Calls Try.prog 9 #[.int .i64 a0, .int .i64 a1] w fun e w' => e = .returned (.bool true) ∧ Below w.heap.size w w' := by
  obtain ⟨q, hq, hq3⟩ := code_of a1
  obtain ⟨j, hj, hj7⟩ := and_mask a0 3 (by omega) 7 (by decide)
  have hj7 : j ≤ 7 := hj7
  obtain ⟨k, hk⟩ : ∃ k : Nat, (k : Int) = 249 + j := ⟨249 + j, by omega⟩
  have hz : (B (List.replicate k 0)).size = k := by rw [B_size]; simp
  have hcz := conv_zeros k
  have hf := fit_names q hq3
  have hP := put_any ((q : Int) + 1) 2 (valOf q) (List.replicate k 0)
  have hP2 := put_any ((q : Int) + 1) 2 (valOf q) []
  have e2 : putV ((q : Int) + 1) 2 (valOf q) [] = (msg ((q : Int) + 1) 2 (valOf q) [], 0) := by unfold putV; rw [if_pos hf, if_neg (by simp)]
  rw [e2] at hP2
  have hG : ∀ w, GetS (B (msg ((q : Int) + 1) 2 (valOf q) [])) ((q : Int) + 1) 2 (B (valOf q)) (B []) 0 w := by
    intro w
    have := get_any (msg ((q : Int) + 1) 2 (valOf q) []) w
    have e2 := getV_msg ((q : Int) + 1) 2 (valOf q) [] [] hf (by simp)
    rw [List.append_nil] at e2
    rw [e2] at this
    exact this
  have h4 : q = 0 ∨ q = 1 ∨ q = 2 ∨ q = 3 := by omega
  by_cases hl : 253 < k
  · have e : putV ((q : Int) + 1) 2 (valOf q) (List.replicate k 0) = ([], 601) := by unfold putV; rw [if_pos hf, if_pos (by simpa using hl)]
    rw [e] at hP
    rcases h4 with rfl | rfl | rfl | rfl
    · exact names_long0 a0 a1 j k _ _ w hq hj hj7 hk hz hcz hP hP2 hG hl
    · exact names_long1 a0 a1 j k _ _ w hq hj hj7 hk hz hcz hP hP2 hG hl
    · exact names_long2 a0 a1 j k _ _ w hq hj hj7 hk hz hcz hP hP2 hG hl
    · exact names_long3 a0 a1 j k _ _ w hq hj hj7 hk hz hcz hP hP2 hG hl
  · have e : putV ((q : Int) + 1) 2 (valOf q) (List.replicate k 0) = (msg ((q : Int) + 1) 2 (valOf q) (List.replicate k 0), 0) := by unfold putV; rw [if_pos hf, if_neg (by simpa using hl)]
    rw [e] at hP
    have hG2 : ∀ w, GetS (B (msg ((q : Int) + 1) 2 (valOf q) (List.replicate k 0))) ((q : Int) + 1) 2 (B (valOf q)) (B (List.replicate k 0)) 0 w := by
      intro w
      have := get_any (msg ((q : Int) + 1) 2 (valOf q) (List.replicate k 0)) w
      have e2 := getV_msg ((q : Int) + 1) 2 (valOf q) (List.replicate k 0) [] hf (by simp; omega)
      rw [List.append_nil] at e2
      rw [e2] at this
      exact this
    rcases h4 with rfl | rfl | rfl | rfl
    · exact names_ok0 a0 a1 j k _ _ _ w hq hj hj7 hk hz hcz hP hP2 hG hG2 (by omega)
    · exact names_ok1 a0 a1 j k _ _ _ w hq hj hj7 hk hz hcz hP hP2 hG hG2 (by omega)
    · exact names_ok2 a0 a1 j k _ _ _ w hq hj hj7 hk hz hcz hP hP2 hG hG2 (by omega)
    · exact names_ok3 a0 a1 j k _ _ _ w hq hj hj7 hk hz hcz hP hP2 hG hG2 (by omega)
end Go.Proofs.Ytoldjadadgokeaa.Ch6
