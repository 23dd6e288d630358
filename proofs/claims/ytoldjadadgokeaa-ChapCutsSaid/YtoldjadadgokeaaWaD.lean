/- withylaw6.ChapCuts answers true, whatever numbers and string it is given. No condition. -/
import Derived.Test.YtoldjadadgokeaaWaC
import Derived.Deep.QuietTactic
import Derived.BigQuiet
namespace Go.Proofs.Ytoldjadadgokeaa.Ch6
open Go.RowKit Go.Proofs.Ytoldjadadgokeaa.Bytes
attribute [local go_sem] B_size ByteArray.size_append
theorem conv5 (W : World) (b : Nat) (x y z u v : Int) (hb : b = W.heap.size) :
    (convert 37 9 (.slice (some ⟨b, 0, none⟩) 5 5)).run Try.prog (W.alloc (.cells #[.int .u8 x, .int .u8 y, .int .u8 z, .int .u8 u, .int .u8 v] 5))
      = .ok (.string (B [UInt8.ofNat x.toNat, UInt8.ofNat y.toNat, UInt8.ofNat z.toNat, UInt8.ofNat u.toNat, UInt8.ofNat v.toNat])) (W.alloc (.cells #[.int .u8 x, .int .u8 y, .int .u8 z, .int .u8 u, .int .u8 v] 5)) :=
  conv_new W b [x, y, z, u, v] hb 5 rfl _ rfl
theorem ext100 (a : ByteArray) (h : 100 ≤ a.size) : (a.extract 0 100).size = 100 := by
  obtain ⟨l, rfl⟩ := B_of a
  rw [B_size] at h
  rw [B_extract, B_size]; simp; omega
theorem num_same (e : Int) (w : World) : Calls Try.prog 22 #[.int .i64 e] w fun e' w' => e' = .returned (.int .i64 e) ∧ w' = w :=
  (num_calls e w).mono fun _ _ h => ⟨h.1, h.2.symm⟩
set_option maxHeartbeats 1000000 in
set_option maxRecDepth 100000 in
theorem cuts_low (a0 a1 : Int) (k v : Nat) (a2 m s : ByteArray) (w : World) (hk : Go.bits .and .i64 a0 127 = (k : Int)) (hv : Go.bits .and .i64 a1 63 = (v : Int)) (hk5 : (k : Int) ≤ 127) (hv5 : (v : Int) ≤ 63) (hn : Named a2 m) (hm : m.size ≤ 100)
    (hs : B [1, 5, 0, UInt8.ofNat k, UInt8.ofNat v] ++ m = s) (hG : ∀ w, GetS s 0 0 ⟨#[]⟩ ⟨#[]⟩ 600 w) (h1 : k < 5) :
    Calls Try.prog 8 #[.int .i64 a0, .int .i64 a1, .string a2] w fun e w' => e = .returned (.bool true) ∧ Below w.heap.size w w' := by
  have c5 := conv5
  have f1 : decide ((k : Int) < 5) = true := decide_eq_true (by omega)
  rcases hn with ⟨hn, rfl⟩ | ⟨hn, hn2, rfl⟩
  · go_enter Try.func8, Try.ntmps8
    go_wp2_with fail
    refine (awake_calls _).mono ?_
    rintro _ w1 ⟨rfl, hb1⟩
    have B1 := hb1
    clear hb1
    go_wp2_with fail
    refine (hG _).use ?_
    rintro _ w2 ⟨rfl, hb2⟩
    replace B1 := (be_alloc B1 _).trans (hb2.mono (be_alloc B1 _).size)
    clear hb2
    go_wp2_with (first | (go_at_call 22; refine (num_calls _ _).mono ?_; rintro _ _ ⟨rfl, rfl⟩))
    go_ret
    exact ⟨rfl, be_alloc B1 _⟩
  · have hn3 : min 100 a2.size = 100 := by omega
    have he := ext100 a2 hn2
    clear he
    go_enter Try.func8, Try.ntmps8
    go_wp2_with fail
    refine (awake_calls _).mono ?_
    rintro _ w1 ⟨rfl, hb1⟩
    have B1 := hb1
    clear hb1
    go_wp2_with fail
    refine (hG _).use ?_
    rintro _ w2 ⟨rfl, hb2⟩
    replace B1 := (be_alloc B1 _).trans (hb2.mono (be_alloc B1 _).size)
    clear hb2
    go_wp2_with (first | (go_at_call 22; refine (num_calls _ _).mono ?_; rintro _ _ ⟨rfl, rfl⟩))
    go_ret
    exact ⟨rfl, be_alloc B1 _⟩
set_option maxHeartbeats 1000000 in
set_option maxRecDepth 100000 in
theorem cuts_past (a0 a1 : Int) (k v : Nat) (a2 m s : ByteArray) (w : World) (hk : Go.bits .and .i64 a0 127 = (k : Int)) (hv : Go.bits .and .i64 a1 63 = (v : Int)) (hk5 : (k : Int) ≤ 127) (hv5 : (v : Int) ≤ 63) (hn : Named a2 m) (hm : m.size ≤ 100)
    (hs : B [1, 5, 0, UInt8.ofNat k, UInt8.ofNat v] ++ m = s) (hG : ∀ w, GetS s 0 0 ⟨#[]⟩ ⟨#[]⟩ 600 w) (h1 : 5 ≤ k) (h2 : m.size + 5 < k) :
    Calls Try.prog 8 #[.int .i64 a0, .int .i64 a1, .string a2] w fun e w' => e = .returned (.bool true) ∧ Below w.heap.size w w' := by
  have c5 := conv5
  have f1 : decide ((k : Int) < 5) = false := decide_eq_false (by omega)
  have f2 : decide (m.size + 5 < k) = true := decide_eq_true (by omega)
  have f3 : decide ((m.size : Int) + 5 < k) = true := decide_eq_true (by omega)
  rcases hn with ⟨hn, rfl⟩ | ⟨hn, hn2, rfl⟩
  · go_enter Try.func8, Try.ntmps8
    go_wp2_with fail
    refine (awake_calls _).mono ?_
    rintro _ w1 ⟨rfl, hb1⟩
    have B1 := hb1
    clear hb1
    go_wp2_with fail
    refine (hG _).use ?_
    rintro _ w2 ⟨rfl, hb2⟩
    replace B1 := (be_alloc B1 _).trans (hb2.mono (be_alloc B1 _).size)
    clear hb2
    go_wp2_with (first | (go_at_call 22; refine (num_calls _ _).mono ?_; rintro _ _ ⟨rfl, rfl⟩))
    go_ret
    exact ⟨rfl, be_alloc B1 _⟩
  · have hn3 : min 100 a2.size = 100 := by omega
    have he := ext100 a2 hn2
    have g1 : (105 : Int) < k := by omega
    clear he
    go_enter Try.func8, Try.ntmps8
    go_wp2_with fail
    refine (awake_calls _).mono ?_
    rintro _ w1 ⟨rfl, hb1⟩
    have B1 := hb1
    clear hb1
    go_wp2_with fail
    refine (hG _).use ?_
    rintro _ w2 ⟨rfl, hb2⟩
    replace B1 := (be_alloc B1 _).trans (hb2.mono (be_alloc B1 _).size)
    clear hb2
    go_wp2_with (first | (go_at_call 22; refine (num_calls _ _).mono ?_; rintro _ _ ⟨rfl, rfl⟩))
    go_ret
    exact ⟨rfl, be_alloc B1 _⟩
set_option maxHeartbeats 1000000 in
set_option maxRecDepth 100000 in
theorem cuts_none (a0 a1 : Int) (k v : Nat) (a2 m s : ByteArray) (w : World) (hk : Go.bits .and .i64 a0 127 = (k : Int)) (hv : Go.bits .and .i64 a1 63 = (v : Int)) (hk5 : (k : Int) ≤ 127) (hv5 : (v : Int) ≤ 63) (hn : Named a2 m) (hm : m.size ≤ 100)
    (hs : B [1, 5, 0, UInt8.ofNat k, UInt8.ofNat v] ++ m = s) (hG : ∀ w, GetS s 0 0 ⟨#[]⟩ ⟨#[]⟩ 600 w) (h1 : 5 ≤ k) (h2 : k ≤ m.size + 5) (h3 : v = 0) :
    Calls Try.prog 8 #[.int .i64 a0, .int .i64 a1, .string a2] w fun e w' => e = .returned (.bool true) ∧ Below w.heap.size w w' := by
  have c5 := conv5
  have f1 : decide ((k : Int) < 5) = false := decide_eq_false (by omega)
  have f2 : decide (m.size + 5 < k) = false := decide_eq_false (by omega)
  have f3 : decide ((m.size : Int) + 5 < k) = false := decide_eq_false (by omega)
  subst h3
  replace hv : Go.bits .and .i64 a1 63 = 0 := hv
  replace hs : B [1, 5, 0, UInt8.ofNat k, 0] ++ m = s := hs
  rcases hn with ⟨hn, rfl⟩ | ⟨hn, hn2, rfl⟩
  · go_enter Try.func8, Try.ntmps8
    go_wp2_with fail
    refine (awake_calls _).mono ?_
    rintro _ w1 ⟨rfl, hb1⟩
    have B1 := hb1
    clear hb1
    go_wp2_with fail
    refine (hG _).use ?_
    rintro _ w2 ⟨rfl, hb2⟩
    replace B1 := (be_alloc B1 _).trans (hb2.mono (be_alloc B1 _).size)
    clear hb2
    go_wp2_with (first | (go_at_call 22; refine (num_calls _ _).mono ?_; rintro _ _ ⟨rfl, rfl⟩))
    go_ret
    exact ⟨rfl, be_alloc B1 _⟩
  · have hn3 : min 100 a2.size = 100 := by omega
    have he := ext100 a2 hn2
    have g1 : (k : Int) ≤ 105 := by omega
    clear he
    go_enter Try.func8, Try.ntmps8
    go_wp2_with fail
    refine (awake_calls _).mono ?_
    rintro _ w1 ⟨rfl, hb1⟩
    have B1 := hb1
    clear hb1
    go_wp2_with fail
    refine (hG _).use ?_
    rintro _ w2 ⟨rfl, hb2⟩
    replace B1 := (be_alloc B1 _).trans (hb2.mono (be_alloc B1 _).size)
    clear hb2
    go_wp2_with (first | (go_at_call 22; refine (num_calls _ _).mono ?_; rintro _ _ ⟨rfl, rfl⟩))
    go_ret
    exact ⟨rfl, be_alloc B1 _⟩
set_option maxHeartbeats 1000000 in
set_option maxRecDepth 100000 in
theorem cuts_wide (a0 a1 : Int) (k v : Nat) (a2 m s : ByteArray) (w : World) (hk : Go.bits .and .i64 a0 127 = (k : Int)) (hv : Go.bits .and .i64 a1 63 = (v : Int)) (hk5 : (k : Int) ≤ 127) (hv5 : (v : Int) ≤ 63) (hn : Named a2 m) (hm : m.size ≤ 100)
    (hs : B [1, 5, 0, UInt8.ofNat k, UInt8.ofNat v] ++ m = s) (hG : ∀ w, GetS s 0 0 ⟨#[]⟩ ⟨#[]⟩ 600 w) (h1 : 5 ≤ k) (h2 : k ≤ m.size + 5) (h3 : 1 ≤ v) (h4 : k < v + 5) :
    Calls Try.prog 8 #[.int .i64 a0, .int .i64 a1, .string a2] w fun e w' => e = .returned (.bool true) ∧ Below w.heap.size w w' := by
  have c5 := conv5
  have f1 : decide ((k : Int) < 5) = false := decide_eq_false (by omega)
  have f2 : decide (m.size + 5 < k) = false := decide_eq_false (by omega)
  have f3 : decide ((m.size : Int) + 5 < k) = false := decide_eq_false (by omega)
  have f4 : ((v : Int) == 0) = false := by simp; omega
  have f5 : decide ((k : Int) - 5 < v) = true := decide_eq_true (by omega)
  rcases hn with ⟨hn, rfl⟩ | ⟨hn, hn2, rfl⟩
  · go_enter Try.func8, Try.ntmps8
    go_wp2_with fail
    refine (awake_calls _).mono ?_
    rintro _ w1 ⟨rfl, hb1⟩
    have B1 := hb1
    clear hb1
    go_wp2_with fail
    refine (hG _).use ?_
    rintro _ w2 ⟨rfl, hb2⟩
    replace B1 := (be_alloc B1 _).trans (hb2.mono (be_alloc B1 _).size)
    clear hb2
    go_wp2_with (first | (go_at_call 22; refine (num_calls _ _).mono ?_; rintro _ _ ⟨rfl, rfl⟩))
    go_ret
    exact ⟨rfl, be_alloc B1 _⟩
  · have hn3 : min 100 a2.size = 100 := by omega
    have he := ext100 a2 hn2
    have g1 : (k : Int) ≤ 105 := by omega
    clear he
    go_enter Try.func8, Try.ntmps8
    go_wp2_with fail
    refine (awake_calls _).mono ?_
    rintro _ w1 ⟨rfl, hb1⟩
    have B1 := hb1
    clear hb1
    go_wp2_with fail
    refine (hG _).use ?_
    rintro _ w2 ⟨rfl, hb2⟩
    replace B1 := (be_alloc B1 _).trans (hb2.mono (be_alloc B1 _).size)
    clear hb2
    go_wp2_with (first | (go_at_call 22; refine (num_calls _ _).mono ?_; rintro _ _ ⟨rfl, rfl⟩))
    go_ret
    exact ⟨rfl, be_alloc B1 _⟩
set_option maxHeartbeats 1000000 in
set_option maxRecDepth 100000 in
theorem cuts_ok (a0 a1 : Int) (k v : Nat) (a2 m s : ByteArray) (w : World) (hk : Go.bits .and .i64 a0 127 = (k : Int)) (hv : Go.bits .and .i64 a1 63 = (v : Int)) (hk5 : (k : Int) ≤ 127) (hv5 : (v : Int) ≤ 63) (hn : Named a2 m) (hm : m.size ≤ 100)
    (hs : B [1, 5, 0, UInt8.ofNat k, UInt8.ofNat v] ++ m = s) (hG : ∀ w, GetS s 1 5 (m.extract 0 v) (m.extract v (k - 5)) 0 w) (h1 : 5 ≤ k) (h2 : k ≤ m.size + 5) (h3 : 1 ≤ v) (h4 : v + 5 ≤ k) :
    Calls Try.prog 8 #[.int .i64 a0, .int .i64 a1, .string a2] w fun e w' => e = .returned (.bool true) ∧ Below w.heap.size w w' := by
  have c5 := conv5
  have f1 : decide ((k : Int) < 5) = false := decide_eq_false (by omega)
  have f2 : decide (m.size + 5 < k) = false := decide_eq_false (by omega)
  have f3 : decide ((m.size : Int) + 5 < k) = false := decide_eq_false (by omega)
  have f4 : ((v : Int) == 0) = false := by simp; omega
  have f5 : decide ((k : Int) - 5 < v) = false := decide_eq_false (by omega)
  have f6 : ((k : Int) - 5).toNat = k - 5 := by omega
  have f7 : IntKind.i64.wrap ((k : Int) - 5) = (k : Int) - 5 := by rw [IntKind.wrap_i64]; omega
  have f8 : (v : Int) ≤ (k : Int) - 5 := by omega
  have f9 : (k : Int) - 5 ≤ m.size := by omega
  have f10 : v ≤ m.size := by omega
  rcases hn with ⟨hn, rfl⟩ | ⟨hn, hn2, rfl⟩
  · go_enter Try.func8, Try.ntmps8
    go_wp2_with fail
    refine (awake_calls _).mono ?_
    rintro _ w1 ⟨rfl, hb1⟩
    have B1 := hb1
    clear hb1
    go_wp2_with fail
    refine (hG _).use ?_
    rintro _ w2 ⟨rfl, hb2⟩
    replace B1 := (be_alloc B1 _).trans (hb2.mono (be_alloc B1 _).size)
    clear hb2
    go_wp2_with fail
    go_quiet ((go_at_call 22; exact Calls.quiet_of_same (num_same _ _)))
    go_wp2
    go_ret
    exact ⟨rfl, by repeat (with_reducible first | exact be_alloc B1 _ | apply be_drewN | apply be_drew)⟩
  · have hn3 : min 100 a2.size = 100 := by omega
    have he := ext100 a2 hn2
    have g1 : (k : Int) ≤ 105 := by omega
    clear he
    go_enter Try.func8, Try.ntmps8
    go_wp2_with fail
    refine (awake_calls _).mono ?_
    rintro _ w1 ⟨rfl, hb1⟩
    have B1 := hb1
    clear hb1
    go_wp2_with fail
    refine (hG _).use ?_
    rintro _ w2 ⟨rfl, hb2⟩
    replace B1 := (be_alloc B1 _).trans (hb2.mono (be_alloc B1 _).size)
    clear hb2
    go_wp2_with fail
    go_quiet ((go_at_call 22; exact Calls.quiet_of_same (num_same _ _)))
    go_wp2
    go_ret
    exact ⟨rfl, by repeat (with_reducible first | exact be_alloc B1 _ | apply be_drewN | apply be_drew)⟩

theorem cuts_calls (a0 a1 : Int) (a2 : ByteArray) (w : World) :
    Calls Try.prog 8 #[.int .i64 a0, .int .i64 a1, .string a2] w fun e w' => e = .returned (.bool true) ∧ Below w.heap.size w w' := by
  obtain ⟨k, hk, hk7⟩ := and_mask a0 7 (by omega) 127 (by decide)
  obtain ⟨v, hv, hv7⟩ := and_mask a1 6 (by omega) 63 (by decide)
  have hk7 : k ≤ 127 := hk7
  have hv7 : v ≤ 63 := hv7
  obtain ⟨m, hn, hm⟩ := named_of a2
  obtain ⟨d, rfl⟩ := B_of m
  have hd : (B d).size = d.length := B_size d
  have hk8 : (UInt8.ofNat k).toNat = k := u8_nat (by omega)
  have hv8 : (UInt8.ofNat v).toNat = v := u8_nat (by omega)
  have hs : B [1, 5, 0, UInt8.ofNat k, UInt8.ofNat v] ++ B d = B (1 :: 5 :: 0 :: UInt8.ofNat k :: UInt8.ofNat v :: d) := B_append _ _
  have hG := get_any (1 :: 5 :: 0 :: UInt8.ofNat k :: UInt8.ofNat v :: d)
  by_cases hbad : k < 5 ∨ d.length + 5 < k ∨ v = 0 ∨ k < v + 5
  · have e : getV (1 :: 5 :: 0 :: UInt8.ofNat k :: UInt8.ofNat v :: d) = bad := by
      simp only [getV, hk8]
      by_cases h1 : k < 4 ∨ d.length + 5 < k
      · rw [if_pos (by simp only [List.length_cons]; simp; omega)]
      · rw [if_neg (by simp only [List.length_cons]; simp; omega), if_pos (by decide)]
        by_cases h2 : k = 4
        · subst h2
          have e4 : List.take ((0 : UInt8).toNat * 256 + 4 - 4) (UInt8.ofNat v :: d) = [] := by simp
          rw [e4]
        · obtain ⟨i, hi⟩ : ∃ i, k = i + 5 := ⟨k - 5, by omega⟩
          have e2 : List.take ((0 : UInt8).toNat * 256 + k - 4) (UInt8.ofNat v :: d) = UInt8.ofNat v :: d.take i := by rw [hi]; simp
          rw [e2]
          simp only [hv8]
          rw [if_pos (by rw [List.length_take]; omega)]
    rw [e] at hG
    by_cases h1 : k < 5
    · exact cuts_low a0 a1 k v a2 _ _ w hk hv (by omega) (by omega) hn hm hs hG h1
    by_cases h2 : d.length + 5 < k
    · exact cuts_past a0 a1 k v a2 _ _ w hk hv (by omega) (by omega) hn hm hs hG (by omega) (by omega)
    by_cases h3 : v = 0
    · exact cuts_none a0 a1 k v a2 _ _ w hk hv (by omega) (by omega) hn hm hs hG (by omega) (by omega) h3
    · exact cuts_wide a0 a1 k v a2 _ _ w hk hv (by omega) (by omega) hn hm hs hG (by omega) (by omega) (by omega) (by omega)
  · have e : getV (1 :: 5 :: 0 :: UInt8.ofNat k :: UInt8.ofNat v :: d) = (1, 5, d.take v, (d.drop v).take (k - 5 - v), 0) := by
      simp only [getV, hk8]
      rw [if_neg (by simp only [List.length_cons]; simp; omega), if_pos (by decide)]
      obtain ⟨i, hi⟩ : ∃ i, k = i + 5 := ⟨k - 5, by omega⟩
      have e2 : List.take ((0 : UInt8).toNat * 256 + k - 4) (UInt8.ofNat v :: d) = UInt8.ofNat v :: d.take i := by rw [hi]; simp
      rw [e2]
      simp only [hv8]
      rw [if_neg (by rw [List.length_take]; omega), if_neg (by rw [List.length_take]; omega), List.take_take, List.drop_take, Nat.min_eq_left (by omega), hi, Nat.add_sub_cancel]
      rfl
    rw [e] at hG
    have hG2 : ∀ w, GetS (B (1 :: 5 :: 0 :: UInt8.ofNat k :: UInt8.ofNat v :: d)) 1 5 ((B d).extract 0 v) ((B d).extract v (k - 5)) 0 w := by
      intro w
      rw [B_extract, B_extract]
      exact hG w
    exact cuts_ok a0 a1 k v a2 _ _ w hk hv (by omega) (by omega) hn hm hs hG2 (by omega) (by omega) (by omega) (by omega)
end Go.Proofs.Ytoldjadadgokeaa.Ch6
