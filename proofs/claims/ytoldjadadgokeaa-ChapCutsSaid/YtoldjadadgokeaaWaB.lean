/- withylaw6.ChapBack answers true, whatever message and string it is given. No condition but that the string fits into memory. -/
import Derived.Test.YtoldjadadgokeaaAw
namespace Go.Proofs.Ytoldjadadgokeaa.Ch6
open Go.RowKit Go.Proofs.Ytoldjadadgokeaa.Bytes

set_option maxHeartbeats 1000000 in
set_option maxRecDepth 100000 in
theorem back_bad (c id e : Int) (v n : ByteArray) (more : ByteArray) (w : World) (hP : ∀ w, PutS c id v n ⟨#[]⟩ e w) (he : (e != 0) = true) :
    Calls Try.prog 4 #[.agg #[.int .i64 c, .int .i64 id, .string v, .string n], .string more] w fun e w' => e = .returned (.bool true) ∧ Below w.heap.size w w' := by
  go_enter Try.func4, Try.ntmps4
  go_wp2_with fail
  refine (awake_calls _).mono ?_
  rintro _ w1 ⟨rfl, hb1⟩
  have k1 := (Blk.new w _).below hb1
  have B1 := (be_alloc (Below.refl w.heap.size w) _).trans (hb1.mono (be_alloc (Below.refl w.heap.size w) _).size)
  clear hb1
  obtain ⟨x0, x1, x2, x3⟩ := k1.cells4
  go_wp2_with fail
  refine (hP _).use ?_
  rintro _ w2 ⟨rfl, hb2⟩
  replace B1 := B1.trans (hb2.mono B1.size)
  clear hb2 x0 x1 x2 x3 k1
  go_wp2_with (first | (go_at_call 22; refine (num_calls _ _).mono ?_; rintro _ _ ⟨rfl, rfl⟩))
  go_ret
  exact ⟨rfl, B1⟩

set_option maxHeartbeats 1000000 in
set_option maxRecDepth 100000 in
theorem back_ok (c id : Int) (v n r : ByteArray) (more : ByteArray) (w : World) (hP : ∀ w, PutS c id v n r 0 w)
    (hG : ∀ w, GetS (r ++ more) c id v n 0 w) (hH : ∀ w, GetS (r.extract 0 (r.size - 1)) 0 0 ⟨#[]⟩ ⟨#[]⟩ 600 w) (h1 : 1 ≤ r.size) (h2 : r.size ≤ 10000) (h3 : more.size ≤ 140737488351232) :
    Calls Try.prog 4 #[.agg #[.int .i64 c, .int .i64 id, .string v, .string n], .string more] w fun e w' => e = .returned (.bool true) ∧ Below w.heap.size w w' := by
  have h4 : r.size + more.size ≤ 9223372036854775807 := by omega
  have h5 : ((r.size : Int) - 1).toNat = r.size - 1 := by omega
  go_enter Try.func4, Try.ntmps4
  go_wp2_with fail
  refine (awake_calls _).mono ?_
  rintro _ w1 ⟨rfl, hb1⟩
  have k1 := (Blk.new w _).below hb1
  have B1 := (be_alloc (Below.refl w.heap.size w) _).trans (hb1.mono (be_alloc (Below.refl w.heap.size w) _).size)
  clear hb1
  obtain ⟨x0, x1, x2, x3⟩ := k1.cells4
  go_wp2_with fail
  refine (hP _).use ?_
  rintro _ w2 ⟨rfl, hb2⟩
  replace B1 := B1.trans (hb2.mono B1.size)
  replace k1 := k1.below hb2
  clear hb2 x0 x1 x2 x3
  go_wp2_with (first | (go_at_call 22; refine (num_calls _ _).mono ?_; rintro _ _ ⟨rfl, rfl⟩))
  refine (hG _).use ?_
  rintro _ w3 ⟨rfl, hb3⟩
  replace B1 := B1.trans (hb3.mono B1.size)
  replace k1 := k1.below hb3
  clear hb3
  go_wp2_with fail
  refine (hH _).use ?_
  rintro _ w4 ⟨rfl, hb4⟩
  have k2 := (Blk.new w3 _).below hb4
  replace k1 := (k1.alloc _).below hb4
  replace B1 := (be_alloc B1 _).trans (hb4.mono (be_alloc B1 _).size)
  clear hb4
  obtain ⟨x0, x1, x2, x3⟩ := k1.cells4
  obtain ⟨y0, y1, y2, y3⟩ := k2.cells4
  have hlt1 := k1.lt
  have hlt2 := k2.lt
  clear k1 k2
  go_wp2_with (first | (go_at_call 22; refine (num_calls _ _).mono ?_; rintro _ _ ⟨rfl, rfl⟩))
  go_ret
  exact ⟨rfl, be_alloc B1 _⟩

theorem body_length (c : Int) (v n : List UInt8) (h1 : v.length ≤ 255) (h2 : n.length ≤ 253) : (body c v n).length ≤ 509 := by
  unfold body; split
  · simp only [List.length_cons, List.length_append]; omega
  · omega

theorem u8_nat {n : Nat} (h : n < 256) : (UInt8.ofNat n).toNat = n := by rw [UInt8.toNat_ofNat']; omega

theorem getV_msg (c id : Int) (v n more : List UInt8) (hf : fit c id v) (hn : n.length ≤ 253) : getV (msg c id v n ++ more) = (c, id, v, n, 0) := by
  obtain ⟨f1, f2, f3, f4, f5, f6⟩ := hf
  have hb := body_length c v n f6 hn
  unfold msg
  simp only [List.cons_append, getV]
  rw [u8_nat (n := c.toNat) (by omega), u8_nat (n := id.toNat) (by omega), u8_nat (by omega), u8_nat (by omega)]
  rw [show (4 + (body c v n).length) / 256 * 256 + (4 + (body c v n).length) % 256 = 4 + (body c v n).length from by omega]
  rw [if_neg (by simp only [List.length_append]; omega), show 4 + (body c v n).length - 4 = (body c v n).length from by omega]
  rw [List.take_left' rfl]
  by_cases hc : c ≤ 2
  · rw [if_pos (by omega)]
    have hv := f5.1 hc
    unfold body
    rw [if_pos hc]
    simp only []
    rw [u8_nat (by omega), if_neg (by simp only [List.length_append]; omega), if_neg (by simp only [List.length_append]; omega), List.take_left' rfl, List.drop_left' rfl]
    rw [show ((c.toNat : Nat) : Int) = c from by omega, show ((id.toNat : Nat) : Int) = id from by omega]
  · rw [if_neg (by omega)]
    have hv : v = [] := List.eq_nil_of_length_eq_zero (by omega)
    subst hv
    unfold body
    rw [if_neg hc, if_neg (by omega)]
    rw [show ((c.toNat : Nat) : Int) = c from by omega, show ((id.toNat : Nat) : Int) = id from by omega]

theorem msg_length (c id : Int) (v n : List UInt8) : (msg c id v n).length = (body c v n).length + 4 := by simp [msg]

theorem getV_cut (c id : Int) (v n : List UInt8) (hf : fit c id v) (hn : n.length ≤ 253) : getV ((msg c id v n).take ((msg c id v n).length - 1)) = bad := by
  obtain ⟨f1, f2, f3, f4, f5, f6⟩ := hf
  have hb := body_length c v n f6 hn
  rw [msg_length]
  unfold msg
  cases hbd : body c v n with
  | nil => rfl
  | cons a t =>
    rw [hbd] at hb
    simp only [List.length_cons, show t.length + 1 + 4 - 1 = t.length + 4 from by omega] at hb ⊢
    simp only [show t.length + 4 = t.length + 1 + 1 + 1 + 1 from rfl, List.take_succ_cons, getV]
    rw [u8_nat (n := c.toNat) (by omega), u8_nat (n := (4 + (t.length + 1)) / 256) (by omega), u8_nat (n := (4 + (t.length + 1)) % 256) (by omega)]
    rw [if_pos (by simp only [List.length_take, List.length_cons]; omega)]

theorem back_calls (c id : Int) (v n more : ByteArray) (w : World) (h : more.size ≤ 140737488351232) :
    Calls Try.prog 4 #[.agg #[.int .i64 c, .int .i64 id, .string v, .string n], .string more] w fun e w' => e = .returned (.bool true) ∧ Below w.heap.size w w' := by
  obtain ⟨v, rfl⟩ := B_of v
  obtain ⟨n, rfl⟩ := B_of n
  by_cases hf : fit c id v
  · by_cases hn : 253 < n.length
    · have e : putV c id v n = ([], 601) := by unfold putV; rw [if_pos hf, if_pos hn]
      have hP := put_any c id v n
      rw [e] at hP
      exact back_bad c id 601 _ _ _ w hP rfl
    · have e : putV c id v n = (msg c id v n, 0) := by unfold putV; rw [if_pos hf, if_neg hn]
      have hP := put_any c id v n
      rw [e] at hP
      have hl := body_length c v n hf.2.2.2.2.2 (by omega)
      have hm := msg_length c id v n
      obtain ⟨m, rfl⟩ := B_of more
      refine back_ok c id _ _ _ _ w hP ?_ ?_ (by rw [B_size]; show 1 ≤ (msg c id v n).length; omega) (by rw [B_size]; show (msg c id v n).length ≤ 10000; omega) h
      · intro w
        have := get_any (msg c id v n ++ m) w
        rw [getV_msg c id v n m hf (by omega)] at this
        rw [B_append]
        exact this
      · intro w
        have := get_any ((msg c id v n).take ((msg c id v n).length - 1)) w
        rw [getV_cut c id v n hf (by omega)] at this
        rw [B_extract, B_size]
        exact this
  · have e : putV c id v n = ([], 600) := by unfold putV; rw [if_neg hf]
    have hP := put_any c id v n
    rw [e] at hP
    exact back_bad c id 600 _ _ _ w hP rfl
end Go.Proofs.Ytoldjadadgokeaa.Ch6
