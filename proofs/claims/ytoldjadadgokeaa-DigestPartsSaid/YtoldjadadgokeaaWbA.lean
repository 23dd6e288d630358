/- withylaw13.awake, Digests and DigestChaps answer true. Conditions: the strings are short enough for the reference's (the program's) digest. -/
import Derived.Test.YtoldjadadgokeaaCd
import Derived.Test.YtoldjadadgokeaaAw
namespace Go.Proofs.Ytoldjadadgokeaa.Md
open Go.RowKit Go.Proofs.Ytoldjadadgokeaa.Bytes

theorem known_abc : hexOf (md5 [97, 98, 99]) = [57, 48, 48, 49, 53, 48, 57, 56, 51, 99, 100, 50, 52, 102, 98, 48, 100, 54, 57, 54, 51, 102, 55, 100, 50, 56, 101, 49, 55, 102, 55, 50] := by decide +kernel
set_option maxHeartbeats 1000000 in
set_option maxRecDepth 100000 in
theorem awake13_walk (d z : ByteArray) (w : World) (o0 : ∀ w, OfS ⟨#[97, 98, 99]⟩ d w)
    (x0 : ∀ w, HexS d ⟨#[57, 48, 48, 49, 53, 48, 57, 56, 51, 99, 100, 50, 52, 102, 98, 48, 100, 54, 57, 54, 51, 102, 55, 100, 50, 56, 101, 49, 55, 102, 55, 50]⟩ w)
    (d0 : ∀ w, DcS 7 ⟨#[115]⟩ ⟨#[99]⟩ z w) (r0 : ∀ w, RcS 7 ⟨#[115]⟩ ⟨#[99]⟩ z w) :
    Calls Try.prog 43 #[] w fun e w' => e = .returned (.bool true) ∧ Below w.heap.size w w' := by
  go_enter Try.func43, Try.ntmps43
  have B0 := Below.refl w.heap.size w
  go_wp2_with fail
  refine (o0 _).use ?_
  rintro _ w0 ⟨rfl, hb⟩
  replace B0 := B0.trans (hb.mono B0.size)
  clear hb
  go_wp2_with fail
  refine (x0 _).use ?_
  rintro _ w1 ⟨rfl, hb⟩
  replace B0 := B0.trans (hb.mono B0.size)
  clear hb
  go_wp2_with fail
  refine (d0 _).use ?_
  rintro _ w2 ⟨rfl, hb⟩
  replace B0 := B0.trans (hb.mono B0.size)
  clear hb
  go_wp2_with fail
  refine (r0 _).use ?_
  rintro _ w3 ⟨rfl, hb⟩
  replace B0 := B0.trans (hb.mono B0.size)
  clear hb
  go_wp2_with (go_at_call 22; refine (Ch6.num_calls _ _).mono ?_; rintro _ _ ⟨rfl, rfl⟩)
  go_ret
  exact ⟨rfl, B0⟩
theorem awake13_calls (w : World) : Calls Try.prog 43 #[] w fun e w' => e = .returned (.bool true) ∧ Below w.heap.size w w' := by
  refine awake13_walk (B (md5 [97, 98, 99])) (B (md5 (chapIn 7 [115] [99]))) w ?_ ?_ ?_ ?_
  · exact of_any [97, 98, 99] (by decide)
  · intro w; have := hex_any (md5 [97, 98, 99]) (by rw [md5_length]; decide) w; rw [known_abc] at this; exact this
  · exact dchap_any 7 [115] [99] (by decide)
  · exact rchap_any 7 [115] [99] (by decide)

set_option maxHeartbeats 1000000 in
set_option maxRecDepth 100000 in
theorem digests_walk (s : ByteArray) (id : Int) (k c d z : ByteArray) (w : World) (o0 : ∀ w, OfS s d w) (m0 : ∀ w, MdS s d w) (d0 : ∀ w, DcS id k c z w) (r0 : ∀ w, RcS id k c z w) :
    Calls Try.prog 11 #[.string s, .int .i64 id, .string k, .string c] w fun e w' => e = .returned (.bool true) ∧ Below w.heap.size w w' := by
  go_enter Try.func11, Try.ntmps11
  have B0 := Below.refl w.heap.size w
  go_wp2_with fail
  refine (o0 _).use ?_
  rintro _ w0 ⟨rfl, hb⟩
  replace B0 := B0.trans (hb.mono B0.size)
  clear hb
  go_wp2_with fail
  refine (m0 _).use ?_
  rintro _ w1 ⟨rfl, hb⟩
  replace B0 := B0.trans (hb.mono B0.size)
  clear hb
  go_wp2_with fail
  refine (d0 _).use ?_
  rintro _ w2 ⟨rfl, hb⟩
  replace B0 := B0.trans (hb.mono B0.size)
  clear hb
  go_wp2_with fail
  refine (r0 _).use ?_
  rintro _ w3 ⟨rfl, hb⟩
  replace B0 := B0.trans (hb.mono B0.size)
  clear hb
  go_wp2_with (go_at_call 43; refine (awake13_calls _).mono ?_; rintro _ w4 ⟨rfl, hb⟩)
  go_ret
  exact ⟨rfl, B0.trans (hb.mono B0.size)⟩
theorem digests_calls (s : ByteArray) (id : Int) (k c : ByteArray) (w : World) (hs : s.size < 90000000000000) (hkc : k.size + c.size < 90000000000000) :
    Calls Try.prog 11 #[.string s, .int .i64 id, .string k, .string c] w fun e w' => e = .returned (.bool true) ∧ Below w.heap.size w w' := by
  obtain ⟨s, rfl⟩ := B_of s
  obtain ⟨k, rfl⟩ := B_of k
  obtain ⟨c, rfl⟩ := B_of c
  rw [B_size] at hs
  rw [B_size, B_size] at hkc
  exact digests_walk _ id _ _ _ _ w (of_any s (by omega)) (md_any s (by omega)) (dchap_any id k c (by omega)) (rchap_any id k c (by omega))

set_option maxHeartbeats 1000000 in
set_option maxRecDepth 100000 in
theorem digestChaps_walk (id j : Int) (y : UInt8) (p q r k c d : ByteArray) (w : World) (hd : d.size = 16) (ha : Go.bits .and .i64 id 255 = j) (hj : j = (y.toNat : Int)) (hy0 : (y.toNat : Int) ≤ 255)
    (k1 : ∀ W : World, (convert 37 9 (.slice (some ⟨W.heap.size, 0, none⟩) 1 1)).run Try.prog (W.alloc (.cells #[.int .u8 (y.toNat : Int)] 5)) = .ok (.string p) (W.alloc (.cells #[.int .u8 (y.toNat : Int)] 5)))
    (c1 : ∀ W, (Op.stringOp .add p k).run Try.prog W = .ok (.string q) W) (c2 : ∀ W, (Op.stringOp .add q c).run Try.prog W = .ok (.string r) W) (o0 : ∀ w, OfS r d w)
    (d0 : ∀ w, DcS id k c d w) (d1 : ∀ w, DcS (y.toNat : Int) k c d w) :
    Calls Try.prog 12 #[.int .i64 id, .string k, .string c] w fun e w' => e = .returned (.bool true) ∧ Below w.heap.size w w' := by
  subst hj
  have B0 := Below.refl w.heap.size w
  go_enter Try.func12, Try.ntmps12
  go_wp2_with fail
  refine (awake13_calls _).mono ?_
  rintro _ w0 ⟨rfl, hb⟩
  replace B0 := B0.trans (hb.mono B0.size)
  clear hb
  go_wp2_with fail
  refine (d0 _).use ?_
  rintro _ w1 ⟨rfl, hb⟩
  replace B0 := B0.trans (hb.mono B0.size)
  clear hb
  go_wp2_with fail
  refine (o0 _).use ?_
  rintro _ w2 ⟨rfl, hb⟩
  replace B0 := (be_alloc B0 _).trans (hb.mono (be_alloc B0 _).size)
  clear hb
  go_wp2_with fail
  refine (d1 _).use ?_
  rintro _ w3 ⟨rfl, hb⟩
  replace B0 := B0.trans (hb.mono B0.size)
  clear hb
  go_wp2_with fail
  go_ret
  exact ⟨rfl, B0⟩
theorem digestChaps_calls (id : Int) (k c : ByteArray) (w : World) (hk : k.size ≤ 140737488351232) (hc : c.size ≤ 140737488351232) :
    Calls Try.prog 12 #[.int .i64 id, .string k, .string c] w fun e w' => e = .returned (.bool true) ∧ Below w.heap.size w w' := by
  obtain ⟨k, rfl⟩ := B_of k
  obtain ⟨c, rfl⟩ := B_of c
  rw [B_size] at hk hc
  refine digestChaps_walk id (id % 256) (lowByte id) (B [lowByte id]) (B ([lowByte id] ++ k)) (B ([lowByte id] ++ k ++ c)) _ _ (B (md5 (chapIn id k c))) w (by rw [B_size, md5_length]) (and255 id) (lowByte_int id).symm (by have := (lowByte id).toNat_lt; omega)
    (conv_one _) (add_run _ _ (by simp; omega)) (add_run _ _ (by simp; omega)) ?_ (dchap_any id k c (by omega)) ?_
  · exact of_any (chapIn id k c) (by simp [chapIn]; omega)
  · have h := dchap_any ((lowByte id).toNat : Int) k c (by omega)
    unfold chapIn at h ⊢
    rw [lowByte_int, lowByte_and, ← lowByte_int] at h
    exact h
end Go.Proofs.Ytoldjadadgokeaa.Md
