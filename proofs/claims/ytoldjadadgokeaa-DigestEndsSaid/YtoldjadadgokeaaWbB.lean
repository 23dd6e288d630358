/- withylaw13.DigestEnds answers true. No condition. -/
import Derived.Test.YtoldjadadgokeaaWbA
namespace Go.Proofs.Ytoldjadadgokeaa.Md
open Go.RowKit Go.Proofs.Ytoldjadadgokeaa.Bytes

/-- k bytes, the first i of them y, as cells. -/
def fc (k i : Nat) (y : UInt8) : Array Value := (cells8 (List.replicate i y ++ List.replicate (k - i) 0)).toArray
theorem fc_size (k i : Nat) (y : UInt8) (hi : i ≤ k) : (fc k i y).size = k := by
  unfold fc
  rw [List.size_toArray, cells8_length]
  simp; omega
theorem fc_get (k i j : Nat) (y : UInt8) (hj : j < k) (hi : i ≤ k) : (fc k i y)[j]? = some (.int .u8 (if j < i then y else 0).toNat) := by
  unfold fc cells8
  rw [List.getElem?_toArray, List.getElem?_map]
  by_cases h : j < i
  · rw [List.getElem?_append_left (by simpa using h), List.getElem?_replicate, if_pos h, if_pos h]; rfl
  · rw [List.getElem?_append_right (by simp; omega), List.getElem?_replicate, List.length_replicate, if_pos (by omega), if_neg h]; rfl
theorem fc_set (k i : Nat) (y : UInt8) (hi : i < k) : (fc k i y).setIfInBounds i (.int .u8 y.toNat) = fc k (i + 1) y := by
  apply Array.ext_getElem?
  intro j
  rw [Array.getElem?_setIfInBounds]
  by_cases hj : j < k
  · rw [fc_get k (i + 1) j y hj (by omega)]
    by_cases e : i = j
    · subst e
      rw [if_pos rfl, fc_size k i y (by omega), if_pos hi, if_pos (by omega)]
    · rw [if_neg e, fc_get k i j y hj (by omega)]
      have : (j < i + 1) ↔ (j < i) := by omega
      simp [this]
  · rw [if_neg (by omega), Array.getElem?_eq_none (by rw [fc_size k i y (by omega)]; omega), Array.getElem?_eq_none (by rw [fc_size k (i + 1) y (by omega)]; omega)]
theorem fc_zero (k : Nat) (y : UInt8) : zc k = fc k 0 y := by
  apply Array.ext_getElem?
  intro j
  by_cases hj : j < k
  · rw [fc_get k 0 j y hj (by omega)]
    simp [zc, madeCells, Nat.mod_one, hj]
  · rw [Array.getElem?_eq_none (by simp [zc, madeCells]; omega), Array.getElem?_eq_none (by rw [fc_size k 0 y (by omega)]; omega)]
theorem conv_fc (k bb : Nat) (y : UInt8) (hk : k < 1000) (W : World) (hb : Blk W bb (.cells (fc k k y) 5 (0, 0))) :
    (convert 37 9 (.slice (some ⟨bb, 0, none⟩) k k)).run Try.prog W = .ok (.string (B (List.replicate k y))) W := by
  have h : W.ownsRow 0 5 1 (.slice (some ⟨bb, 0, none⟩) k k) k (cells8 (List.replicate k y)) := by
    refine ⟨by rw [cells8_length]; simp, Or.inr ⟨bb, k, fc k k y, rfl, Nat.zero_le _, hb.out, Nat.le_refl _, by unfold maxLen; omega, by rw [fc_size k k y (Nat.le_refl _)]; simp, ?_⟩⟩
    unfold fc
    rw [Nat.sub_self, List.replicate_zero, List.append_nil, List.take_of_length_le (by rw [cells8_length]; simp)]
  exact own_text h

set_option maxHeartbeats 1000000 in
set_option maxRecDepth 100000 in
theorem ends_walk (many c : Int) (k : Nat) (y : UInt8) (s sx d z : ByteArray) (w : World) (hk : k < 256) (ha : Go.bits .and .i64 many 255 = (k : Int)) (hy : IntKind.u8.wrap c = (y.toNat : Int)) (hs : s = B (List.replicate k y)) (hd : d.size = 16)
    (c1 : ∀ W, (Op.stringOp .add s ⟨#[120]⟩).run Try.prog W = .ok (.string sx) W) (o0 : ∀ w, OfS s d w) (m0 : ∀ w, MdS s d w) (o1 : ∀ w, OfS sx z w) (m1 : ∀ w, MdS sx z w) :
    Calls Try.prog 13 #[.int .i64 many, .int .i64 c] w fun e w' => e = .returned (.bool true) ∧ Below w.heap.size w w' := by
  have hmk : ∀ w, (Instr.makeSlice 37 (.int .i64 (k : Int)) (.int .i64 (k : Int))).run Try.prog w = .ok (.slice (some ⟨w.heap.size, 0, none⟩) k k) (w.alloc (.cells (fc k 0 y) 5)) := by
    rw [← fc_zero]; exact make_zeros k (by omega)
  have Hs := Lib.hid hs
  have Hd := Lib.hid hd
  clear hs hd
  have B0 := Below.refl w.heap.size w
  go_enter Try.func13, Try.ntmps13
  go_wp2_with fail
  refine (awake13_calls _).mono ?_
  rintro _ w0 ⟨rfl, hb⟩
  replace B0 := B0.trans (hb.mono B0.size)
  clear hb
  go_wp2
  go_loopw [7] (fun t wr => ∃ i : Nat, i ≤ k ∧ t = .int .i64 i ∧ Blk wr w0.heap.size (.cells (fc k i y) 5 (0, 0)) ∧ Below w.heap.size w wr) (fun t _ => k - (intOf t).toNat)
  case atStart => exact ⟨0, by omega, rfl, Blk.new w0 _, be_alloc B0 _⟩
  case round =>
    obtain ⟨i, hi, rfl, hblk, hbel⟩ := hrel
    have hsz := B0.size
    by_cases hlt : i < k
    · have hlt' : (i : Int) < k := by omega
      have hf := hblk.frozen i
      have hc := (hblk.cell i).trans (fc_get k i i y hlt (by omega))
      have hset := Lib.hid (fc_set k i y hlt)
      go_wp2
      go_roundw
      case rel =>
        have kk := hblk.set (i := i) (v := .int .u8 y.toNat)
        rw [hset.out] at kk
        exact ⟨i + 1, by omega, by go_num, kk, be_set hbel hsz⟩
      case measure => simp [intOf]; omega
    · have hge : (k : Int) ≤ i := by omega
      have hik : i = k := by omega
      rw [hik] at hblk
      have hcv := conv_fc k w0.heap.size y (by omega) wr hblk
      rw [← Hs.out] at hcv
      clear hik hblk hlt
      go_wp2_with fail
      refine (o0 _).use ?_
      rintro _ w1 ⟨rfl, hb⟩
      replace B0 := hbel.trans (hb.mono hbel.size)
      clear hb hcv
      go_wp2_with fail
      refine (m0 _).use ?_
      rintro _ w2 ⟨rfl, hb⟩
      replace B0 := B0.trans (hb.mono B0.size)
      clear hb
      go_wp2_with fail
      refine (o0 _).use ?_
      rintro _ w3 ⟨rfl, hb⟩
      replace B0 := B0.trans (hb.mono B0.size)
      clear hb
      have hd := Hd.out
      go_wp2_with fail
      refine (o1 _).use ?_
      rintro _ w4 ⟨rfl, hb⟩
      replace B0 := B0.trans (hb.mono B0.size)
      clear hb
      go_wp2_with fail
      refine (m1 _).use ?_
      rintro _ w5 ⟨rfl, hb⟩
      replace B0 := B0.trans (hb.mono B0.size)
      clear hb
      go_wp2_with (go_at_call 22; refine (Ch6.num_calls _ _).mono ?_; rintro _ _ ⟨rfl, rfl⟩)
      go_ret
      exact ⟨rfl, B0⟩
theorem ends_calls (many c : Int) (w : World) : Calls Try.prog 13 #[.int .i64 many, .int .i64 c] w fun e w' => e = .returned (.bool true) ∧ Below w.heap.size w w' := by
  obtain ⟨k, hk⟩ : ∃ k : Nat, many % 256 = (k : Int) := ⟨(many % 256).toNat, by omega⟩
  have hl : (List.replicate k (lowByte c)).length = k := List.length_replicate
  have hk2 : k < 256 := by omega
  refine ends_walk many c k (lowByte c) (B (List.replicate k (lowByte c))) (B (List.replicate k (lowByte c) ++ [120])) _ _ w hk2 (by rw [and255, hk]) (lowByte_wrap c) rfl (by rw [B_size, md5_length])
    (add_run _ [120] (by rw [hl]; simp; omega)) (of_any _ (by rw [hl]; omega)) (md_any _ (by rw [hl]; omega)) (of_any _ (by rw [List.length_append, hl]; simp; omega)) (md_any _ (by rw [List.length_append, hl]; simp; omega))
end Go.Proofs.Ytoldjadadgokeaa.Md
