/- What the reference's Md5 answers: MD5. Condition: the text is shorter than 10^14 bytes. -/
import Derived.Test.YtoldjadadgokeaaAp
import Derived.Test.YtoldjadadgokeaaRb
import Derived.Deep.OwnRows
import Derived.Deep.RegionWith
import Derived.Laws.Tables
namespace Go.Proofs.Ytoldjadadgokeaa.Md
open Go.RowKit Go.Proofs.Ytoldjadadgokeaa.Bytes

/-- The world behind '[]byte(s)'. -/
def cvW (W : World) (s : ByteArray) : World := W.drew.alloc (.cells (bytesRow s (grownCap W s.size 0 5)) 5 ((bytesRow s (grownCap W s.size 0 5)).size, (bytesRow s (grownCap W s.size 0 5)).size + 1))
def cvCap (W : World) (s : ByteArray) : Nat := grownCap W s.size 0 5
theorem conv_run (s : ByteArray) (W : World) : (convert 9 37 (.string s)).run Try.prog W = .ok (.slice (some ⟨W.heap.size, 0, none⟩) s.size (cvCap W s)) (cvW W s) :=
  run_bytes_of_string W 9 37 5 s Try.underlying9 Try.underlying37 Try.underlying5
theorem cvW_below (W : World) (s : ByteArray) : Below W.heap.size W (cvW W s) := ((Below.refl _ _).drew).alloc (Nat.le_refl _) _
theorem cvW_row (W : World) (s : ByteArray) (l : List UInt8) (hs : s = B l) (hl : l.length ≤ maxLen) : Row8 (cvW W s) W.heap.size (.slice (some ⟨W.heap.size, 0, none⟩) s.size (cvCap W s)) l := by
  subst hs; exact Row8.conv W l hl
/-- How long a slice is. -/
def sliceLen : Value → Nat | .slice _ n _ => n | _ => 0
/-- The text with its mark and k zeros. -/
def marked (l : List UInt8) (k : Nat) : List UInt8 := l ++ 128 :: List.replicate k 0
theorem marked_len (l : List UInt8) (k : Nat) : (marked l k).length = l.length + 1 + k := by simp [marked]; omega
theorem marked_zero (l : List UInt8) : marked l 0 = l ++ [128] := rfl
theorem marked_succ (l : List UInt8) (k : Nat) : marked l (k + 1) = marked l k ++ [0] := by
  unfold marked
  rw [List.replicate_succ']
  simp
/-- A number in eight bytes, the low one first. -/
def lb (X : Nat) : List UInt8 := (List.range 8).map fun i => UInt8.ofNat (X / 2 ^ (8 * i))
theorem lb_length (X : Nat) : (lb X).length = 8 := rfl
theorem lb_take (X i : Nat) (hi : i < 8) : (lb X).take (i + 1) = (lb X).take i ++ [UInt8.ofNat (X / 2 ^ (8 * i))] := by
  rw [List.take_succ_eq_append_getElem (show i < (lb X).length from hi)]
  simp [lb]
theorem u8_of {a : Nat} {b : UInt8} (h : a % 256 = b.toNat) : UInt8.ofNat a = b := by
  apply UInt8.toNat_inj.1
  rw [UInt8.toNat_ofNat', ← h]
theorem lb_le4 (X : Nat) : lb X = le4 (UInt32.ofNat X) ++ le4 (UInt32.ofNat (X / 4294967296)) := by
  have s8 : ∀ x : UInt32, (x >>> 8).toNat = x.toNat / 256 := fun x => by rw [UInt32.toNat_shiftRight, Nat.shiftRight_eq_div_pow]; rfl
  have s16 : ∀ x : UInt32, (x >>> 16).toNat = x.toNat / 65536 := fun x => by rw [UInt32.toNat_shiftRight, Nat.shiftRight_eq_div_pow]; rfl
  have s24 : ∀ x : UInt32, (x >>> 24).toNat = x.toNat / 16777216 := fun x => by rw [UInt32.toNat_shiftRight, Nat.shiftRight_eq_div_pow]; rfl
  show [UInt8.ofNat (X / 1), UInt8.ofNat (X / 256), UInt8.ofNat (X / 65536), UInt8.ofNat (X / 16777216), UInt8.ofNat (X / 4294967296), UInt8.ofNat (X / 1099511627776), UInt8.ofNat (X / 281474976710656), UInt8.ofNat (X / 72057594037927936)] = _
  unfold le4
  simp only [List.cons_append, List.nil_append]
  congr 1
  · exact u8_of (by rw [UInt32.toNat_toUInt8, UInt32.toNat_ofNat']; omega)
  congr 1
  · exact u8_of (by rw [UInt32.toNat_toUInt8, s8, UInt32.toNat_ofNat']; omega)
  congr 1
  · exact u8_of (by rw [UInt32.toNat_toUInt8, s16, UInt32.toNat_ofNat']; omega)
  congr 1
  · exact u8_of (by rw [UInt32.toNat_toUInt8, s24, UInt32.toNat_ofNat']; omega)
  congr 1
  · exact u8_of (by rw [UInt32.toNat_toUInt8, UInt32.toNat_ofNat']; omega)
  congr 1
  · exact u8_of (by rw [UInt32.toNat_toUInt8, s8, UInt32.toNat_ofNat']; omega)
  congr 1
  · exact u8_of (by rw [UInt32.toNat_toUInt8, s16, UInt32.toNat_ofNat']; omega)
  congr 1
  · exact u8_of (by rw [UInt32.toNat_toUInt8, s24, UInt32.toNat_ofNat']; omega)
theorem padded_marked (l : List UInt8) : padded l = marked l (zerosOf l.length) ++ lb (8 * l.length) := by
  rw [lb_le4]
  unfold padded marked
  simp
theorem padded_length_eq (l : List UInt8) : (padded l).length = l.length + 1 + zerosOf l.length + 8 := by rw [padded_marked, List.length_append, marked_len, lb_length]
theorem bytesSt_length (st : St) : (bytesSt st).length = 16 := rfl
theorem But.trans {b : Nat} {w w1 w2 : World} (h : But b w w1) (h2 : But b w1 w2) : But b w w2 :=
  ⟨h2.os.trans h.os, h2.tape.trans h.tape, h2.output.trans h.output, Nat.le_trans h.size h2.size, fun k hk hne => (h2.block k (Nat.lt_of_lt_of_le hk h.size) hne).trans (h.block k hk hne)⟩
/-- Word i of what a digest is worked out in. -/
def stw (st : St) (i : Nat) : UInt32 := [st.a, st.b, st.c, st.d].getD i 0
theorem hCells_get (st : St) (i : Nat) (hi : i < 4) : (hCells st)[i]? = some (.int .u32 (stw st i).toNat) := by
  have h4 : i = 0 ∨ i = 1 ∨ i = 2 ∨ i = 3 := by omega
  rcases h4 with rfl | rfl | rfl | rfl <;> rfl
theorem le4_get (x : UInt32) (j : Nat) (hj : j < 4) : (le4 x)[j]? = some (UInt8.ofNat (x.toNat / 2 ^ (8 * j))) := by
  have s8 : (x >>> 8).toNat = x.toNat / 256 := by rw [UInt32.toNat_shiftRight, Nat.shiftRight_eq_div_pow]; rfl
  have s16 : (x >>> 16).toNat = x.toNat / 65536 := by rw [UInt32.toNat_shiftRight, Nat.shiftRight_eq_div_pow]; rfl
  have s24 : (x >>> 24).toNat = x.toNat / 16777216 := by rw [UInt32.toNat_shiftRight, Nat.shiftRight_eq_div_pow]; rfl
  have h4 : j = 0 ∨ j = 1 ∨ j = 2 ∨ j = 3 := by omega
  rcases h4 with rfl | rfl | rfl | rfl
  · show some x.toUInt8 = some (UInt8.ofNat (x.toNat / 1))
    rw [u8_of (a := x.toNat / 1) (b := x.toUInt8) (by rw [UInt32.toNat_toUInt8]; omega)]
  · show some (x >>> 8).toUInt8 = some (UInt8.ofNat (x.toNat / 256))
    rw [u8_of (a := x.toNat / 256) (b := (x >>> 8).toUInt8) (by rw [UInt32.toNat_toUInt8, s8])]
  · show some (x >>> 16).toUInt8 = some (UInt8.ofNat (x.toNat / 65536))
    rw [u8_of (a := x.toNat / 65536) (b := (x >>> 16).toUInt8) (by rw [UInt32.toNat_toUInt8, s16])]
  · show some (x >>> 24).toUInt8 = some (UInt8.ofNat (x.toNat / 16777216))
    rw [u8_of (a := x.toNat / 16777216) (b := (x >>> 24).toUInt8) (by rw [UInt32.toNat_toUInt8, s24])]
theorem bytesSt_get (st : St) (i j : Nat) (hi : i < 4) (hj : j < 4) : (bytesSt st)[4 * i + j]? = (le4 (stw st i))[j]? := by
  have h4 : i = 0 ∨ i = 1 ∨ i = 2 ∨ i = 3 := by omega
  have k4 : j = 0 ∨ j = 1 ∨ j = 2 ∨ j = 3 := by omega
  rcases h4 with rfl | rfl | rfl | rfl <;> rcases k4 with rfl | rfl | rfl | rfl <;> rfl
theorem bytesSt_take (st : St) (i j : Nat) (hi : i < 4) (hj : j < 4) : (bytesSt st).take (4 * i + j + 1) = (bytesSt st).take (4 * i + j) ++ [UInt8.ofNat ((stw st i).toNat / 2 ^ (8 * j))] := by
  have h := (bytesSt_get st i j hi hj).trans (le4_get (stw st i) j hj)
  have hl : 4 * i + j < (bytesSt st).length := by rw [bytesSt_length]; omega
  rw [List.take_succ_eq_append_getElem hl]
  rw [List.getElem?_eq_getElem hl] at h
  injection h with h
  rw [h]

set_option maxHeartbeats 2000000 in
set_option maxRecDepth 100000 in
theorem md5_calls (s : ByteArray) (l : List UInt8) (w : World) (hs : s = B l) (hl : l.length < 100000000000000) :
    Calls Try.prog 41 #[.string s] w fun e w' => e = .returned (.string (B (md5 l))) ∧ Below w.heap.size w w' := by
  have hsz : s.size = l.length := by rw [hs, B_size]
  have hconv := conv_run s
  have hrow := fun W => cvW_row W s l hs (by unfold maxLen; omega)
  have HR := Lib.hid hrow
  have Hs := Lib.hid hs
  have Hsz := Lib.hid hsz
  clear hs hsz hrow
  obtain ⟨i5, hi5, hz0, hz1, hz2⟩ := info_parts info5
  have H5 := Lib.hid (And.intro hi5 (And.intro hz0 (And.intro hz1 hz2)))
  clear hi5 hz0 hz1 hz2
  have hR0 := (HR.out ((w.alloc (.cells #[.int .u32 1732584193, .int .u32 4023233417, .int .u32 2562383102, .int .u32 271733878] 84)).alloc (.cells kVals 84))).alloc (.cells #[.int .u8 128] 5)
  rw [show ((w.alloc (.cells #[.int .u32 1732584193, .int .u32 4023233417, .int .u32 2562383102, .int .u32 271733878] 84)).alloc (.cells kVals 84)).heap.size = w.heap.size + 1 + 1 by simp] at hR0
  have HR0 := Lib.hid hR0
  clear hR0 HR
  have hk0 := Blk.new (w.alloc (.cells #[.int .u32 1732584193, .int .u32 4023233417, .int .u32 2562383102, .int .u32 271733878] 84)) (.cells kVals 84)
  have hh0 := (Blk.new w (.cells #[.int .u32 1732584193, .int .u32 4023233417, .int .u32 2562383102, .int .u32 271733878] 84)).alloc (.cells kVals 84)
  have hb0 := ((Below.refl w.heap.size w).alloc (Nat.le_refl _) (.cells #[.int .u32 1732584193, .int .u32 4023233417, .int .u32 2562383102, .int .u32 271733878] 84)).alloc (by simp) (.cells kVals 84)
  have hb1 := cvW_below ((w.alloc (.cells #[.int .u32 1732584193, .int .u32 4023233417, .int .u32 2562383102, .int .u32 271733878] 84)).alloc (.cells kVals 84)) s
  have Hall := Lib.hid (And.intro hk0 (And.intro hh0 (And.intro hb0 hb1)))
  clear hk0 hh0 hb0 hb1
  go_enter Try.func41, Try.ntmps41
  go_wp2_with (first | (go_at_call 56; refine (sines_calls _).mono ?_; rintro e w2 ⟨rfl, rfl⟩) | (at_builtin; go_must (refine wpList_append8 rfl (.tmp 15) (.tmp 16) rfl rfl HR0.out ⟨(cvW ((w.alloc (.cells #[.int .u32 1732584193, .int .u32 4023233417, .int .u32 2562383102, .int .u32 271733878] 84)).alloc (.cells kVals 84)) s).heap.size, 0, none⟩ _ rfl 128 ?c1 ?c2 ?_)))
  case c1 => exact (cell_of_row _ _ 0 _ 5 (0, 0) (heap_alloc_new _ _)).trans rfl
  case c2 => omega
  intro v1 w1 hr1 hg1
  clear hconv
  obtain ⟨hk0, hh0, hb0, hb1⟩ := Hall.out
  obtain ⟨hb, hhb⟩ : ∃ hb, hb = w.heap.size := ⟨_, rfl⟩
  have hb2 := (hb1.alloc hb1.size (.cells #[.int .u8 128] 5)).grown hg1 (by have := hb1.size; simp at this ⊢; omega) (fun g hg => by have := HR0.out.lt g hg; simp; omega)
  have hsz0 : ((w.alloc (.cells #[.int .u32 1732584193, .int .u32 4023233417, .int .u32 2562383102, .int .u32 271733878] 84)).alloc (.cells kVals 84)).heap.size = w.heap.size + 1 + 1 := by simp
  rw [hsz0] at hb2
  rw [show (w.alloc (.cells #[.int .u32 1732584193, .int .u32 4023233417, .int .u32 2562383102, .int .u32 271733878] 84)).heap.size = w.heap.size + 1 by simp] at hk0
  clear hg1 hb1 HR0 Hall
  generalize (w.alloc (.cells #[.int .u32 1732584193, .int .u32 4023233417, .int .u32 2562383102, .int .u32 271733878] 84)).alloc (.cells kVals 84) = W0 at *
  rw [← marked_zero] at hr1
  have Hh0 := Lib.hid hh0
  have Hk0 := Lib.hid hk0
  have Hsz0 := Lib.hid hsz0
  have Hb0 := Lib.hid hb0
  clear hh0 hk0 hsz0 hb0
  obtain ⟨z, hz⟩ : ∃ z, z = zerosOf l.length := ⟨_, rfl⟩
  have hz1 : (l.length + 1 + z) % 64 = 56 ∧ z < 64 ∧ ∀ k, k < z → (l.length + 1 + k) % 64 ≠ 56 := by
    rw [hz]; unfold zerosOf; refine ⟨by omega, by omega, fun k hk => by omega⟩
  have Hz := Lib.hid hz
  have Hz1 := Lib.hid hz1
  clear hz hz1
  go_wp2_with fail
  go_loopw [5] (fun v wr => ∃ k : Nat, k ≤ z ∧ Row8 wr (w.heap.size + 1 + 1) v (marked l k) ∧ Below (w.heap.size + 1 + 1) W0 wr) (fun v _ => l.length + 1 + z - sliceLen v)
  case atStart => exact ⟨0, by omega, hr1, hb2⟩
  case round =>
    obtain ⟨k, hk, hr, hbel⟩ := hrel
    have hr' := Lib.hid hr
    obtain ⟨g, cap, rfl, h1, h2, h3, h4, _⟩ := hr.out
    have hlen := marked_len l k
    obtain ⟨L, hL⟩ : ∃ L, L = (marked l k).length := ⟨_, rfl⟩
    rw [← hL] at h2 hlen hr' ⊢
    have hcapL : L < 100000000000100 := by have := Hz1.out.2.1; omega
    obtain ⟨m, hm⟩ : ∃ m, m = L % 64 := ⟨_, rfl⟩
    have e1 : (L : Int) % 64 = (m : Int) := by omega
    have HL := Lib.hid hL
    have Hlen := Lib.hid hlen
    by_cases hlt : k < z
    · have hne : m ≠ 56 := by rw [hm, hlen]; exact Hz1.out.2.2 k hlt
      have hne1 : ((m : Int) == 56) = false := by rw [beq_eq_false_iff_ne]; omega
      have hne2 : ((m : Int) != 56) = true := by rw [bne_iff_ne]; omega
      clear hr hL hlen hm
      go_wp2_with (at_builtin; go_must (refine wpList_append8 rfl (.tmp 22) (.tmp 23) rfl rfl (hr'.out.alloc _) ⟨wr.heap.size, 0, none⟩ _ rfl 0 ?c1 ?c2 ?_))
      case c1 => exact (cell_of_row _ _ 0 _ 5 (0, 0) (heap_alloc_new _ _)).trans rfl
      case c2 => rw [← HL.out]; omega
      intro v2 w2 hr2 hg2
      rw [← marked_succ] at hr2
      have hb3 := (hbel.alloc (by have := hbel.size; rw [Hsz0.out] at this; exact this) (.cells #[.int .u8 0] 5)).grown hg2 (by have := hbel.size; rw [Hsz0.out] at this; simp; omega) (fun j hj => hr'.out.lt j hj)
      clear hg2
      go_wp2
      go_roundw
      case rel => exact ⟨k + 1, by omega, hr2, hb3⟩
      case measure =>
        obtain ⟨g2, cap2, rfl, _⟩ := hr2.out
        rw [marked_len]
        simp only [sliceLen]
        have := Hlen.out
        omega
    · have hkz : k = z := by omega
      have hne : m = 56 := by rw [hm, hlen, hkz]; exact Hz1.out.1
      have hne1 : ((m : Int) == 56) = true := by rw [beq_iff_eq]; omega
      have hne2 : ((m : Int) != 56) = false := by rw [bne_eq_false_iff_eq]; omega
      clear hr hL hlen hm hne
      have hr2 := hr'.out
      rw [hkz] at hr2
      obtain ⟨X, hX⟩ : ∃ X, X = 8 * l.length := ⟨_, rfl⟩
      have x1 : IntKind.u64.wrap (s.size : Int) = (s.size : Int) := by have := Hsz.out; simp [IntKind.wrap, IntKind.bits, IntKind.signed]; omega
      have x2 : IntKind.u64.wrap ((s.size : Int) * 8) = (X : Int) := by have := Hsz.out; simp [IntKind.wrap, IntKind.bits, IntKind.signed]; omega
      have HX := Lib.hid hX
      have hXb : X < 800000000000000 := by omega
      clear hX hkz hlt hr'
      go_wp2
      clear x1 x2 e1 hne1 hne2
      obtain ⟨wo, rfl⟩ : ∃ wo : World, wo = wr := ⟨_, rfl⟩
      go_loopw [5, 7] (fun v t wr => ∃ i : Nat, i ≤ 8 ∧ t = .int .i64 i ∧ Row8 wr (w.heap.size + 1 + 1) v (marked l z ++ (lb X).take i) ∧ Below (w.heap.size + 1 + 1) W0 wr) (fun _ t _ => 8 - (intOf t).toNat)
      case atStart => exact ⟨0, by omega, rfl, by rw [List.take_zero, List.append_nil]; exact hr2, hbel⟩
      case round =>
        obtain ⟨i, hi, rfl, hr, hbel⟩ := hrel
        have hr' := Lib.hid hr
        obtain ⟨g, cap, rfl, h1, h2, h3, h4, _⟩ := hr.out
        clear hr2 hr1 hb2
        by_cases hlt : i < 8
        · have hlt' : (i : Int) < 8 := by omega
          have hlen2 : (marked l z ++ (lb X).take i).length = l.length + 1 + z + i := by rw [List.length_append, marked_len, List.length_take, lb_length]; omega
          obtain ⟨M, hM⟩ : ∃ M, M = (marked l z ++ (lb X).take i).length := ⟨_, rfl⟩
          rw [← hM] at h2 hlen2 hr' ⊢
          have HM := Lib.hid (And.intro hM hlen2)
          obtain ⟨V, hV⟩ : ∃ V, V = X / 2 ^ (8 * i) := ⟨_, rfl⟩
          have v1 : (X : Int) / 2 ^ (8 * i) = (V : Int) := by rw [hV]; simp
          have v2 : (8 * (i : Int)).toNat = 8 * i := by omega
          have v3 : min (8 * i) 64 = 8 * i := Nat.min_eq_left (by omega)
          have v4 : V < 800000000000000 := by rw [hV]; exact Nat.lt_of_le_of_lt (Nat.div_le_self _ _) hXb
          have v5 : IntKind.i64.wrap (8 * (i : Int)) = 8 * (i : Int) := by rw [IntKind.wrap_i64]; omega
          have v6 : Go.bits .and .u64 (V : Int) 255 = (V : Int) % 256 := by
            have := Go.bits_mask .u64 50 (by decide) (fun n h0 h1 => by simp [IntKind.wrap, IntKind.bits, IntKind.signed]; omega) 8 (by decide) V (by omega) (by omega)
            have e : ((2 : Int) ^ 8 - 1) = 255 := by decide
            rw [e] at this
            rw [this]; rfl
          have HV := Lib.hid hV
          clear hr hM hlen2 hV
          go_wp2_with (at_builtin; go_must (refine wpList_append8 rfl (.tmp 33) (.tmp 40) rfl rfl (hr'.out.alloc _) ⟨wr.heap.size, 0, none⟩ _ rfl (UInt8.ofNat V) ?c1 ?c2 ?_))
          case c1 =>
            rw [cell_of_row _ _ 0 _ 5 (0, 0) (heap_alloc_new _ _), UInt8.toNat_ofNat']
            simp
          case c2 => rw [← HM.out.1, HM.out.2]; have := Hz1.out.2.1; omega
          intro v7 w2 hr2 hg2
          have hb3 := (hbel.alloc (by have := hbel.size; rw [Hsz0.out] at this; exact this) (.cells #[.int .u8 ((V : Int) % 256)] 5)).grown hg2 (by have := hbel.size; rw [Hsz0.out] at this; simp; omega) (fun j hj => hr'.out.lt j hj)
          clear hg2
          go_wp2
          go_roundw
          case rel => exact ⟨i + 1, by omega, by go_num, by rw [lb_take X i hlt, ← HV.out, ← List.append_assoc]; exact (List.append_assoc (marked l z) _ _).symm ▸ hr2, hb3⟩
          case measure => simp [intOf]; omega
        · have hge : (8 : Int) ≤ i := by omega
          have hi8 : i = 8 := by omega
          have hr2 := hr'.out
          rw [hi8, List.take_of_length_le (by rw [lb_length]; omega), Hz.out, HX.out, ← padded_marked] at hr2
          obtain ⟨N, hN, hN1⟩ := padded_length l
          have hmd : md5 l = bytesSt (blocks N (padded l) h0) := by
            unfold md5
            rw [hN, Nat.mul_div_cancel_left _ (by omega)]
          obtain ⟨p, hp⟩ : ∃ p, p = padded l := ⟨_, rfl⟩
          rw [← hp] at hr2 hN hmd
          have Hmd := Lib.hid hmd
          have HN := Lib.hid hN
          have hlen3 : (marked l z ++ (lb X).take i).length = p.length := by rw [hp, padded_marked, hi8, List.take_of_length_le (by rw [lb_length]; omega), Hz.out, HX.out]
          have hpl : p.length < 200000000000000 := by rw [hp, padded_length_eq]; have := Hz1.out.2.1; rw [Hz.out] at this; omega
          rw [hlen3] at h2 ⊢
          rw [hi8, List.take_of_length_le (by rw [lb_length]; omega)] at hlen3
          clear hi8 hr hr' hlen3 hmd hN hp
          have hb4 := Below.trans Hb0.out (hbel.mono (by omega))
          have hkh := Lib.hid (And.intro (Hk0.out.below (by rw [Hsz0.out]; exact hbel)) (Hh0.out.below (by rw [Hsz0.out]; exact hbel)))
          have hr3 := Lib.hid hr2
          obtain ⟨wt, rfl⟩ : ∃ wt : World, wt = wr := ⟨_, rfl⟩
          clear hr2 hbel
          go_wp2
          go_loopw [8] (fun t wr => ∃ (j : Nat) (st : St), j ≤ N ∧ t = .int .i64 ((64 * j : Nat) : Int) ∧ blocks (N - j) (p.drop (64 * j)) st = blocks N p h0 ∧ Blk wr w.heap.size (.cells (hCells st) 84 (0, 0)) ∧ Blk wr (w.heap.size + 1) (.cells kVals 84 (0, 0)) ∧
            Row8 wr (w.heap.size + 1 + 1) (.slice (some ⟨g, 0, none⟩) p.length cap) p ∧ But w.heap.size wt wr) (fun t _ => p.length - (intOf t).toNat)
          case atStart => exact ⟨0, h0, by omega, rfl, rfl, hkh.out.2, hkh.out.1, hr3.out, But.refl _ _⟩
          case round =>
            obtain ⟨j, st, hj, rfl, hbl, k1, k2, hr, hbut⟩ := hrel
            obtain ⟨T, hT⟩ : ∃ T, T = 64 * j := ⟨_, rfl⟩
            rw [← hT] at hbl ⊢
            have hNp := HN.out
            by_cases hlt : j < N
            · have hT1 : T + 64 ≤ p.length := by omega
              have hT2 : ¬ (cap = T) := by omega
              have hT3 : (T : Int) < p.length := by omega
              have hnext : blocks (N - (j + 1)) (p.drop (64 * (j + 1))) (block ((p.drop T).take 64) st) = blocks N p h0 := by
                rw [← hbl, show N - j = (N - (j + 1)) + 1 by omega, blocks_succ, List.drop_drop, show T + 64 = 64 * (j + 1) by omega]
              have Hnext := Lib.hid hnext
              have HT := Lib.hid hT
              have hblk : Calls Try.prog 57 #[.slice (some ⟨w.heap.size, 0, none⟩) 4 4, .slice (some ⟨g, T, none⟩) 64 (cap - T), .slice (some ⟨w.heap.size + 1, 0, none⟩) 64 64] wr fun e w' => e = .returned (.tuple #[]) ∧ Blk w' w.heap.size (.cells (hCells (block ((p.drop T).take 64) st)) 84 (0, 0)) ∧ But w.heap.size wr w' := by
                obtain ⟨g', cap', he, r1, r2, r3, r4, r5, _⟩ := hr.out
                simp at he
                obtain ⟨rfl, rfl⟩ := he
                refine block_calls w.heap.size g T (cap - T) (w.heap.size + 1) ((p.drop T).take 64) st wr (by rw [List.length_take, List.length_drop]; omega) k1 k2 r4 (by omega) (by omega) (fun i hi => ?_)
                rw [r5 (T + i) (by omega), List.getD_eq_getElem?_getD, List.getD_eq_getElem?_getD, List.getElem?_take, if_pos hi, List.getElem?_drop]
              have Hblk := Lib.hid hblk
              have Hr := Lib.hid hr
              clear hbl hT hnext hNp hblk hr
              go_wp2_with (go_at_call 57; go_must (refine Hblk.out.mono ?_; rintro e w7 ⟨rfl, k3, hbut2⟩))
              go_roundw
              case rel =>
                exact ⟨j + 1, block ((p.drop T).take 64) st, by omega, by rw [HT.out]; simp; omega, Hnext.out, k3, hbut2.blk (by omega) k2, Hr.out.keep hbut2.size (fun k hk hkl => hbut2.block k hkl (by omega)), hbut.trans hbut2⟩
              case measure => simp [intOf]; omega
            · have hjN : j = N := by omega
              have hT3 : (p.length : Int) ≤ T := by omega
              have hT4 : decide (T < p.length) = false := by simp; omega
              have hst : st = blocks N p h0 := by rw [← hbl, show N - j = 0 by omega, blocks_zero]
              have hb5 : Below w.heap.size w wr := hbut.below hb4 (Nat.le_refl _) hb4.size
              obtain ⟨wx, rfl⟩ : ∃ wx : World, wx = wr := ⟨_, rfl⟩
              have hfin : md5 l = bytesSt st := by rw [Hmd.out, hst]
              have Hfin := Lib.hid hfin
              have hk1 := Lib.hid k1
              have hlt1 := k1.lt
              clear hbl hT hNp hr hjN hst hfin k1
              go_wp2
              go_loopw [9, 10] (fun v t wr => ∃ i : Nat, i ≤ 4 ∧ t = .int .i64 i ∧ wr.ownsRow wx.heap.size 5 1 v (4 * i) (cells8 ((bytesSt st).take (4 * i))) ∧ Below wx.heap.size wx wr) (fun _ t _ => 4 - (intOf t).toNat)
              case atStart => exact ⟨0, by omega, rfl, World.ownsRow_nil _ _ _ _, Below.refl _ _⟩
              case round =>
                obtain ⟨i, hi, rfl, hown, hbel⟩ := hrel
                by_cases hlt : i < 4
                · have hlt' : (i : Int) < 4 := by omega
                  have Hown := Lib.hid hown
                  clear hown
                  obtain ⟨wy, rfl⟩ : ∃ wy : World, wy = wr := ⟨_, rfl⟩
                  have Hi4 := Lib.hid hlt
                  go_wp2
                  go_loopw [9, 11] (fun v t wr => ∃ j : Nat, j ≤ 4 ∧ t = .int .i64 j ∧ wr.ownsRow wx.heap.size 5 1 v (4 * i + j) (cells8 ((bytesSt st).take (4 * i + j))) ∧ Below wx.heap.size wx wr) (fun _ t _ => 4 - (intOf t).toNat)
                  case atStart => exact ⟨0, by omega, rfl, Hown.out, hbel⟩
                  case round =>
                    obtain ⟨j, hj, rfl, hown, hbel⟩ := hrel
                    by_cases hlj : j < 4
                    · have hlj' : (j : Int) < 4 := by omega
                      obtain ⟨x, hx⟩ : ∃ x, x = stw st i := ⟨_, rfl⟩
                      have hcl := ((hk1.out.below hbel).cell i).trans (hCells_get st i Hi4.out)
                      rw [← hx] at hcl
                      obtain ⟨V, hV⟩ : ∃ V, V = x.toNat / 2 ^ (8 * j) := ⟨_, rfl⟩
                      have hV4 : V < 4294967296 := by rw [hV]; exact Nat.lt_of_le_of_lt (Nat.div_le_self _ _) x.toNat_lt
                      have v1 : (x.toNat : Int) / 2 ^ (8 * j) = (V : Int) := by rw [hV]; simp
                      have v2 : (8 * (j : Int)).toNat = 8 * j := by omega
                      have v3 : min (8 * j) 32 = 8 * j := Nat.min_eq_left (by omega)
                      have v5 : IntKind.i64.wrap (8 * (j : Int)) = 8 * (j : Int) := by rw [IntKind.wrap_i64]; omega
                      have v6 : Go.bits .and .u32 (V : Int) 255 = (V : Int) % 256 := by
                        have := Go.bits_mask .u32 32 (by decide) (fun n h0 h1 => by rw [IntKind.wrap_u32]; omega) 8 (by decide) V (by omega) (by omega)
                        have e : ((2 : Int) ^ 8 - 1) = 255 := by decide
                        rw [e] at this
                        rw [this]; rfl
                      have hbyte := bytesSt_take st i j Hi4.out hlj
                      rw [← hx, ← hV] at hbyte
                      have Hbyte := Lib.hid hbyte
                      have hown2 := hown.alloc (.cells #[.int .u8 ((V : Int) % 256)] 5)
                      have HO := Lib.hid hown2
                      have hbs := hbel.size
                      clear hx hV hbyte hown hown2
                      go_wp2_with (at_builtin; go_must (refine wpList_append_own _ rfl (.tmp 64) (.tmp 74) 37 rfl wx.heap.size 5 i5 (.int .u8 0) 1 1 Try.underlying37 H5.out.1 H5.out.2.1 H5.out.2.2.1 H5.out.2.2.2 rfl (by decide) _ _ _ rfl HO.out ⟨wr.heap.size, 0, none⟩ 1 1 [.int .u8 ((V : Int) % 256)] rfl rfl ?d1 ?d2 ?d3 ?d4 ?d5 ?_))
                      case d1 =>
                        intro j2 u hj2
                        cases j2 with
                        | zero => simp at hj2; subst hj2; simp [Addr.add]
                        | succ n => simp at hj2
                      case d2 => intro u hu; simp at hu; subst hu; rfl
                      case d3 => have := Hi4.out; unfold maxLen; omega
                      case d4 => have := Hi4.out; omega
                      case d5 => simp; omega
                      intro v9 w9 hown9 hgrow _
                      have hb7 := (be_alloc hbel _).grown hgrow (be_alloc hbel _).size (fun g hg => (HO.out.lt g hg).1)
                      have e : cells8 ((bytesSt st).take (4 * i + j)) ++ [.int .u8 ((V : Int) % 256)] = cells8 ((bytesSt st).take (4 * i + (j + 1))) := by
                        rw [show 4 * i + (j + 1) = 4 * i + j + 1 by omega, Hbyte.out]
                        simp [cells8]
                      rw [e] at hown9
                      have HO9 := Lib.hid hown9
                      clear hown9 hgrow e HO
                      go_wp2
                      go_roundw
                      case rel => exact ⟨j + 1, by omega, by go_num, HO9.out, hb7⟩
                      case measure => simp [intOf]; omega
                    · have hge : (4 : Int) ≤ j := by omega
                      have hj4 : j = 4 := by omega
                      rw [hj4] at hown
                      have HO9 := Lib.hid hown
                      clear hj4 hown
                      go_wp2
                      go_roundw
                      case rel => exact ⟨i + 1, by have := Hi4.out; omega, by go_num, HO9.out, hbel⟩
                      case measure => simp [intOf]; omega
                · have hge : (4 : Int) ≤ i := by omega
                  have hi4 : i = 4 := by omega
                  rw [hi4, List.take_of_length_le (by rw [bytesSt_length]; decide)] at hown
                  have ht := own_text hown
                  have hb6 := hb5.trans (hbel.mono hb5.size)
                  clear hi4 hown
                  go_wp2
                  go_ret
                  exact ⟨by rw [Hfin.out]; rfl, hb6⟩
end Go.Proofs.Ytoldjadadgokeaa.Md
