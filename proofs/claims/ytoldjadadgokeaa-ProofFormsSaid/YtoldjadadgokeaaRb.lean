/- What the reference's block does to h. Conditions: h, b and k lie in three blocks; b has 64 bytes. -/
import Derived.Test.YtoldjadadgokeaaTu
import Derived.Test.YtoldjadadgokeaaRa
namespace Go.Proofs.Ytoldjadadgokeaa.Md
open Go.RowKit Go.Proofs.Ytoldjadadgokeaa.Bytes
theorem But.cell {b k j : Nat} {w w' : World} (h : But b w w') (hk : k < w.heap.size) (hb : k ≠ b) : w'.cell? ⟨k, j, none⟩ = w.cell? ⟨k, j, none⟩ := World.cell?_of_block (w := w) (a := ⟨k, j, none⟩) (h.block k hk hb)
theorem But.next {b : Nat} {w w' w2 : World} (h : But b w w') (hb : Below w'.heap.size w' w2) : But b w w2 :=
  ⟨hb.os.trans h.os, hb.tape.trans h.tape, hb.output.trans h.output, Nat.le_trans h.size hb.size, fun k hk hne => (hb.block k (Nat.lt_of_lt_of_le hk h.size)).trans (h.block k hk hne)⟩
/-- The cells of the words, the first i of them done. -/
def mCells (l : List UInt8) (i : Nat) : Array Value := Array.ofFn (n := 16) fun j => .int .u32 (if j.val < i then wordOf l j.val else 0).toNat
theorem mCells_get (l : List UInt8) (i j : Nat) (hj : j < 16) : (mCells l i)[j]? = some (.int .u32 (if j < i then wordOf l j else 0).toNat) := by
  unfold mCells
  rw [Array.getElem?_ofFn, dif_pos hj]
theorem mCells_set (l : List UInt8) (i : Nat) (_hi : i < 16) : (mCells l i).setIfInBounds i (.int .u32 (wordOf l i).toNat) = mCells l (i + 1) := by
  apply Array.ext
  · simp [mCells]
  · intro j h1 h2
    rw [Array.getElem_setIfInBounds (by simpa using h1)]
    by_cases e : i = j
    · rw [if_pos e]; subst e; simp [mCells]
    · rw [if_neg e]
      have : (j < i + 1) ↔ (j < i) := by omega
      simp [mCells, this]
theorem mCells_zero (l : List UInt8) : mCells l 0 = #[.int .u32 0, .int .u32 0, .int .u32 0, .int .u32 0, .int .u32 0, .int .u32 0, .int .u32 0, .int .u32 0, .int .u32 0, .int .u32 0, .int .u32 0, .int .u32 0, .int .u32 0, .int .u32 0, .int .u32 0, .int .u32 0] := rfl
theorem u8_shl (v : UInt8) (k : Nat) (hk : k ≤ 24) : ((v.toNat : Int) * 2 ^ k) = ((v.toUInt32 <<< UInt32.ofNat k).toNat : Int) := by
  have h := shl_u v.toUInt32 k (by omega)
  have hx : v.toUInt32.toNat = v.toNat := by simp
  rw [hx] at h
  rw [← h, IntKind.wrap_u32]
  have hb := v.toNat_lt
  have hp : (2 : Int) ^ k ≤ 2 ^ 24 := by
    have := Nat.pow_le_pow_right (n := 2) (by decide) hk
    exact_mod_cast this
  have hp0 : (0 : Int) < 2 ^ k := Int.pow_pos (by decide)
  have h0 : 0 ≤ (v.toNat : Int) * 2 ^ k := Int.mul_nonneg (by omega) (by omega)
  have h1 : (v.toNat : Int) * 2 ^ k ≤ 255 * 2 ^ 24 := Int.mul_le_mul (by omega) hp (by omega) (by omega)
  rw [Int.emod_eq_of_lt h0 (by have : (255 : Int) * 2 ^ 24 < 4294967296 := by decide
                               omega)]
/-- The cells of h. -/
def hCells (h : St) : Array Value := #[.int .u32 h.a.toNat, .int .u32 h.b.toNat, .int .u32 h.c.toNat, .int .u32 h.d.toNat]

theorem kVals_get (i : Nat) (hi : i < 64) : kVals[i]? = some (.int .u32 (kOf i).toNat) := by
  rw [← Array.getElem?_toList, kVals_eq, List.getElem?_map]
  have hl : i < kList.length := hi
  rw [List.getElem?_eq_getElem hl, kOf, List.getD_eq_getElem?_getD, List.getElem?_eq_getElem hl]
  rfl
theorem not_u2 (x : UInt32) : Go.bits .xor .u32 (x.toNat : Int) 4294967295 = ((~~~x).toNat : Int) := by
  rw [← not_u]
  have h : (4294967295 : Int) = ((4294967295 : UInt32).toNat : Int) := rfl
  rw [h, xor_u, xor_u, UInt32.xor_comm]
set_option maxHeartbeats 2000000 in
set_option maxRecDepth 100000 in
theorem block_calls (hb bb o cap kb : Nat) (l : List UInt8) (h : St) (w : World) (_hl : l.length = 64) (hh : Blk w hb (.cells (hCells h) 84 (0, 0))) (hk : Blk w kb (.cells kVals 84 (0, 0)))
    (hbl : bb < w.heap.size) (hb1 : bb ≠ hb) (_hb2 : kb ≠ hb) (hB : ∀ j, j < 64 → w.cell? ⟨bb, o + j, none⟩ = some (.int .u8 (l.getD j 0).toNat)) :
    Calls Try.prog 57 #[.slice (some ⟨hb, 0, none⟩) 4 4, .slice (some ⟨bb, o, none⟩) 64 cap, .slice (some ⟨kb, 0, none⟩) 64 64] w fun e w' => e = .returned (.tuple #[]) ∧ Blk w' hb (.cells (hCells (block l h)) 84 (0, 0)) ∧ But hb w w' := by
  have hmk : ∀ w, (Instr.makeSlice 92 (.int .i64 16) (.int .i64 16)).run Try.prog w = .ok (.slice (some ⟨w.heap.size, 0, none⟩) 16 16) (w.alloc (.cells (mCells l 0) 84)) := fun _ => by rw [mCells_zero]; kernel_rfl
  have HB := Lib.hid hB
  have hhb := hh.lt
  have hkb := hk.lt
  clear hB
  go_enter Try.func57, Try.ntmps57
  go_wp2
  go_loopw [7] (fun t wr => ∃ i : Nat, i ≤ 16 ∧ t = .int .i64 i ∧ Blk wr w.heap.size (.cells (mCells l i) 84 (0, 0)) ∧ Blk wr hb (.cells (hCells h) 84 (0, 0)) ∧ Blk wr kb (.cells kVals 84 (0, 0)) ∧ But hb w wr) (fun t _ => 16 - (intOf t).toNat)
  case atStart => exact ⟨0, by omega, rfl, Blk.new w _, hh.alloc _, hk.alloc _, (But.refl hb w).alloc _⟩
  case round =>
    obtain ⟨i, hi, rfl, k1, k2, k3, hbut⟩ := hrel
    by_cases hlt : i < 16
    · have hf := k1.frozen i
      have hc := (k1.cell i).trans (mCells_get l i i hlt)
      have r0 := (hbut.cell (j := o + 4 * i) hbl hb1).trans (HB.out (4 * i) (by omega))
      have r1 := (hbut.cell (j := o + (4 * i + 1)) hbl hb1).trans (HB.out (4 * i + 1) (by omega))
      have r2 := (hbut.cell (j := o + (4 * i + 2)) hbl hb1).trans (HB.out (4 * i + 2) (by omega))
      have r3 := (hbut.cell (j := o + (4 * i + 3)) hbl hb1).trans (HB.out (4 * i + 3) (by omega))
      have hW : Go.bits .or .u32 (Go.bits .or .u32 (Go.bits .or .u32 ((l.getD (4 * i) 0).toNat : Int) (((l.getD (4 * i + 1) 0).toNat : Int) * 256)) (((l.getD (4 * i + 2) 0).toNat : Int) * 65536)) (((l.getD (4 * i + 3) 0).toNat : Int) * 16777216) = ((wordOf l i).toNat : Int) := by
        have a0 : ((l.getD (4 * i) 0).toNat : Int) = ((l.getD (4 * i) 0).toUInt32.toNat : Int) := by simp
        have a1 := u8_shl (l.getD (4 * i + 1) 0) 8 (by omega)
        have a2 := u8_shl (l.getD (4 * i + 2) 0) 16 (by omega)
        have a3 := u8_shl (l.getD (4 * i + 3) 0) 24 (by omega)
        rw [show ((2 : Int) ^ 8) = 256 by decide] at a1
        rw [show ((2 : Int) ^ 16) = 65536 by decide] at a2
        rw [show ((2 : Int) ^ 24) = 16777216 by decide] at a3
        rw [a1, a2, a3, a0, or_u, or_u, or_u]
        rfl
      obtain ⟨x0, hx0⟩ : ∃ x : Int, x = ((l.getD (4 * i) 0).toNat : Int) := ⟨_, rfl⟩
      obtain ⟨x1, hx1⟩ : ∃ x : Int, x = ((l.getD (4 * i + 1) 0).toNat : Int) := ⟨_, rfl⟩
      obtain ⟨x2, hx2⟩ : ∃ x : Int, x = ((l.getD (4 * i + 2) 0).toNat : Int) := ⟨_, rfl⟩
      obtain ⟨x3, hx3⟩ : ∃ x : Int, x = ((l.getD (4 * i + 3) 0).toNat : Int) := ⟨_, rfl⟩
      have b0 : 0 ≤ x0 ∧ x0 ≤ 255 := by have := (l.getD (4 * i) 0).toNat_lt; omega
      have b1 : 0 ≤ x1 ∧ x1 ≤ 255 := by have := (l.getD (4 * i + 1) 0).toNat_lt; omega
      have b2 : 0 ≤ x2 ∧ x2 ≤ 255 := by have := (l.getD (4 * i + 2) 0).toNat_lt; omega
      have b3 : 0 ≤ x3 ∧ x3 ≤ 255 := by have := (l.getD (4 * i + 3) 0).toNat_lt; omega
      obtain ⟨c0, d0⟩ := b0
      obtain ⟨c1, d1⟩ := b1
      obtain ⟨c2, d2⟩ := b2
      obtain ⟨c3, d3⟩ := b3
      rw [← hx0] at r0 hW
      rw [← hx1] at r1 hW
      rw [← hx2] at r2 hW
      rw [← hx3] at r3 hW
      obtain ⟨W, hWW⟩ : ∃ W, W = wordOf l i := ⟨_, rfl⟩
      rw [← hWW] at hW
      have hset := mCells_set l i hlt
      rw [← hWW] at hset
      have Hset := Lib.hid hset
      have w1 : IntKind.u32.wrap (x1 * 256) = x1 * 256 := by rw [IntKind.wrap_u32]; omega
      have w2 : IntKind.u32.wrap (x2 * 65536) = x2 * 65536 := by rw [IntKind.wrap_u32]; omega
      have w3 : IntKind.u32.wrap (x3 * 16777216) = x3 * 16777216 := by rw [IntKind.wrap_u32]; omega
      have m1 : IntKind.i64.wrap (4 * (i : Int)) = 4 * (i : Int) := by rw [IntKind.wrap_i64]; omega
      have m2 : IntKind.i64.wrap (4 * (i : Int) + 1) = 4 * (i : Int) + 1 := by rw [IntKind.wrap_i64]; omega
      have m3 : IntKind.i64.wrap (4 * (i : Int) + 2) = 4 * (i : Int) + 2 := by rw [IntKind.wrap_i64]; omega
      have m4 : IntKind.i64.wrap (4 * (i : Int) + 3) = 4 * (i : Int) + 3 := by rw [IntKind.wrap_i64]; omega
      have n1 : (4 * (i : Int)).toNat = 4 * i := by omega
      have n2 : (4 * (i : Int) + 1).toNat = 4 * i + 1 := by omega
      have n3 : (4 * (i : Int) + 2).toNat = 4 * i + 2 := by omega
      have n4 : (4 * (i : Int) + 3).toNat = 4 * i + 3 := by omega
      have hlt' : (i : Int) < 16 := by omega
      clear hx0 hx1 hx2 hx3 hWW hset
      go_wp2
      go_region
      go_wp2
      go_roundw
      case rel =>
        have kk := k1.set (i := i) (v := .int .u32 W.toNat)
        rw [Hset.out] at kk
        exact ⟨i + 1, by omega, by go_num, kk.drew, (k2.other (by omega)).drew, (k3.other (by omega)).drew, (hbut.set (Or.inr (Nat.le_refl _))).drew⟩
      case measure => simp [intOf]; omega
    · have hge : (16 : Int) ≤ i := by omega
      have h16 : i = 16 := by omega
      rw [h16] at k1
      clear h16 hlt
      obtain ⟨ha, hB2, hc, hd⟩ : wr.cell? ⟨hb, 0, none⟩ = some (.int .u32 h.a.toNat) ∧ wr.cell? ⟨hb, 1, none⟩ = some (.int .u32 h.b.toNat) ∧ wr.cell? ⟨hb, 2, none⟩ = some (.int .u32 h.c.toNat) ∧ wr.cell? ⟨hb, 3, none⟩ = some (.int .u32 h.d.toNat) :=
        ⟨k2.cell 0, k2.cell 1, k2.cell 2, k2.cell 3⟩
      obtain ⟨wo, rfl⟩ : ∃ wo : World, wo = wr := ⟨_, rfl⟩
      go_wp2
      go_quiet (fail)
      clear ha hB2 hc hd
      go_wp2
      go_loopw [8, 9, 10, 11, 12] (fun a b c d t wr => ∃ n : Nat, n ≤ 64 ∧ t = .int .i64 n ∧ a = .int .u32 (steps (wordOf l) n h).a.toNat ∧ b = .int .u32 (steps (wordOf l) n h).b.toNat ∧ c = .int .u32 (steps (wordOf l) n h).c.toNat ∧ d = .int .u32 (steps (wordOf l) n h).d.toNat ∧ Blk wr w.heap.size (.cells (mCells l 16) 84 (0, 0)) ∧ Blk wr hb (.cells (hCells h) 84 (0, 0)) ∧ Blk wr kb (.cells kVals 84 (0, 0)) ∧ But hb w wr) (fun _ _ _ _ t _ => 64 - (intOf t).toNat)
      case atStart => exact ⟨0, by omega, rfl, rfl, rfl, rfl, rfl, by first | exact k1.drewN _ | exact k1.drew, by first | exact k2.drewN _ | exact k2.drew, by first | exact k3.drewN _ | exact k3.drew, by first | exact hbut.drewN _ | exact hbut.drew⟩
      case round =>
        obtain ⟨n, hn, rfl, rfl, rfl, rfl, rfl, k1, k2, k3, hbut⟩ := hrel
        by_cases hlt : n < 64
        · have hlt' : (n : Int) < 64 := by omega
          have hg := gOf_lt n hlt
          have hgK := (k3.cell n).trans (kVals_get n hlt)
          have hgM := (k1.cell (gOf n)).trans (mCells_get l 16 (gOf n) hg)
          rw [if_pos hg] at hgM
          have hstep : steps (wordOf l) (n + 1) h = step (wordOf l) n (steps (wordOf l) n h) := rfl
          generalize steps (wordOf l) n h = S at hstep ⊢
          obtain ⟨A, X, C, D⟩ := S
          simp only [step] at hstep
          obtain ⟨g, hg'⟩ : ∃ g, g = gOf n := ⟨_, rfl⟩
          obtain ⟨T, hT⟩ : ∃ T, T = tOf n := ⟨_, rfl⟩
          obtain ⟨F, hF⟩ : ∃ F, F = fOf (n / 16) X C D := ⟨_, rfl⟩
          obtain ⟨K, hK⟩ : ∃ K, K = kOf n := ⟨_, rfl⟩
          obtain ⟨M, hM⟩ : ∃ M, M = wordOf l g := ⟨_, rfl⟩
          have hturn : ∀ w, Calls Try.prog 61 #[.int .i64 n] w fun e w' => e = .returned (.int .i64 T) ∧ Below w.heap.size w w' := by
            intro w; rw [hT]; exact rturns_calls n w hlt
          have hTb := tOf_bd n hlt
          rw [← hT] at hTb
          rw [← hg', ← hF, ← hK, ← hT, ← hM] at hstep
          rw [← hg'] at hg hgM
          rw [← hM] at hgM
          rw [← hK] at hgK
          obtain ⟨s1, hs1⟩ : ∃ s, s = A + F := ⟨_, rfl⟩
          obtain ⟨s2, hs2⟩ : ∃ s, s = s1 + K := ⟨_, rfl⟩
          obtain ⟨s3, hs3⟩ : ∃ s, s = s2 + M := ⟨_, rfl⟩
          obtain ⟨sl, hsl⟩ : ∃ s, s = s3 <<< UInt32.ofNat T := ⟨_, rfl⟩
          obtain ⟨sr, hsr⟩ : ∃ s, s = s3 >>> UInt32.ofNat (32 - T) := ⟨_, rfl⟩
          obtain ⟨R, hR⟩ : ∃ s, s = rotl s3 T := ⟨_, rfl⟩
          obtain ⟨N, hN⟩ : ∃ s, s = X + R := ⟨_, rfl⟩
          rw [← hs1, ← hs2, ← hs3, ← hR, ← hN] at hstep
          have e1 : IntKind.u32.wrap ((F.toNat : Int) + A.toNat) = (s1.toNat : Int) := by rw [Int.add_comm, hs1]; exact add_u _ _
          have e2 : IntKind.u32.wrap ((s1.toNat : Int) + K.toNat) = (s2.toNat : Int) := by rw [hs2]; exact add_u _ _
          have e3 : IntKind.u32.wrap ((s2.toNat : Int) + M.toNat) = (s3.toNat : Int) := by rw [hs3]; exact add_u _ _
          have e4 : IntKind.u32.wrap ((X.toNat : Int) + R.toNat) = (N.toNat : Int) := by rw [hN]; exact add_u _ _
          have hmin : min T 32 = T := Nat.min_eq_left (by omega)
          have hmin2 : min (32 - T) 32 = 32 - T := Nat.min_eq_left (by omega)
          have a2 : IntKind.u32.wrap ((s3.toNat : Int) * 2 ^ T) = (sl.toNat : Int) := by rw [hsl]; exact shl_u s3 T (by omega)
          have a3 : (s3.toNat : Int) / 2 ^ (32 - T) = (sr.toNat : Int) := by rw [hsr]; exact shr_u s3 (32 - T) (by omega)
          have a4 : ((32 : Int) - T).toNat = 32 - T := by omega
          have a5 : Go.bits .or .u32 (sl.toNat : Int) (sr.toNat : Int) = (R.toNat : Int) := by rw [or_u, hR, hsl, hsr]; rfl
          have h1' : (1 : Int) ≤ T := by omega
          have h2' : (T : Int) ≤ 31 := by omega
          have m1 : Go.bits .xor .u32 (X.toNat : Int) 4294967295 = ((~~~X).toNat : Int) := by exact not_u2 X
          have m2 : Go.bits .xor .u32 (D.toNat : Int) 4294967295 = ((~~~D).toNat : Int) := by exact not_u2 D
          obtain ⟨nb, hnb⟩ : ∃ nb, nb = ~~~X := ⟨_, rfl⟩
          obtain ⟨nd, hnd⟩ : ∃ nd, nd = ~~~D := ⟨_, rfl⟩
          rw [← hnb] at m1
          rw [← hnd] at m2
          have Hstep := Lib.hid hstep
          have hg2 : (g : Int) < 16 := by omega
          have q : n / 16 = 0 ∨ n / 16 = 1 ∨ n / 16 = 2 ∨ n / 16 = 3 := by omega
          clear hstep hT hK hM hs1 hs2 hs3 hR hN hTb hsl hsr
          rcases q with hq | hq | hq | hq
          · have hgg : (n : Int) = g := by
              have : g = n := by rw [hg']; unfold gOf; rw [hq]; rfl
              omega
            have hv : Go.bits .or .u32 (Go.bits .and .u32 (X.toNat : Int) C.toNat) (Go.bits .and .u32 nb.toNat D.toNat) = (F.toNat : Int) := by rw [and_u, and_u, or_u, hF, hq, hnb]; rfl
            have hq' : (n : Int) / 16 = 0 := by omega
            have hq2 : (n : Int).tdiv 16 = 0 := by rw [Int.tdiv_eq_ediv_of_nonneg (by omega)]; omega
            obtain rfl : n = g := by omega
            clear hgg
            clear hF hq hg' hnb hnd
            go_wp2
            go_quiet (fail)
            go_wp2_with (go_at_call 61; refine (hturn _).mono ?_; rintro _ w2 ⟨rfl, hbel⟩)
            go_quiet (fail)
            go_wp2
            go_roundw
            case rel =>
              exact ⟨n + 1, by omega, by go_num, by rw [Hstep.out], by rw [Hstep.out], by rw [Hstep.out], by rw [Hstep.out], ((k1.drewN _).below hbel).drewN _, ((k2.drewN _).below hbel).drewN _, ((k3.drewN _).below hbel).drewN _, ((hbut.drewN _).next hbel).drewN _⟩
            case measure => simp [intOf]; omega
          · have hgg : (5 * (n : Int) + 1) % 16 = g := by
              have : g = (5 * n + 1) % 16 := by rw [hg']; unfold gOf; rw [hq]; rfl
              omega
            have hv : Go.bits .or .u32 (Go.bits .and .u32 (D.toNat : Int) X.toNat) (Go.bits .and .u32 nd.toNat C.toNat) = (F.toNat : Int) := by rw [and_u, and_u, or_u, hF, hq, hnd]; rfl
            have hq' : (n : Int) / 16 = 1 := by omega
            have hq2 : (n : Int).tdiv 16 = 1 := by rw [Int.tdiv_eq_ediv_of_nonneg (by omega)]; omega
            clear hF hq hg' hnb hnd
            go_wp2
            go_quiet (fail)
            go_wp2_with (go_at_call 61; refine (hturn _).mono ?_; rintro _ w2 ⟨rfl, hbel⟩)
            go_quiet (fail)
            go_wp2
            go_roundw
            case rel =>
              exact ⟨n + 1, by omega, by go_num, by rw [Hstep.out], by rw [Hstep.out], by rw [Hstep.out], by rw [Hstep.out], ((k1.drewN _).below hbel).drewN _, ((k2.drewN _).below hbel).drewN _, ((k3.drewN _).below hbel).drewN _, ((hbut.drewN _).next hbel).drewN _⟩
            case measure => simp [intOf]; omega
          · have hgg : (3 * (n : Int) + 5) % 16 = g := by
              have : g = (3 * n + 5) % 16 := by rw [hg']; unfold gOf; rw [hq]; rfl
              omega
            have hv : Go.bits .xor .u32 (Go.bits .xor .u32 (X.toNat : Int) C.toNat) (D.toNat : Int) = (F.toNat : Int) := by rw [xor_u, xor_u, hF, hq]; rfl
            have hq' : (n : Int) / 16 = 2 := by omega
            have hq2 : (n : Int).tdiv 16 = 2 := by rw [Int.tdiv_eq_ediv_of_nonneg (by omega)]; omega
            clear hF hq hg' hnb hnd
            go_wp2
            go_quiet (fail)
            go_wp2_with (go_at_call 61; refine (hturn _).mono ?_; rintro _ w2 ⟨rfl, hbel⟩)
            go_quiet (fail)
            go_wp2
            go_roundw
            case rel =>
              exact ⟨n + 1, by omega, by go_num, by rw [Hstep.out], by rw [Hstep.out], by rw [Hstep.out], by rw [Hstep.out], ((k1.drewN _).below hbel).drewN _, ((k2.drewN _).below hbel).drewN _, ((k3.drewN _).below hbel).drewN _, ((hbut.drewN _).next hbel).drewN _⟩
            case measure => simp [intOf]; omega
          · have hgg : (7 * (n : Int)) % 16 = g := by
              have : g = 7 * n % 16 := by rw [hg']; unfold gOf; rw [hq]; rfl
              omega
            have hv : Go.bits .xor .u32 (C.toNat : Int) (Go.bits .or .u32 (X.toNat : Int) nd.toNat) = (F.toNat : Int) := by rw [or_u, xor_u, hF, hq, hnd]; rfl
            have hq' : (n : Int) / 16 = 3 := by omega
            have hq2 : (n : Int).tdiv 16 = 3 := by rw [Int.tdiv_eq_ediv_of_nonneg (by omega)]; omega
            clear hF hq hg' hnb hnd
            go_wp2
            go_quiet (fail)
            go_wp2_with (go_at_call 61; refine (hturn _).mono ?_; rintro _ w2 ⟨rfl, hbel⟩)
            go_quiet (fail)
            go_wp2
            go_roundw
            case rel =>
              exact ⟨n + 1, by omega, by go_num, by rw [Hstep.out], by rw [Hstep.out], by rw [Hstep.out], by rw [Hstep.out], ((k1.drewN _).below hbel).drewN _, ((k2.drewN _).below hbel).drewN _, ((k3.drewN _).below hbel).drewN _, ((hbut.drewN _).next hbel).drewN _⟩
            case measure => simp [intOf]; omega
        · have h64 : n = 64 := by omega
          rw [h64]
          have hge2 : (64 : Int) ≤ n := by omega
          clear h64 hlt
          generalize hS : steps (wordOf l) 64 h = S
          have HS := Lib.hid hS
          clear hS
          obtain ⟨A, X, C, D⟩ := S
          obtain ⟨wq, rfl⟩ : ∃ wq : World, wq = wr := ⟨_, rfl⟩
          have f0 := k2.frozen 0
          have f1 := k2.frozen 1
          have f2 := k2.frozen 2
          have f3 := k2.frozen 3
          obtain ⟨ha, hB2, hc, hd⟩ : wq.cell? ⟨hb, 0, none⟩ = some (.int .u32 h.a.toNat) ∧ wq.cell? ⟨hb, 1, none⟩ = some (.int .u32 h.b.toNat) ∧ wq.cell? ⟨hb, 2, none⟩ = some (.int .u32 h.c.toNat) ∧ wq.cell? ⟨hb, 3, none⟩ = some (.int .u32 h.d.toNat) :=
            ⟨k2.cell 0, k2.cell 1, k2.cell 2, k2.cell 3⟩
          obtain ⟨n0, hn0⟩ : ∃ x, x = h.a + A := ⟨_, rfl⟩
          obtain ⟨n1, hn1⟩ : ∃ x, x = h.b + X := ⟨_, rfl⟩
          obtain ⟨n2, hn2⟩ : ∃ x, x = h.c + C := ⟨_, rfl⟩
          obtain ⟨n3, hn3⟩ : ∃ x, x = h.d + D := ⟨_, rfl⟩
          have e0 : IntKind.u32.wrap ((h.a.toNat : Int) + A.toNat) = (n0.toNat : Int) := by rw [hn0]; exact add_u _ _
          have e1 : IntKind.u32.wrap ((h.b.toNat : Int) + X.toNat) = (n1.toNat : Int) := by rw [hn1]; exact add_u _ _
          have e2 : IntKind.u32.wrap ((h.c.toNat : Int) + C.toNat) = (n2.toNat : Int) := by rw [hn2]; exact add_u _ _
          have e3 : IntKind.u32.wrap ((h.d.toNat : Int) + D.toNat) = (n3.toNat : Int) := by rw [hn3]; exact add_u _ _
          have hfin : hCells (block l h) = #[.int .u32 n0.toNat, .int .u32 n1.toNat, .int .u32 n2.toNat, .int .u32 n3.toNat] := by
            unfold block; rw [HS.out, hn0, hn1, hn2, hn3]; rfl
          have Hfin := Lib.hid hfin
          clear hfin hn0 hn1 hn2 hn3
          go_wp2
          go_end0
          rw [Hfin.out]
          exact ⟨rfl, (((k2.set (i := 0) (v := .int .u32 n0.toNat)).set (i := 1) (v := .int .u32 n1.toNat)).set (i := 2) (v := .int .u32 n2.toNat)).set (i := 3) (v := .int .u32 n3.toNat), (((hbut.set (Or.inl rfl)).set (Or.inl rfl)).set (Or.inl rfl)).set (Or.inl rfl)⟩
end Go.Proofs.Ytoldjadadgokeaa.Md
