/- What (*state).turn does to its state. Conditions: the state lies in a block of its own; the text has 64 bytes. -/
import Derived.Test.YtoldjadadgokeaaTp
import Derived.RegionTactic
import Derived.BigRegion
import Derived.Deep.QuietTactic
import Derived.BigQuiet
import Derived.LoopTactic
import Derived.Lib.Hide
import Derived.Outline
namespace Go.Proofs.Ytoldjadadgokeaa.Md
open Go.RowKit Go.Proofs.Ytoldjadadgokeaa.Bytes

/-- But for block b, what was there is as it was. -/
structure But (b : Nat) (w w' : World) : Prop where
  os : w'.os = w.os
  tape : w'.tape = w.tape
  output : w'.output = w.output
  size : w.heap.size ≤ w'.heap.size
  block : ∀ k, k < w.heap.size → k ≠ b → w'.heap[k]? = w.heap[k]?
theorem But.refl (b : Nat) (w : World) : But b w w := ⟨rfl, rfl, rfl, Nat.le_refl _, fun _ _ _ => rfl⟩
theorem But.drewN {b : Nat} {w w' : World} (h : But b w w') (n : Nat) : But b w (w'.drewN n) := ⟨h.os, h.tape, h.output, h.size, h.block⟩
theorem But.drew {b : Nat} {w w' : World} (h : But b w w') : But b w w'.drew := ⟨h.os, h.tape, h.output, h.size, h.block⟩
theorem But.alloc {b : Nat} {w w' : World} (h : But b w w') (o : Obj) : But b w (w'.alloc o) :=
  ⟨h.os, h.tape, h.output, by have := h.size; simp; omega, fun k hk hb => (heap_alloc_old w' o (show k < w'.heap.size from Nat.lt_of_lt_of_le hk h.size)).trans (h.block k hk hb)⟩
theorem But.set {b : Nat} {w w' : World} (h : But b w w') {g j : Nat} {v : Value} (hg : g = b ∨ w.heap.size ≤ g) : But b w (w'.setCell ⟨g, j, none⟩ v) :=
  ⟨h.os, h.tape, h.output, by have := h.size; simpa using this, fun k hk hb => (heap_setCell_other w' ⟨g, j, none⟩ k v (by show k ≠ g; omega)).trans (h.block k hk hb)⟩
theorem But.below {b B : Nat} {w0 w w' : World} (h : But b w w') (h0 : Below B w0 w) (hb : B ≤ b) (hB : B ≤ w.heap.size) : Below B w0 w' :=
  ⟨h.os.trans h0.os, h.tape.trans h0.tape, h.output.trans h0.output, Nat.le_trans h0.size h.size, fun k hk => (h.block k (by omega) (by omega)).trans (h0.block k hk)⟩
theorem But.blk {b c : Nat} {w w' : World} {o : Obj} (h : But b w w') (hc : c ≠ b) (k : Blk w c o) : Blk w' c o := ⟨(h.block c k.lt hc).trans k.out⟩

theorem q_same {k : Nat} {args : Array Value} {w : World} {v : Value} (h : Calls Try.prog k args w fun e w' => e = .returned v ∧ w' = w) : Calls Try.prog k args w fun e w' => e = .returned v ∧ w = w' :=
  h.mono fun _ _ h => ⟨h.1, h.2.symm⟩
theorem wCells_zero (l : List UInt8) : wCells l 0 = #[.int .u32 0, .int .u32 0, .int .u32 0, .int .u32 0, .int .u32 0, .int .u32 0, .int .u32 0, .int .u32 0, .int .u32 0, .int .u32 0, .int .u32 0, .int .u32 0, .int .u32 0, .int .u32 0, .int .u32 0, .int .u32 0] := rfl

set_option maxHeartbeats 2000000 in
set_option maxRecDepth 100000 in
theorem turn_calls (sb : Nat) (s : ByteArray) (l : List UInt8) (h : St) (w : World) (hs : s = B l) (hl : l.length = 64) (hb : Blk w sb (.cells (stCells h) 90 (0, 0))) :
    Calls Try.prog 55 #[.pointer (some ⟨sb, 0, none⟩), .string s] w fun e w' => e = .returned (.tuple #[]) ∧ Blk w' sb (.cells (stCells (block l h)) 90 (0, 0)) ∧ But sb w w' := by
  have hsz : s.size = 64 := by rw [hs, B_size, hl]
  have hx : ∀ i, i < 64 → ∀ hi : i < s.size, ((s[i]'hi).toNat : Int) = (((l.getD i 0).toNat : Nat) : Int) := by
    subst hs
    intro i h64 hi
    rw [B_getElem, List.getD_eq_getElem?_getD, List.getElem?_eq_getElem (by omega)]
    rfl
  have HS := Lib.hid hs
  clear hs
  have hsb := hb.lt
  have hbk := hb
  clear hb
  go_enter Try.func55, Try.ntmps55
  go_wp2
  go_loopw [15] (fun t wr => ∃ i : Nat, i ≤ 64 ∧ t = .int .i64 i ∧ Blk wr w.heap.size (.cells (wCells l i) 96 (0, 0)) ∧ Blk wr sb (.cells (stCells h) 90 (0, 0)) ∧ But sb w wr) (fun t _ => 64 - (intOf t).toNat)
  case atStart => exact ⟨0, by omega, rfl, Blk.new w _, hbk.alloc _, (But.refl sb w).alloc _⟩
  case round =>
    obtain ⟨i, hi, rfl, k1, k2, hbut⟩ := hrel
    by_cases hlt : i < 64
    · have hc := (k1.cell (i / 4)).trans (wCells_get l i (i / 4) (by omega))
      have hf := k1.frozen (i / 4)
      have hxi := hx i hlt
      have hr : i % 4 = 0 ∨ i % 4 = 1 ∨ i % 4 = 2 ∨ i % 4 = 3 := by omega
      have hlt' : (i : Int) < 64 := by omega
      obtain ⟨a, ha⟩ : ∃ a, a = i / 4 := ⟨_, rfl⟩
      have e1 : (i : Int) / 4 = (a : Int) := by omega
      have e2 : (i : Int).tdiv 4 = (a : Int) := by rw [Int.tdiv_eq_ediv_of_nonneg (by omega)]; omega
      have ha16 : (a : Int) < 16 := by omega
      rw [← ha] at hc hf
      obtain ⟨p, hp⟩ : ∃ p, p = wPart l i a := ⟨_, rfl⟩
      obtain ⟨q, hq⟩ : ∃ q, q = wPart l (i + 1) a := ⟨_, rfl⟩
      obtain ⟨x, hxx⟩ : ∃ x : Int, x = ((l.getD i 0).toNat : Int) := ⟨_, rfl⟩
      have hx0 : 0 ≤ x := by omega
      have hx1 : x ≤ 255 := by have := (l.getD i 0).toNat_lt; omega
      rw [← hp] at hc
      rw [← hxx] at hxi
      have hset := wCells_set l i
      rw [← ha, ← hq] at hset
      have Hset := Lib.hid hset
      have hstep := fun r => wPart_step l i r
      rw [← ha, ← hp, ← hq, ← hxx] at hstep
      have Hstep := Lib.hid hstep
      clear hset hstep hx hp hq hxx ha
      rcases hr with hr | hr | hr | hr
      · have e3 : (i : Int) % 4 = 0 := by omega
        have e4 : (i : Int).tmod 4 = 0 := by rw [Int.tmod_eq_emod_of_nonneg (by omega)]; omega
        have st := Hstep.out 0 hr (by omega)
        have sx : Go.bits .or .u32 (p.toNat : Int) x = (q.toNat : Int) := by rw [← st]; simp
        clear st
        have wx : IntKind.u32.wrap (x * 1) = x * 1 := by rw [IntKind.wrap_u32]; omega
        clear hr
        go_wp2
        go_region
        go_wp2
        go_roundw
        case rel =>
          have kk := k1.set (i := a) (v := .int .u32 q.toNat)
          rw [Hset.out] at kk
          exact ⟨i + 1, by omega, by go_num, kk.drew, (k2.other (by omega)).drew, (hbut.set (Or.inr (Nat.le_refl _))).drew⟩
        case measure => simp [intOf]; omega
      · have e3 : (i : Int) % 4 = 1 := by omega
        have e4 : (i : Int).tmod 4 = 1 := by rw [Int.tmod_eq_emod_of_nonneg (by omega)]; omega
        have st := Hstep.out 1 hr (by omega)
        have sx : Go.bits .or .u32 (p.toNat : Int) (x * 256) = (q.toNat : Int) := st
        clear st
        have wx : IntKind.u32.wrap (x * 256) = x * 256 := by rw [IntKind.wrap_u32]; omega
        clear hr
        go_wp2
        go_region
        go_wp2
        go_roundw
        case rel =>
          have kk := k1.set (i := a) (v := .int .u32 q.toNat)
          rw [Hset.out] at kk
          exact ⟨i + 1, by omega, by go_num, kk.drew, (k2.other (by omega)).drew, (hbut.set (Or.inr (Nat.le_refl _))).drew⟩
        case measure => simp [intOf]; omega
      · have e3 : (i : Int) % 4 = 2 := by omega
        have e4 : (i : Int).tmod 4 = 2 := by rw [Int.tmod_eq_emod_of_nonneg (by omega)]; omega
        have st := Hstep.out 2 hr (by omega)
        have sx : Go.bits .or .u32 (p.toNat : Int) (x * 65536) = (q.toNat : Int) := st
        clear st
        have wx : IntKind.u32.wrap (x * 65536) = x * 65536 := by rw [IntKind.wrap_u32]; omega
        clear hr
        go_wp2
        go_region
        go_wp2
        go_roundw
        case rel =>
          have kk := k1.set (i := a) (v := .int .u32 q.toNat)
          rw [Hset.out] at kk
          exact ⟨i + 1, by omega, by go_num, kk.drew, (k2.other (by omega)).drew, (hbut.set (Or.inr (Nat.le_refl _))).drew⟩
        case measure => simp [intOf]; omega
      · have e3 : (i : Int) % 4 = 3 := by omega
        have e4 : (i : Int).tmod 4 = 3 := by rw [Int.tmod_eq_emod_of_nonneg (by omega)]; omega
        have st := Hstep.out 3 hr (by omega)
        have sx : Go.bits .or .u32 (p.toNat : Int) (x * 16777216) = (q.toNat : Int) := st
        clear st
        have wx : IntKind.u32.wrap (x * 16777216) = x * 16777216 := by rw [IntKind.wrap_u32]; omega
        clear hr
        go_wp2
        go_region
        go_wp2
        go_roundw
        case rel =>
          have kk := k1.set (i := a) (v := .int .u32 q.toNat)
          rw [Hset.out] at kk
          exact ⟨i + 1, by omega, by go_num, kk.drew, (k2.other (by omega)).drew, (hbut.set (Or.inr (Nat.le_refl _))).drew⟩
        case measure => simp [intOf]; omega
    · have h64 : i = 64 := by omega
      rw [h64] at k1
      have hge : (64 : Int) ≤ i := by omega
      clear h64
      obtain ⟨ha, hB, hc, hd⟩ : wr.cell? ⟨sb, 0, none⟩ = some (.int .u32 h.a.toNat) ∧ wr.cell? ⟨sb, 1, none⟩ = some (.int .u32 h.b.toNat) ∧ wr.cell? ⟨sb, 2, none⟩ = some (.int .u32 h.c.toNat) ∧ wr.cell? ⟨sb, 3, none⟩ = some (.int .u32 h.d.toNat) :=
        ⟨k2.cell 0, k2.cell 1, k2.cell 2, k2.cell 3⟩
      obtain ⟨wo, rfl⟩ : ∃ wo : World, wo = wr := ⟨_, rfl⟩
      clear hx
      go_wp2
      go_quiet (fail)
      clear ha hB hc hd
      go_wp2
      go_loopw [6, 7, 8, 9, 53] (fun a b c d t wr => ∃ n : Nat, n ≤ 64 ∧ t = .int .i64 n ∧ a = .int .u32 (steps (wordOf l) n h).a.toNat ∧ b = .int .u32 (steps (wordOf l) n h).b.toNat ∧ c = .int .u32 (steps (wordOf l) n h).c.toNat ∧ d = .int .u32 (steps (wordOf l) n h).d.toNat ∧ Blk wr w.heap.size (.cells (wCells l 64) 96 (0, 0)) ∧ Blk wr sb (.cells (stCells h) 90 (0, 0)) ∧ But sb w wr) (fun _ _ _ _ t _ => 64 - (intOf t).toNat)
      case atStart => exact ⟨0, by omega, rfl, rfl, rfl, rfl, rfl, by first | exact k1.drewN _ | exact k1.drew, by first | exact k2.drewN _ | exact k2.drew, by first | exact hbut.drewN _ | exact hbut.drew⟩
      case round =>
        obtain ⟨n, hn, rfl, rfl, rfl, rfl, rfl, k1, k2, hbut⟩ := hrel
        by_cases hlt : n < 64
        · have hlt' : (n : Int) < 64 := by omega
          have hg := gOf_lt n hlt
          have hgK := (k2.cell (4 + n)).trans (stCells_k h n hlt)
          have hgM := (k1.cell (gOf n)).trans (wCells_get l 64 (gOf n) hg)
          rw [wPart_64 l _ hg] at hgM
          have hstep : steps (wordOf l) (n + 1) h = step (wordOf l) n (steps (wordOf l) n h) := rfl
          generalize steps (wordOf l) n h = S at hstep ⊢
          obtain ⟨A, X, C, D⟩ := S
          simp only [step] at hstep
          obtain ⟨g, hg'⟩ : ∃ g, g = gOf n := ⟨_, rfl⟩
          obtain ⟨T, hT⟩ : ∃ T, T = tOf n := ⟨_, rfl⟩
          obtain ⟨F, hF⟩ : ∃ F, F = fOf (n / 16) X C D := ⟨_, rfl⟩
          obtain ⟨K, hK⟩ : ∃ K, K = kOf n := ⟨_, rfl⟩
          obtain ⟨M, hM⟩ : ∃ M, M = wordOf l g := ⟨_, rfl⟩
          have hmix : ∀ w, Calls Try.prog 58 #[.int .i64 n, .int .u32 X.toNat, .int .u32 C.toNat, .int .u32 D.toNat] w fun e w' => e = .returned (.tuple #[.int .u32 F.toNat, .int .i64 g]) ∧ w = w' := by
            intro w; rw [hF, hg']; exact q_same (mix_calls n X C D w hlt)
          have hturn : ∀ w, Calls Try.prog 60 #[.int .i64 n] w fun e w' => e = .returned (.int .i64 T) ∧ w' = w := by
            intro w; rw [hT]; exact turns_calls n w hlt
          have hTb := tOf_bd n hlt
          rw [← hT] at hTb
          rw [← hg', ← hF, ← hK, ← hT, ← hM] at hstep
          rw [← hg'] at hg hgM
          rw [← hM] at hgM
          rw [← hK] at hgK
          obtain ⟨s1, hs1⟩ : ∃ s, s = A + F := ⟨_, rfl⟩
          obtain ⟨s2, hs2⟩ : ∃ s, s = s1 + K := ⟨_, rfl⟩
          obtain ⟨s3, hs3⟩ : ∃ s, s = s2 + M := ⟨_, rfl⟩
          obtain ⟨R, hR⟩ : ∃ s, s = rotl s3 T := ⟨_, rfl⟩
          obtain ⟨N, hN⟩ : ∃ s, s = X + R := ⟨_, rfl⟩
          rw [← hs1, ← hs2, ← hs3, ← hR, ← hN] at hstep
          have e1 : IntKind.u32.wrap ((A.toNat : Int) + F.toNat) = (s1.toNat : Int) := by rw [hs1]; exact add_u _ _
          have e2 : IntKind.u32.wrap ((s1.toNat : Int) + K.toNat) = (s2.toNat : Int) := by rw [hs2]; exact add_u _ _
          have e3 : IntKind.u32.wrap ((s2.toNat : Int) + M.toNat) = (s3.toNat : Int) := by rw [hs3]; exact add_u _ _
          have e4 : IntKind.u32.wrap ((X.toNat : Int) + R.toNat) = (N.toNat : Int) := by rw [hN]; exact add_u _ _
          have hrot : ∀ w, Calls Try.prog 59 #[.int .u32 s3.toNat, .int .i64 T] w fun e w' => e = .returned (.int .u32 R.toNat) ∧ w' = w := by
            intro w; rw [hR]; exact rot_calls s3 T w hTb.1 hTb.2
          have Hstep := Lib.hid hstep
          have hg2 : (g : Int) < 16 := by omega
          clear hstep hg' hT hF hK hM hs1 hs2 hs3 hR hN hTb
          go_wp2_with (go_at_call 58; refine (hmix _).mono ?_; rintro _ _ ⟨rfl, rfl⟩)
          go_quiet (first | (go_at_call 60; exact Calls.quiet_of_same (hturn _)) | (go_at_call 59; exact Calls.quiet_of_same (hrot _)))
          go_wp2
          go_roundw
          case rel => exact ⟨n + 1, by omega, by go_num, by rw [Hstep.out], by rw [Hstep.out], by rw [Hstep.out], by rw [Hstep.out], by first | exact k1.drewN _ | exact k1.drew, by first | exact k2.drewN _ | exact k2.drew, by first | exact hbut.drewN _ | exact hbut.drew⟩
          case measure => simp [intOf]; omega
        · have h64 : n = 64 := by omega
          rw [h64]
          have hge2 : (64 : Int) ≤ n := by omega
          clear h64 hlt
          generalize hS : steps (wordOf l) 64 h = S
          have HS := Lib.hid hS
          clear hS
          obtain ⟨A, X, C, D⟩ := S
          obtain ⟨wq, rfl⟩ : ∃ wq : World, wq = wr := ⟨_, rfl⟩
          have i0 : ∀ w, (Instr.index 86 (.agg #[.int .u32 A.toNat, .int .u32 X.toNat, .int .u32 C.toNat, .int .u32 D.toNat]) (.int .i64 0)).run Try.prog w = .ok (.int .u32 A.toNat) w := fun _ => by kernel_rfl
          have i1 : ∀ w, (Instr.index 86 (.agg #[.int .u32 A.toNat, .int .u32 X.toNat, .int .u32 C.toNat, .int .u32 D.toNat]) (.int .i64 1)).run Try.prog w = .ok (.int .u32 X.toNat) w := fun _ => by kernel_rfl
          have i2 : ∀ w, (Instr.index 86 (.agg #[.int .u32 A.toNat, .int .u32 X.toNat, .int .u32 C.toNat, .int .u32 D.toNat]) (.int .i64 2)).run Try.prog w = .ok (.int .u32 C.toNat) w := fun _ => by kernel_rfl
          have i3 : ∀ w, (Instr.index 86 (.agg #[.int .u32 A.toNat, .int .u32 X.toNat, .int .u32 C.toNat, .int .u32 D.toNat]) (.int .i64 3)).run Try.prog w = .ok (.int .u32 D.toNat) w := fun _ => by kernel_rfl
          go_wp2
          go_loopw [92] (fun t wr => ∃ m : Nat, m ≤ 4 ∧ t = .int .i64 m ∧ Blk wr sb (.cells (stCells (addN h ⟨A, X, C, D⟩ m)) 90 (0, 0)) ∧ But sb w wr) (fun t _ => 4 - (intOf t).toNat)
          case atStart => exact ⟨0, by omega, rfl, k2, hbut⟩
          case round =>
            obtain ⟨m, hm, rfl, k2, hbut⟩ := hrel
            have hm4 : m = 0 ∨ m = 1 ∨ m = 2 ∨ m = 3 ∨ m = 4 := by omega
            rcases hm4 with hm4 | hm4 | hm4 | hm4 | hm4
            · have hmi : (m : Int) = 0 := by omega
              rw [hm4] at k2
              have hfz := k2.frozen 0
              have hcl : wr.cell? ⟨sb, 0, none⟩ = some (.int .u32 h.a.toNat) := k2.cell 0
              obtain ⟨N, hN⟩ : ∃ N, N = h.a + A := ⟨_, rfl⟩
              have hw : IntKind.u32.wrap ((h.a.toNat : Int) + A.toNat) = (N.toNat : Int) := by rw [hN]; exact add_u _ _
              have hN' := Lib.hid hN
              clear hN hm4
              go_wp2
              go_region
              go_wp2
              go_roundw
              case rel =>
                have kk := k2.set (i := 0) (v := .int .u32 N.toNat)
                rw [stCells_set0] at kk
                have e5 : addN h ⟨A, X, C, D⟩ 1 = ⟨N, (addN h ⟨A, X, C, D⟩ 0).b, (addN h ⟨A, X, C, D⟩ 0).c, (addN h ⟨A, X, C, D⟩ 0).d⟩ := by rw [hN'.out]; rfl
                exact ⟨1, by omega, rfl, by rw [e5]; exact kk.drew, (hbut.set (Or.inl rfl)).drew⟩
              case measure => simp [intOf]; omega
            · have hmi : (m : Int) = 1 := by omega
              rw [hm4] at k2
              have hfz := k2.frozen 1
              have hcl : wr.cell? ⟨sb, 1, none⟩ = some (.int .u32 h.b.toNat) := k2.cell 1
              obtain ⟨N, hN⟩ : ∃ N, N = h.b + X := ⟨_, rfl⟩
              have hw : IntKind.u32.wrap ((h.b.toNat : Int) + X.toNat) = (N.toNat : Int) := by rw [hN]; exact add_u _ _
              have hN' := Lib.hid hN
              clear hN hm4
              go_wp2
              go_region
              go_wp2
              go_roundw
              case rel =>
                have kk := k2.set (i := 1) (v := .int .u32 N.toNat)
                rw [stCells_set1] at kk
                have e5 : addN h ⟨A, X, C, D⟩ 2 = ⟨(addN h ⟨A, X, C, D⟩ 1).a, N, (addN h ⟨A, X, C, D⟩ 1).c, (addN h ⟨A, X, C, D⟩ 1).d⟩ := by rw [hN'.out]; rfl
                exact ⟨2, by omega, rfl, by rw [e5]; exact kk.drew, (hbut.set (Or.inl rfl)).drew⟩
              case measure => simp [intOf]; omega
            · have hmi : (m : Int) = 2 := by omega
              rw [hm4] at k2
              have hfz := k2.frozen 2
              have hcl : wr.cell? ⟨sb, 2, none⟩ = some (.int .u32 h.c.toNat) := k2.cell 2
              obtain ⟨N, hN⟩ : ∃ N, N = h.c + C := ⟨_, rfl⟩
              have hw : IntKind.u32.wrap ((h.c.toNat : Int) + C.toNat) = (N.toNat : Int) := by rw [hN]; exact add_u _ _
              have hN' := Lib.hid hN
              clear hN hm4
              go_wp2
              go_region
              go_wp2
              go_roundw
              case rel =>
                have kk := k2.set (i := 2) (v := .int .u32 N.toNat)
                rw [stCells_set2] at kk
                have e5 : addN h ⟨A, X, C, D⟩ 3 = ⟨(addN h ⟨A, X, C, D⟩ 2).a, (addN h ⟨A, X, C, D⟩ 2).b, N, (addN h ⟨A, X, C, D⟩ 2).d⟩ := by rw [hN'.out]; rfl
                exact ⟨3, by omega, rfl, by rw [e5]; exact kk.drew, (hbut.set (Or.inl rfl)).drew⟩
              case measure => simp [intOf]; omega
            · have hmi : (m : Int) = 3 := by omega
              rw [hm4] at k2
              have hfz := k2.frozen 3
              have hcl : wr.cell? ⟨sb, 3, none⟩ = some (.int .u32 h.d.toNat) := k2.cell 3
              obtain ⟨N, hN⟩ : ∃ N, N = h.d + D := ⟨_, rfl⟩
              have hw : IntKind.u32.wrap ((h.d.toNat : Int) + D.toNat) = (N.toNat : Int) := by rw [hN]; exact add_u _ _
              have hN' := Lib.hid hN
              clear hN hm4
              go_wp2
              go_region
              go_wp2
              go_roundw
              case rel =>
                have kk := k2.set (i := 3) (v := .int .u32 N.toNat)
                rw [stCells_set3] at kk
                have e5 : addN h ⟨A, X, C, D⟩ 4 = ⟨(addN h ⟨A, X, C, D⟩ 3).a, (addN h ⟨A, X, C, D⟩ 3).b, (addN h ⟨A, X, C, D⟩ 3).c, N⟩ := by rw [hN'.out]; rfl
                exact ⟨4, by omega, rfl, by rw [e5]; exact kk.drew, (hbut.set (Or.inl rfl)).drew⟩
              case measure => simp [intOf]; omega
            · have hmi : (m : Int) = 4 := by omega
              rw [hm4] at k2
              clear hm4
              go_wp2
              go_end0
              have e : block l h = addN h ⟨A, X, C, D⟩ 4 := by unfold block; rw [HS.out]; rfl
              rw [e]
              exact ⟨rfl, k2, hbut⟩
end Go.Proofs.Ytoldjadadgokeaa.Md
