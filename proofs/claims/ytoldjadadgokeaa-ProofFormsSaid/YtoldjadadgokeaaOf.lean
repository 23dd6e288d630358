/- digest.Of answers MD5. Condition: the text is shorter than 3 * 10^14 bytes. -/
import Derived.Test.YtoldjadadgokeaaTu
import Derived.Test.YtoldjadadgokeaaWo
import Derived.Deep.OwnRows
import Derived.Laws.MakeOwn
import Derived.Deep.RegionWith
import Derived.Laws.Tables
import Derived.Deep.DeepCutAuto
import Derived.Deep.CutBlock
namespace Go.Proofs.Ytoldjadadgokeaa.Md
open Go.RowKit Go.Proofs.Ytoldjadadgokeaa.Bytes

/-- k zero bytes, as cells. -/
def zc (k : Nat) : Array Value := madeCells #[.int .u8 0] k
theorem make_zeros (k : Nat) (hk : k ≤ 281474976710656) (w : World) :
    (Instr.makeSlice 37 (.int .i64 (k : Int)) (.int .i64 (k : Int))).run Try.prog w = .ok (.slice (some ⟨w.heap.size, 0, none⟩) k k) (w.alloc (.cells (zc k) 5)) :=
  run_make_row' 37 5 (.int .u8 0) 1 Try.underlying37 info5 rfl .i64 .i64 k (by omega) (by omega) w
/-- The padding as cells. -/
def padCells (k : Nat) : Array Value := (cells8 (128 :: List.replicate k 0)).toArray
theorem zc_set (k : Nat) : (zc (k + 1)).setIfInBounds 0 (.int .u8 128) = padCells k := by
  unfold zc padCells madeCells cells8
  apply Array.ext
  · simp
  · intro i h1 h2
    cases i with
    | zero => simp
    | succ i =>
      rw [Array.getElem_setIfInBounds (by simpa using h1), if_neg (by omega)]
      simp [Nat.mod_one]
theorem zc_zero (k : Nat) : (zc (k + 1))[0]? = some (.int .u8 0) := by simp [zc, madeCells]
theorem conv_pad (k pb : Nat) (hk : k < 64) (W : World) (hb : Blk W pb (.cells (padCells k) 5 (0, 0))) :
    (convert 37 9 (.slice (some ⟨pb, 0, none⟩) (k + 1) (k + 1))).run Try.prog W = .ok (.string (B (128 :: List.replicate k 0))) W := by
  have h : W.ownsRow 0 5 1 (.slice (some ⟨pb, 0, none⟩) (k + 1) (k + 1)) (k + 1) (cells8 (128 :: List.replicate k 0)) := by
    refine ⟨by rw [cells8_length]; simp, Or.inr ⟨pb, k + 1, padCells k, rfl, Nat.zero_le _, hb.out, Nat.le_refl _, by unfold maxLen; omega, ?_, ?_⟩⟩
    · unfold padCells; rw [List.size_toArray, cells8_length]; simp
    · unfold padCells; rw [List.take_of_length_le (by rw [cells8_length]; simp)]
  exact own_text h
theorem wpList_build_to {P : Program} {w : World} {ops : Array Oper} {rest : List Oper} {o : Oper} {a : Act} {Q : Exit → Act → World → Prop} (hg : o.guard = none) (t : TypeId) (parts : Array (Nat × Operand)) (ho : o.op = .build t parts)
    (cells : Array Value) (hf : P.built t (parts.map fun (i, x) => (i, a.eval x)).toList = some cells)
    (h : wpList P ops Q rest (a.put o.dst (.agg cells)) w) : wpList P ops Q (o :: rest) a w :=
  wpList_build hg t parts ho (by rw [hf]; rfl) (by rw [hf]; exact h)
/-- How long a string value is. -/
def lenOf : Value → Nat | .string s => s.size | _ => 0
theorem isEmpty_of {l : List UInt8} : (B l).toList.isEmpty = l.isEmpty := by rw [B_toList]
theorem two_words (W : World) (x y : UInt32) : ∀ i, i < 2 → (W.alloc (.cells #[.int .u32 x.toNat, .int .u32 y.toNat] 84)).drew.cell? ⟨W.heap.size, 0 + i, none⟩ = some (.int .u32 ([x, y].getD i 0).toNat) := by
  intro i hi
  have h : i = 0 ∨ i = 1 := by omega
  rcases h with rfl | rfl
  · exact (cell_of_row (W.alloc _) W.heap.size 0 _ 84 (0, 0) (heap_alloc_new W _)).trans rfl
  · exact (cell_of_row (W.alloc _) W.heap.size 1 _ 84 (0, 0) (heap_alloc_new W _)).trans rfl

set_option maxHeartbeats 2000000 in
set_option maxRecDepth 100000 in
theorem of_calls (s : ByteArray) (l : List UInt8) (w : World) (hs : s = B l) (hl : l.length < 300000000000000) :
    Calls Try.prog 40 #[.string s] w fun e w' => e = .returned (.string (B (md5 l))) ∧ Below w.heap.size w w' := by
  have hsz : s.size = l.length := by rw [hs, B_size]
  have hsz2 : (s.size : Int) < 300000000000000 := by omega
  obtain ⟨z, hz⟩ : ∃ z, z = zerosOf l.length := ⟨_, rfl⟩
  have hz1 : (1 : Int) + (119 - (s.size : Int)) % 64 = (z : Int) + 1 := by rw [hz, hsz]; unfold zerosOf; omega
  have hz64 : z < 64 := by rw [hz]; unfold zerosOf; omega
  have hmk : ∀ w, (Instr.makeSlice 37 (.int .i64 ((z : Int) + 1)) (.int .i64 ((z : Int) + 1))).run Try.prog w = .ok (.slice (some ⟨w.heap.size, 0, none⟩) (z + 1) (z + 1)) (w.alloc (.cells (zc (z + 1)) 5)) := make_zeros (z + 1) (by omega)
  have hz0 := zc_zero z
  have hzs := zc_set z
  have Hs := Lib.hid hs
  have Hsz := Lib.hid hsz
  have Hz := Lib.hid hz
  clear hs hsz hz
  go_enter Try.func40, Try.ntmps40
  go_wp2
  have k0 := Blk.new w (.cells (padCells z) 5)
  have B0 := be_alloc (Below.refl w.heap.size w) (.cells (padCells z) 5)
  obtain ⟨pb, hpb⟩ : ∃ pb, pb = w.heap.size := ⟨_, rfl⟩
  rw [← hpb] at k0 ⊢
  generalize w.alloc (.cells (padCells z) 5) = W0 at k0 B0 ⊢
  obtain ⟨x1, hx1⟩ : ∃ x, x = UInt32.ofNat (8 * l.length) := ⟨_, rfl⟩
  obtain ⟨x2, hx2⟩ : ∃ x, x = UInt32.ofNat (8 * l.length / 4294967296) := ⟨_, rfl⟩
  have e1 : IntKind.u32.wrap ((s.size : Int) * 8) = (x1.toNat : Int) := by rw [hx1, UInt32.toNat_ofNat', IntKind.wrap_u32, Hsz.out]; omega
  have e2 : IntKind.u32.wrap ((s.size : Int) * 8 / 4294967296) = (x2.toNat : Int) := by rw [hx2, UInt32.toNat_ofNat', IntKind.wrap_u32, Hsz.out]; omega
  have e3 : IntKind.u64.wrap ((s.size : Int) * 8) = (s.size : Int) * 8 := by simp [IntKind.wrap, IntKind.bits, IntKind.signed]; omega
  have Hx1 := Lib.hid hx1
  have Hx2 := Lib.hid hx2
  have Hpb := Lib.hid hpb
  have hconv := conv_pad z pb hz64
  have hwl : (B ([x1, x2].flatMap le4)).size = 8 := by rw [B_size]; rfl
  have hpl : (B (128 :: List.replicate z 0)).size = z + 1 := by rw [B_size]; simp
  obtain ⟨wd, hwd⟩ : ∃ wd, wd = B ([x1, x2].flatMap le4) := ⟨_, rfl⟩
  obtain ⟨pd, hpd⟩ : ∃ pd, pd = B (128 :: List.replicate z 0) := ⟨_, rfl⟩
  rw [← hpd] at hconv hpl
  rw [← hwd] at hwl
  have hw : ∀ W : World, Calls Try.prog 53 #[.slice (some ⟨W.heap.size, 0, none⟩) 2 2] (W.alloc (.cells #[.int .u32 (IntKind.u32.wrap ((s.size : Int) * 8)), .int .u32 (IntKind.u32.wrap ((s.size : Int) * 8 / 4294967296))] 84)).drew fun e w' => e = .returned (.string wd) ∧ Below (W.alloc (.cells #[.int .u32 (IntKind.u32.wrap ((s.size : Int) * 8)), .int .u32 (IntKind.u32.wrap ((s.size : Int) * 8 / 4294967296))] 84)).drew.heap.size (W.alloc (.cells #[.int .u32 (IntKind.u32.wrap ((s.size : Int) * 8)), .int .u32 (IntKind.u32.wrap ((s.size : Int) * 8 / 4294967296))] 84)).drew w' := by
    intro W; rw [e1, e2, hwd]; exact words_calls W.heap.size 0 2 2 [x1, x2] _ rfl (by omega) (two_words W x1 x2)
  have hc1 : (pd.size : Int) ≤ 100 := by omega
  have hc2 : (wd.size : Int) ≤ 100 := by omega
  clear hpl hwl
  have Hwd := Lib.hid hwd
  have Hpd := Lib.hid hpd
  clear hx1 hx2 hpb hwd hpd hzs hz0 hmk hz1 e1 e2 e3
  have c1 : ∀ W, (Op.stringOp .add pd wd).run Try.prog W = .ok (.string (pd ++ wd)) W := fun W => run_string_add_sum W _ _ (by omega)
  have c2 : ∀ W, (Op.stringOp .add s (pd ++ wd)).run Try.prog W = .ok (.string (s ++ (pd ++ wd))) W := fun W => run_string_add_sum W _ _ (by rw [ByteArray.size_append]; omega)
  have hv0 := hconv W0.drew k0.drew
  have hv1 := hconv (W0.alloc (.cells #[.int .u32 (IntKind.u32.wrap ((s.size : Int) * 8)), .int .u32 (IntKind.u32.wrap ((s.size : Int) * 8 / 4294967296))] 84)).drew (k0.alloc _).drew
  have Hconv := Lib.hid hconv
  clear hconv
  have Hl := Lib.hid hl
  have Hsz2 := Lib.hid hsz2
  clear hl hsz2
  go_cut [0] (fun v wc => v = .string (s ++ (pd ++ wd)) ∧ Below w.heap.size w wc)
  case first =>
    go_region_with (go_at_call 53; refine (hw W0).mono ?_; rintro e w1 ⟨rfl, hb⟩; have kb := ((k0.alloc _).drew).below hb; have hv2 := Hconv.out w1 kb)
    all_goals
      have B1 := (be_drew (be_alloc B0 _)).trans (hb.mono (be_drew (be_alloc B0 _)).size)
      clear hv0 hv1 hv2 c1 c2 k0 kb hb B0 hc1 hc2
      go_wp2
      go_meet
      case rel => exact ⟨rfl, B1⟩
  case rest =>
    obtain ⟨rfl, B1⟩ := hcut
    clear hv0 hv1 c1 c2 k0 B0 hc1 hc2 hw
    go_wp2_with (first | (go_at_call 54; refine (constants_calls _).mono ?_; rintro e w2 ⟨rfl, hb2⟩) | (refine wpList_build_to rfl 90 _ rfl (stCells h0) (by kernel_rfl) ?_))
    have B2 := B1.trans (hb2.mono B1.size)
    obtain ⟨N, hN, hN1⟩ := padded_length l
    obtain ⟨p, hp⟩ : ∃ p, p = padded l := ⟨_, rfl⟩
    have e0 : s ++ (pd ++ wd) = B p := by
      rw [Hs.out, Hpd.out, Hwd.out, B_append, B_append, hp]
      unfold padded
      rw [Hx1.out, Hx2.out, Hz.out]
      simp
    have hlast : md5 l = bytesSt (blocks N p h0) := by
      unfold md5
      rw [hN, Nat.mul_div_cancel_left _ (by omega), hp]
    rw [← hp] at hN
    have HN := Lib.hid hN
    have Hlast := Lib.hid hlast
    have E0 := Lib.hid e0
    clear hN hp e0 hlast B1 hb2
    go_loopw [0] (fun v wr => ∃ (j : Nat) (h : St) (x : ByteArray), j ≤ N ∧ v = .string x ∧ x = B (p.drop (64 * j)) ∧ blocks (N - j) (p.drop (64 * j)) h = blocks N p h0 ∧ Blk wr w2.heap.size (.cells (stCells h) 90 (0, 0)) ∧ Below w.heap.size w wr) (fun v _ => lenOf v)
    case atStart => exact ⟨0, h0, s ++ (pd ++ wd), by omega, rfl, E0.out, rfl, Blk.new w2 _, be_alloc B2 _⟩
    case round =>
      obtain ⟨j, h, x, hj, rfl, hx, hbl, hblk, hbel⟩ := hrel
      obtain ⟨q, hq⟩ : ∃ q, q = p.drop (64 * j) := ⟨_, rfl⟩
      have hql : q.length = 64 * (N - j) := by rw [hq, List.length_drop, HN.out, Nat.mul_sub]
      rw [← hq] at hx hbl
      have hxs : x.size = q.length := by rw [hx, B_size]
      by_cases hlt : j < N
      · have hne : x.toList.isEmpty = false := by
          rw [hx, isEmpty_of]
          cases q with
          | nil => simp at hql; omega
          | cons a b => rfl
        have hx64 : (64 : Int) ≤ x.size := by omega
        have ht : ∀ W, Blk W w2.heap.size (.cells (stCells h) 90 (0, 0)) → Calls Try.prog 55 #[.pointer (some ⟨w2.heap.size, 0, none⟩), .string (x.extract 0 64)] W fun e w' => e = .returned (.tuple #[]) ∧ Blk w' w2.heap.size (.cells (stCells (block (q.take 64) h)) 90 (0, 0)) ∧ But w2.heap.size W w' := by
          intro W hW
          refine turn_calls w2.heap.size (x.extract 0 64) (q.take 64) h W ?_ ?_ hW
          · rw [hx, B_extract]; rfl
          · rw [List.length_take, hql]; omega
        have hnext : x.extract 64 x.size = B (p.drop (64 * (j + 1))) := by
          rw [hxs, hx, B_extract, List.take_of_length_le (by rw [List.length_drop]; omega), hq, List.drop_drop, show 64 * j + 64 = 64 * (j + 1) by omega]
        have hbl2 : blocks (N - (j + 1)) (p.drop (64 * (j + 1))) (block (q.take 64) h) = blocks N p h0 := by
          rw [← hbl, show N - j = (N - (j + 1)) + 1 by omega, blocks_succ, hq, List.drop_drop, show 64 * j + 64 = 64 * (j + 1) by omega]
        have hsz2 : (x.extract 64 x.size).size < x.size := by rw [hnext, B_size, List.length_drop, HN.out, hxs, hql]; omega
        have Hx := Lib.hid hx
        have Hn := Lib.hid hnext
        have Hb := Lib.hid hbl2
        have Hs2 := Lib.hid hsz2
        clear hx hbl hxs hql hq hnext hbl2 hsz2
        go_wp2_with (go_at_call 55; refine (ht _ hblk).mono ?_; rintro e w3 ⟨rfl, hblk3, hbut3⟩)
        go_roundw
        case rel => exact ⟨j + 1, block (q.take 64) h, x.extract 64 x.size, by omega, rfl, Hn.out, Hb.out, hblk3, hbut3.below hbel (by exact B2.size) hbel.size⟩
        case measure => exact Hs2.out
      · have hq0 : q = [] := List.eq_nil_of_length_eq_zero (by omega)
        have hne : x.toList.isEmpty = true := by rw [hx, isEmpty_of, hq0]; rfl
        have hjN : N - j = 0 := by omega
        have hh : h = blocks N p h0 := by rw [← hbl, hjN, blocks_zero]
        have Hh := Lib.hid hh
        have hwords : ∀ W, Blk W w2.heap.size (.cells (stCells h) 90 (0, 0)) → Calls Try.prog 53 #[.slice (some ⟨w2.heap.size, 0, none⟩) 4 4] W fun e w' => e = .returned (.string (B (bytesSt h))) ∧ Below W.heap.size W w' := by
          intro W hW
          have := words_calls w2.heap.size 0 4 4 [h.a, h.b, h.c, h.d] W rfl (by omega) (fun i hi => by
            have h4 : i = 0 ∨ i = 1 ∨ i = 2 ∨ i = 3 := by omega
            rcases h4 with rfl | rfl | rfl | rfl
            · exact hW.cell 0
            · exact hW.cell 1
            · exact hW.cell 2
            · exact hW.cell 3)
          have e : [h.a, h.b, h.c, h.d].flatMap le4 = bytesSt h := by simp [bytesSt]
          rw [e] at this
          exact this
        clear hx hbl hxs hql hq hq0 hjN hh
        go_wp2_with (go_at_call 53; refine (hwords _ hblk).mono ?_; rintro e w3 ⟨rfl, hb3⟩)
        go_ret
        exact ⟨by rw [Hlast.out, ← Hh.out]; rfl, hbel.trans (hb3.mono hbel.size)⟩
end Go.Proofs.Ytoldjadadgokeaa.Md
