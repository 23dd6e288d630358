/- Strings of zeros that the laws make: make, then the conversion. No condition but a length of at most 2^48. -/
import Derived.Test.YtoldjadadgokeaaAw
import Derived.Deep.OwnRows
import Derived.Laws.MakeOwn
namespace Go.Proofs.Ytoldjadadgokeaa.Ch6
open Go.RowKit Go.Proofs.Ytoldjadadgokeaa.Bytes
/-- k zero bytes, as cells. -/
def zc (k : Nat) : Array Value := madeCells #[.int .u8 0] k
theorem info5 : (Try.prog.info? 5).map (fun i => (i.zero, i.size, i.bytes)) = some (some (.int .u8 0), 1, 1) := by kernel_rfl
theorem make_zeros (k : Nat) (hk : k ≤ 281474976710656) (w : World) :
    (Instr.makeSlice 37 (.int .i64 (k : Int)) (.int .i64 (k : Int))).run Try.prog w = .ok (.slice (some ⟨w.heap.size, 0, none⟩) k k) (w.alloc (.cells (zc k) 5)) :=
  run_make_row' 37 5 (.int .u8 0) 1 Try.underlying37 info5 rfl .i64 .i64 k (by omega) (by omega) w
theorem zeros_cells (k : Nat) : ((List.replicate k (0 : Int)).map (Value.int .u8)).toArray = zc k := by
  unfold zc madeCells
  apply Array.ext
  · simp
  · intro i h1 h2
    simp [Nat.mod_one]
theorem conv_zeros (k : Nat) (W : World) (b : Nat) (hb : b = W.heap.size) :
    (convert 37 9 (.slice (some ⟨b, 0, none⟩) k k)).run Try.prog (W.alloc (.cells (zc k) 5)) = .ok (.string (B (List.replicate k 0))) (W.alloc (.cells (zc k) 5)) := by
  have h := conv_new W b (List.replicate k 0) hb k (by simp) (zc k) (zeros_cells k)
  have e : strOfNums (List.replicate k 0) = B (List.replicate k 0) := by rw [B_nums, List.map_replicate]; rfl
  rw [h, e]
theorem code_of (a : Int) : ∃ q : Nat, Int.tmod (IntKind.u64.wrap a) 4 = (q : Int) ∧ q ≤ 3 := by
  have h : IntKind.u64.wrap a = a % 18446744073709551616 := by simp [IntKind.wrap, IntKind.bits, IntKind.signed]
  rw [h, Int.tmod_eq_emod_of_nonneg (by omega)]
  exact ⟨(a % 18446744073709551616 % 4).toNat, by omega, by omega⟩
theorem and_mask (a : Int) (i : Nat) (hi : i ≤ 16) (m : Int) (hm : m = 2 ^ i - 1) : ∃ k : Nat, Go.bits .and .i64 a m = (k : Int) ∧ k ≤ 2 ^ i - 1 := by
  subst hm
  have hp : (2 : Nat) ^ i ≤ 65536 := Nat.pow_le_pow_right (by omega) hi (n := 2)
  have hpos : 0 < (2 : Nat) ^ i := Nat.two_pow_pos i
  have hc : ((2 : Int) ^ i - 1) = ((2 ^ i - 1 : Nat) : Int) := by rw [Int.natCast_sub hpos]; simp
  rw [hc]
  refine ⟨(BitVec.ofInt 64 a).toNat &&& (2 ^ i - 1), ?_, ?_⟩
  · have h1 : (BitVec.ofInt 64 ((2 ^ i - 1 : Nat) : Int)).toNat = 2 ^ i - 1 := by
      rw [BitVec.ofInt_natCast, BitVec.toNat_ofNat]; exact Nat.mod_eq_of_lt (by omega)
    have hle : ((BitVec.ofInt 64 a).toNat &&& (2 ^ i - 1)) ≤ 2 ^ i - 1 := Nat.and_le_right
    unfold Go.bits
    show IntKind.i64.wrap ((BitVec.ofInt 64 a &&& BitVec.ofInt 64 ((2 ^ i - 1 : Nat) : Int)).toNat : Int) = _
    rw [BitVec.toNat_and, h1, IntKind.wrap_i64]
    omega
  · exact Nat.and_le_right
end Go.Proofs.Ytoldjadadgokeaa.Ch6
