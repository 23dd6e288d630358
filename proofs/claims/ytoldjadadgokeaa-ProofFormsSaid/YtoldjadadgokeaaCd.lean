/- What digest.Chap and the reference's Chap answer: MD5 of the id's low byte, the secret and the challenge. Condition: the two are together shorter than 2.9 * 10^14 (the reference: 9 * 10^13) bytes. -/
import Derived.Test.YtoldjadadgokeaaOf
import Derived.Test.YtoldjadadgokeaaRm
import Derived.Test.YtoldjadadgokeaaHx
import Derived.Test.YtoldjadadgokeaaPut
import Derived.Laws.Concat
namespace Go.Proofs.Ytoldjadadgokeaa.Md
open Go.RowKit Go.Proofs.Ytoldjadadgokeaa.Bytes

/-- A call of digest.Of answers this. -/
def OfS (s d : ByteArray) (w : World) : Prop := Calls Try.prog 40 #[.string s] w fun e w' => e = .returned (.string d) ∧ Below w.heap.size w w'
/-- A call of the reference's Md5 answers this. -/
def MdS (s d : ByteArray) (w : World) : Prop := Calls Try.prog 41 #[.string s] w fun e w' => e = .returned (.string d) ∧ Below w.heap.size w w'
/-- A call of hex answers this. -/
def HexS (s d : ByteArray) (w : World) : Prop := Calls Try.prog 39 #[.string s] w fun e w' => e = .returned (.string d) ∧ Below w.heap.size w w'
/-- A call of digest.Chap answers this. -/
def DcS (id : Int) (s c d : ByteArray) (w : World) : Prop := Calls Try.prog 42 #[.int .i64 id, .string s, .string c] w fun e w' => e = .returned (.string d) ∧ Below w.heap.size w w'
/-- A call of the reference's Chap answers this. -/
def RcS (id : Int) (s c d : ByteArray) (w : World) : Prop := Calls Try.prog 31 #[.int .i64 id, .string s, .string c] w fun e w' => e = .returned (.string d) ∧ Below w.heap.size w w'
theorem OfS.use {s d : ByteArray} {w : World} {Q : Ending → World → Prop} (h : OfS s d w) (k : ∀ e' w', (e' = .returned (.string d) ∧ Below w.heap.size w w') → Q e' w') : Calls Try.prog 40 #[.string s] w Q := Calls.mono h k
theorem MdS.use {s d : ByteArray} {w : World} {Q : Ending → World → Prop} (h : MdS s d w) (k : ∀ e' w', (e' = .returned (.string d) ∧ Below w.heap.size w w') → Q e' w') : Calls Try.prog 41 #[.string s] w Q := Calls.mono h k
theorem HexS.use {s d : ByteArray} {w : World} {Q : Ending → World → Prop} (h : HexS s d w) (k : ∀ e' w', (e' = .returned (.string d) ∧ Below w.heap.size w w') → Q e' w') : Calls Try.prog 39 #[.string s] w Q := Calls.mono h k
theorem DcS.use {id : Int} {s c d : ByteArray} {w : World} {Q : Ending → World → Prop} (h : DcS id s c d w) (k : ∀ e' w', (e' = .returned (.string d) ∧ Below w.heap.size w w') → Q e' w') : Calls Try.prog 42 #[.int .i64 id, .string s, .string c] w Q := Calls.mono h k
theorem RcS.use {id : Int} {s c d : ByteArray} {w : World} {Q : Ending → World → Prop} (h : RcS id s c d w) (k : ∀ e' w', (e' = .returned (.string d) ∧ Below w.heap.size w w') → Q e' w') : Calls Try.prog 31 #[.int .i64 id, .string s, .string c] w Q := Calls.mono h k
theorem of_any (l : List UInt8) (hl : l.length < 300000000000000) (w : World) : OfS (B l) (B (md5 l)) w := of_calls _ l w rfl hl
theorem md_any (l : List UInt8) (hl : l.length < 100000000000000) (w : World) : MdS (B l) (B (md5 l)) w := md5_calls _ l w rfl hl
theorem hex_any (l : List UInt8) (hl : l.length < 1000) (w : World) : HexS (B l) (B (hexOf l)) w := hex_calls _ l w rfl hl

/-- An id's low byte. -/
def lowByte (id : Int) : UInt8 := UInt8.ofNat (id % 256).toNat
theorem lowByte_int (id : Int) : ((lowByte id).toNat : Int) = id % 256 := u8_ofInt (by omega) (by omega)
theorem lowByte_wrap (id : Int) : IntKind.u8.wrap id = ((lowByte id).toNat : Int) := by
  rw [lowByte_int]; simp [IntKind.wrap, IntKind.bits, IntKind.signed]
theorem and255 (a : Int) : Go.bits .and .i64 a 255 = a % 256 := by
  have hc : (255 : Int) = ((2 ^ 8 - 1 : Nat) : Int) := by decide
  have h1 : (BitVec.ofInt 64 ((2 ^ 8 - 1 : Nat) : Int)).toNat = 2 ^ 8 - 1 := by
    rw [BitVec.ofInt_natCast, BitVec.toNat_ofNat]
  rw [hc]
  unfold Go.bits
  show IntKind.i64.wrap ((BitVec.ofInt 64 a &&& BitVec.ofInt 64 ((2 ^ 8 - 1 : Nat) : Int)).toNat : Int) = _
  rw [BitVec.toNat_and, h1, Nat.and_two_pow_sub_one_eq_mod, BitVec.toNat_ofInt, IntKind.wrap_i64]
  omega
theorem lowByte_and (id : Int) : lowByte (id % 256) = lowByte id := by unfold lowByte; rw [Int.emod_emod_of_dvd id (by decide)]
/-- What is digested. -/
def chapIn (id : Int) (s c : List UInt8) : List UInt8 := lowByte id :: (s ++ c)

set_option maxHeartbeats 400000 in
set_option maxRecDepth 100000 in
theorem dchap_walk (id : Int) (y : UInt8) (p q r s c d : ByteArray) (w : World) (hy : IntKind.u8.wrap id = (y.toNat : Int))
    (k1 : ∀ W : World, (convert 37 9 (.slice (some ⟨W.heap.size, 0, none⟩) 1 1)).run Try.prog (W.alloc (.cells #[.int .u8 (y.toNat : Int)] 5)) = .ok (.string p) (W.alloc (.cells #[.int .u8 (y.toNat : Int)] 5)))
    (c1 : ∀ W, (Op.stringOp .add p s).run Try.prog W = .ok (.string q) W) (c2 : ∀ W, (Op.stringOp .add q c).run Try.prog W = .ok (.string r) W) (hO : ∀ w, OfS r d w) : DcS id s c d w := by
  unfold DcS
  go_enter Try.func42, Try.ntmps42
  go_wp2_with fail
  refine (hO _).use ?_
  rintro e w1 ⟨rfl, hb⟩
  have B1 := (be_alloc (Below.refl w.heap.size w) _).trans (hb.mono (be_alloc (Below.refl w.heap.size w) _).size)
  go_wp2_with fail
  go_ret
  exact ⟨rfl, B1⟩
set_option maxHeartbeats 400000 in
set_option maxRecDepth 100000 in
theorem rchap_walk (id : Int) (y : UInt8) (p q r s c d : ByteArray) (w : World) (ha : Go.bits .and .i64 id 255 = (y.toNat : Int)) (hy0 : (y.toNat : Int) ≤ 255)
    (k1 : ∀ W : World, (convert 37 9 (.slice (some ⟨W.heap.size, 0, none⟩) 1 1)).run Try.prog (W.alloc (.cells #[.int .u8 (y.toNat : Int)] 5)) = .ok (.string p) (W.alloc (.cells #[.int .u8 (y.toNat : Int)] 5)))
    (c1 : ∀ W, (Op.stringOp .add p s).run Try.prog W = .ok (.string q) W) (c2 : ∀ W, (Op.stringOp .add q c).run Try.prog W = .ok (.string r) W) (hO : ∀ w, MdS r d w) : RcS id s c d w := by
  unfold RcS
  go_enter Try.func31, Try.ntmps31
  go_wp2_with fail
  refine (hO _).use ?_
  rintro e w1 ⟨rfl, hb⟩
  have B1 := (be_alloc (Below.refl w.heap.size w) _).trans (hb.mono (be_alloc (Below.refl w.heap.size w) _).size)
  go_wp2_with fail
  go_ret
  exact ⟨rfl, B1⟩
theorem conv_one (y : UInt8) (W : World) : (convert 37 9 (.slice (some ⟨W.heap.size, 0, none⟩) 1 1)).run Try.prog (W.alloc (.cells #[.int .u8 (y.toNat : Int)] 5)) = .ok (.string (B [y])) (W.alloc (.cells #[.int .u8 (y.toNat : Int)] 5)) := by
  have h := Ch6.conv1 W W.heap.size (y.toNat : Int) rfl
  rw [show UInt8.ofNat (y.toNat : Int).toNat = y by simp] at h
  exact h
theorem add_run (l m : List UInt8) (h : l.length + m.length ≤ 1000000000000000) (W : World) : (Op.stringOp .add (B l) (B m)).run Try.prog W = .ok (.string (B (l ++ m))) W := by
  rw [run_string_add_sum W (B l) (B m) (by rw [B_size, B_size]; omega), B_append]
theorem dchap_any (id : Int) (s c : List UInt8) (hl : s.length + c.length < 290000000000000) (w : World) : DcS id (B s) (B c) (B (md5 (chapIn id s c))) w := by
  refine dchap_walk id (lowByte id) (B [lowByte id]) (B ([lowByte id] ++ s)) (B ([lowByte id] ++ s ++ c)) (B s) (B c) _ w (lowByte_wrap id) (conv_one _) (add_run _ _ (by simp; omega)) (add_run _ _ (by simp; omega)) ?_
  exact of_any (chapIn id s c) (by simp [chapIn]; omega)
theorem rchap_any (id : Int) (s c : List UInt8) (hl : s.length + c.length < 90000000000000) (w : World) : RcS id (B s) (B c) (B (md5 (chapIn id s c))) w := by
  refine rchap_walk id (lowByte id) (B [lowByte id]) (B ([lowByte id] ++ s)) (B ([lowByte id] ++ s ++ c)) (B s) (B c) _ w (by rw [and255, lowByte_int]) (by have := (lowByte id).toNat_lt; omega) (conv_one _) (add_run _ _ (by simp; omega)) (add_run _ _ (by simp; omega)) ?_
  exact md_any (chapIn id s c) (by simp [chapIn]; omega)
end Go.Proofs.Ytoldjadadgokeaa.Md
