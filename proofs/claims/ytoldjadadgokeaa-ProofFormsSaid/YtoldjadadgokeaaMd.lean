/- MD5 as a plain function on lists of bytes, and the arithmetic of 32 bits that the walks meet. No condition. -/
import Derived.Test.YtoldjadadgokeaaB
import Derived.Laws.BitsAllLaws
namespace Go.Proofs.Ytoldjadadgokeaa.Md
open Go.RowKit Go.Proofs.Ytoldjadadgokeaa.Bytes

/-- The 64 constants. -/
def kList : List UInt32 := [3614090360, 3905402710, 606105819, 3250441966, 4118548399, 1200080426, 2821735955, 4249261313, 1770035416, 2336552879, 4294925233, 2304563134, 1804603682, 4254626195, 2792965006, 1236535329, 4129170786, 3225465664, 643717713, 3921069994, 3593408605, 38016083, 3634488961, 3889429448, 568446438, 3275163606, 4107603335, 1163531501, 2850285829, 4243563512, 1735328473, 2368359562, 4294588738, 2272392833, 1839030562, 4259657740, 2763975236, 1272893353, 4139469664, 3200236656, 681279174, 3936430074, 3572445317, 76029189, 3654602809, 3873151461, 530742520, 3299628645, 4096336452, 1126891415, 2878612391, 4237533241, 1700485571, 2399980690, 4293915773, 2240044497, 1873313359, 4264355552, 2734768916, 1309151649, 4149444226, 3174756917, 718787259, 3951481745]
def kOf (i : Nat) : UInt32 := kList.getD i 0
def tList : List Nat := [7, 12, 17, 22, 5, 9, 14, 20, 4, 11, 16, 23, 6, 10, 15, 21]
/-- By how much round i rolls. -/
def tOf (i : Nat) : Nat := tList.getD (i / 16 * 4 + i % 4) 0
/-- The function of a quarter. -/
def fOf (q : Nat) (b c d : UInt32) : UInt32 := match q with
  | 0 => b &&& c ||| ~~~b &&& d
  | 1 => d &&& b ||| ~~~d &&& c
  | 2 => b ^^^ c ^^^ d
  | _ => c ^^^ (b ||| ~~~d)
/-- Which word a round takes. -/
def gOf (i : Nat) : Nat := match i / 16 with
  | 0 => i
  | 1 => (5 * i + 1) % 16
  | 2 => (3 * i + 5) % 16
  | _ => 7 * i % 16
def rotl (x : UInt32) (n : Nat) : UInt32 := x <<< UInt32.ofNat n ||| x >>> UInt32.ofNat (32 - n)
/-- What a digest is worked out in. -/
structure St where
  a : UInt32
  b : UInt32
  c : UInt32
  d : UInt32
def step (m : Nat → UInt32) (i : Nat) (s : St) : St :=
  ⟨s.d, s.b + rotl (s.a + fOf (i / 16) s.b s.c s.d + kOf i + m (gOf i)) (tOf i), s.b, s.c⟩
def steps (m : Nat → UInt32) : Nat → St → St
  | 0, s => s
  | n + 1, s => step m n (steps m n s)
/-- Word j of a block. -/
def wordOf (x : List UInt8) (j : Nat) : UInt32 :=
  (x.getD (4 * j) 0).toUInt32 ||| (x.getD (4 * j + 1) 0).toUInt32 <<< 8 ||| (x.getD (4 * j + 2) 0).toUInt32 <<< 16 ||| (x.getD (4 * j + 3) 0).toUInt32 <<< 24
def addSt (h s : St) : St := ⟨h.a + s.a, h.b + s.b, h.c + s.c, h.d + s.d⟩
def block (x : List UInt8) (h : St) : St := addSt h (steps (wordOf x) 64 h)
/-- Block by block, by whatever function (so that no proof opens the 64 rounds). -/
def foldB (f : List UInt8 → St → St) : Nat → List UInt8 → St → St
  | 0, _, h => h
  | n + 1, x, h => foldB f n (x.drop 64) (f (x.take 64) h)
theorem foldB_succ (f : List UInt8 → St → St) (n : Nat) (x : List UInt8) (h : St) : foldB f (n + 1) x h = foldB f n (x.drop 64) (f (x.take 64) h) := rfl
def blocks (n : Nat) (x : List UInt8) (h : St) : St := foldB block n x h
theorem blocks_succ (n : Nat) (x : List UInt8) (h : St) : blocks (n + 1) x h = blocks n (x.drop 64) (block (x.take 64) h) := foldB_succ block n x h
theorem blocks_zero (x : List UInt8) (h : St) : blocks 0 x h = h := by unfold blocks; unfold foldB; rfl
def h0 : St := ⟨1732584193, 4023233417, 2562383102, 271733878⟩
/-- A word's bytes, the low one first. -/
def le4 (x : UInt32) : List UInt8 := [x.toUInt8, (x >>> 8).toUInt8, (x >>> 16).toUInt8, (x >>> 24).toUInt8]
def bytesSt (h : St) : List UInt8 := le4 h.a ++ (le4 h.b ++ (le4 h.c ++ le4 h.d))
/-- How many zeros stand behind the mark. -/
def zerosOf (n : Nat) : Nat := (119 - n % 64) % 64
def padded (l : List UInt8) : List UInt8 :=
  l ++ (128 :: List.replicate (zerosOf l.length) 0 ++ (le4 (UInt32.ofNat (8 * l.length)) ++ le4 (UInt32.ofNat (8 * l.length / 4294967296))))
def md5 (l : List UInt8) : List UInt8 := bytesSt (blocks ((padded l).length / 64) (padded l) h0)

theorem md5_length (l : List UInt8) : (md5 l).length = 16 := rfl
theorem padded_length (l : List UInt8) : ∃ n, (padded l).length = 64 * n ∧ 1 ≤ n := by
  refine ⟨(l.length + 9 + zerosOf l.length) / 64, ?_, ?_⟩
  · simp only [padded, le4, List.length_append, List.length_cons, List.length_replicate, List.length_nil, zerosOf]; omega
  · unfold zerosOf; omega

/-! ### 32 bits -/
theorem u32_lt (x : UInt32) : (x.toNat : Int) < 4294967296 := by have := x.toNat_lt; omega
theorem and_u (x y : UInt32) : Go.bits .and .u32 (x.toNat : Int) (y.toNat : Int) = ((x &&& y).toNat : Int) := by
  rw [Go.u32_and_nat _ _ x.toNat_lt y.toNat_lt, UInt32.toNat_and]
theorem or_u (x y : UInt32) : Go.bits .or .u32 (x.toNat : Int) (y.toNat : Int) = ((x ||| y).toNat : Int) := by
  rw [Go.u32_or_nat _ _ x.toNat_lt y.toNat_lt, UInt32.toNat_or]
theorem xor_u (x y : UInt32) : Go.bits .xor .u32 (x.toNat : Int) (y.toNat : Int) = ((x ^^^ y).toNat : Int) := by
  rw [Go.u32_xor_nat _ _ x.toNat_lt y.toNat_lt, UInt32.toNat_xor]
theorem not_u (x : UInt32) : Go.bits .xor .u32 4294967295 (x.toNat : Int) = ((~~~x).toNat : Int) := by
  have h : (4294967295 : Int) = ((4294967295 : UInt32).toNat : Int) := rfl
  rw [h, xor_u]
  have e : (4294967295 : UInt32) ^^^ x = ~~~x := by
    apply UInt32.toBitVec_inj.1
    simp only [UInt32.toBitVec_xor, UInt32.toBitVec_not]
    rw [← BitVec.allOnes_xor]
    rfl
  rw [e]
theorem add_u (x y : UInt32) : IntKind.u32.wrap ((x.toNat : Int) + (y.toNat : Int)) = ((x + y).toNat : Int) := by
  rw [IntKind.wrap_u32, UInt32.toNat_add]; omega
theorem shl_u (x : UInt32) (n : Nat) (hn : n < 32) : IntKind.u32.wrap ((x.toNat : Int) * 2 ^ n) = ((x <<< UInt32.ofNat n).toNat : Int) := by
  rw [IntKind.wrap_u32, UInt32.toNat_shiftLeft, UInt32.toNat_ofNat', Nat.mod_eq_of_lt (show n < 2 ^ 32 by omega), Nat.mod_eq_of_lt hn, Nat.shiftLeft_eq]
  have : ((2 : Int) ^ n) = ((2 ^ n : Nat) : Int) := by simp
  rw [this]
  omega
theorem shr_u (x : UInt32) (n : Nat) (hn : n < 32) : (x.toNat : Int) / 2 ^ n = ((x >>> UInt32.ofNat n).toNat : Int) := by
  rw [UInt32.toNat_shiftRight, UInt32.toNat_ofNat', Nat.mod_eq_of_lt (show n < 2 ^ 32 by omega), Nat.mod_eq_of_lt hn, Nat.shiftRight_eq_div_pow]
  have : ((2 : Int) ^ n) = ((2 ^ n : Nat) : Int) := by simp
  rw [this]
  omega
end Go.Proofs.Ytoldjadadgokeaa.Md
