/- Strings as lists of bytes: small plain lemmas on 'B l', the byte array of the list l. No condition. -/
import Derived.Laws.BytesArg
import Derived.RowKit
import Derived.Below
import Derived.Deep.Draws
import Derived.Lib.Strings
import Derived.Laws.BitsLemmas
namespace Go.Proofs.Ytoldjadadgokeaa.Bytes
open Go.RowKit

/-- The byte array of a list. -/
def B (l : List UInt8) : ByteArray := ⟨l.toArray⟩
theorem B_toList (l : List UInt8) : (B l).toList = l := by rw [ByteArray.toList_eq]; rfl
theorem B_size (l : List UInt8) : (B l).size = l.length := by simp [B, ByteArray.size]
theorem B_data (l : List UInt8) : (B l).data.toList = l := rfl
theorem B_ext {s : ByteArray} {l : List UInt8} (h : s.data.toList = l) : s = B l := by subst h; rfl
theorem B_of (s : ByteArray) : ∃ l, s = B l := ⟨s.data.toList, B_ext rfl⟩
theorem B_append (l m : List UInt8) : B l ++ B m = B (l ++ m) := B_ext (by simp [B])
theorem B_extract (l : List UInt8) (a b : Nat) : (B l).extract a b = B ((l.drop a).take (b - a)) := B_ext (by rw [Lib.extract_data]; rfl)
theorem B_nums (xs : List Int) : strOfNums xs = B (xs.map fun n => UInt8.ofNat n.toNat) := rfl
theorem B_nil : (⟨#[]⟩ : ByteArray) = B [] := rfl
theorem B_inj {l m : List UInt8} (h : B l = B m) : l = m := by have := congrArg ByteArray.toList h; rwa [B_toList, B_toList] at this
theorem toList_inj {s t : ByteArray} (h : s.toList = t.toList) : s = t := by
  obtain ⟨l, rfl⟩ := B_of s; obtain ⟨m, rfl⟩ := B_of t
  rw [B_toList, B_toList] at h; rw [h]
theorem B_getElem (l : List UInt8) (i : Nat) (h : i < (B l).size) : (B l)[i]'h = l[i]'(by rwa [B_size] at h) := by simp [B, ByteArray.getElem_eq_getElem_data]
theorem u8_ofInt {n : Int} (h0 : 0 ≤ n) (h : n < 256) : ((UInt8.ofNat n.toNat).toNat : Int) = n := by
  rw [UInt8.toNat_ofNat']; omega
theorem w64 {n : Int} (h0 : 0 ≤ n) (h : n < 9223372036854775808) : wrap64 n = n := by unfold wrap64; omega
theorem or_bytes (a b : Int) (ha : 0 ≤ a) (ha' : a ≤ 255) (hb : 0 ≤ b) (hb' : b ≤ 255) : Go.bits .or .i64 (a * 256) b = a * 256 + b :=
  Go.bits_join .i64 16 (by decide) (fun n h0 h1 => by rw [IntKind.wrap_i64]; omega) 8 _ _ (by omega) (by omega) (by omega) hb (by omega) (by omega)
theorem be_alloc {w W : World} (h : Below w.heap.size w W) (o : Obj) : Below w.heap.size w (W.alloc o) := h.alloc h.size o
theorem be_drewN {B : Nat} {w W : World} (h : Below B w W) (n : Nat) : Below B w (W.drewN n) := ⟨h.os, h.tape, h.output, h.size, h.block⟩
theorem be_drew {B : Nat} {w W : World} (h : Below B w W) : Below B w W.drew := h.drew
theorem be_set {w W : World} {g j : Nat} {v : Value} (h : Below w.heap.size w W) (hg : w.heap.size ≤ g) : Below w.heap.size w (W.setCell ⟨g, j, none⟩ v) := h.setCell hg _
end Go.Proofs.Ytoldjadadgokeaa.Bytes
