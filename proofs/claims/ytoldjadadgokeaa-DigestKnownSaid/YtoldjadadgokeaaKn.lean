/- withylaw13.DigestKnown answers true: the five published digests. No condition. -/
import Derived.Test.YtoldjadadgokeaaOf
import Derived.Test.YtoldjadadgokeaaHx
namespace Go.Proofs.Ytoldjadadgokeaa.Md
open Go.RowKit Go.Proofs.Ytoldjadadgokeaa.Bytes

/-- A call of digest.Of answers this. -/
def OfS (s d : ByteArray) (w : World) : Prop := Calls Try.prog 40 #[.string s] w fun e w' => e = .returned (.string d) ∧ Below w.heap.size w w'
/-- A call of hex answers this. -/
def HexS (s d : ByteArray) (w : World) : Prop := Calls Try.prog 39 #[.string s] w fun e w' => e = .returned (.string d) ∧ Below w.heap.size w w'
theorem OfS.use {s d : ByteArray} {w : World} {Q : Ending → World → Prop} (h : OfS s d w) (k : ∀ e' w', (e' = .returned (.string d) ∧ Below w.heap.size w w') → Q e' w') : Calls Try.prog 40 #[.string s] w Q := Calls.mono h k
theorem HexS.use {s d : ByteArray} {w : World} {Q : Ending → World → Prop} (h : HexS s d w) (k : ∀ e' w', (e' = .returned (.string d) ∧ Below w.heap.size w w') → Q e' w') : Calls Try.prog 39 #[.string s] w Q := Calls.mono h k
theorem of_any (l : List UInt8) (hl : l.length < 300000000000000) (w : World) : OfS (B l) (B (md5 l)) w := of_calls _ l w rfl hl
theorem hex_any (l : List UInt8) (hl : l.length < 1000) (w : World) : HexS (B l) (B (hexOf l)) w := hex_calls _ l w rfl hl

theorem known0 : hexOf (md5 []) = [100, 52, 49, 100, 56, 99, 100, 57, 56, 102, 48, 48, 98, 50, 48, 52, 101, 57, 56, 48, 48, 57, 57, 56, 101, 99, 102, 56, 52, 50, 55, 101] := by decide +kernel
theorem known1 : hexOf (md5 [97]) = [48, 99, 99, 49, 55, 53, 98, 57, 99, 48, 102, 49, 98, 54, 97, 56, 51, 49, 99, 51, 57, 57, 101, 50, 54, 57, 55, 55, 50, 54, 54, 49] := by decide +kernel
theorem known2 : hexOf (md5 [109, 101, 115, 115, 97, 103, 101, 32, 100, 105, 103, 101, 115, 116]) = [102, 57, 54, 98, 54, 57, 55, 100, 55, 99, 98, 55, 57, 51, 56, 100, 53, 50, 53, 97, 50, 102, 51, 49, 97, 97, 102, 49, 54, 49, 100, 48] := by decide +kernel
theorem known3 : hexOf (md5 [97, 98, 99, 100, 101, 102, 103, 104, 105, 106, 107, 108, 109, 110, 111, 112, 113, 114, 115, 116, 117, 118, 119, 120, 121, 122]) = [99, 51, 102, 99, 100, 51, 100, 55, 54, 49, 57, 50, 101, 52, 48, 48, 55, 100, 102, 98, 52, 57, 54, 99, 99, 97, 54, 55, 101, 49, 51, 98] := by decide +kernel
theorem known4 : hexOf (md5 [49, 50, 51, 52, 53, 54, 55, 56, 57, 48, 49, 50, 51, 52, 53, 54, 55, 56, 57, 48, 49, 50, 51, 52, 53, 54, 55, 56, 57, 48, 49, 50, 51, 52, 53, 54, 55, 56, 57, 48, 49, 50, 51, 52, 53, 54, 55, 56, 57, 48, 49, 50, 51, 52, 53, 54, 55, 56, 57, 48, 49, 50, 51, 52, 53, 54, 55, 56, 57, 48, 49, 50, 51, 52, 53, 54, 55, 56, 57, 48]) = [53, 55, 101, 100, 102, 52, 97, 50, 50, 98, 101, 51, 99, 57, 53, 53, 97, 99, 52, 57, 100, 97, 50, 101, 50, 49, 48, 55, 98, 54, 55, 97] := by decide +kernel
set_option maxHeartbeats 1000000 in
set_option maxRecDepth 100000 in
theorem known_walk (d0 d1 d2 d3 d4 : ByteArray) (w : World)
    (o0 : ∀ w, OfS ⟨#[]⟩ d0 w) (x0 : ∀ w, HexS d0 ⟨#[100, 52, 49, 100, 56, 99, 100, 57, 56, 102, 48, 48, 98, 50, 48, 52, 101, 57, 56, 48, 48, 57, 57, 56, 101, 99, 102, 56, 52, 50, 55, 101]⟩ w)
    (o1 : ∀ w, OfS ⟨#[97]⟩ d1 w) (x1 : ∀ w, HexS d1 ⟨#[48, 99, 99, 49, 55, 53, 98, 57, 99, 48, 102, 49, 98, 54, 97, 56, 51, 49, 99, 51, 57, 57, 101, 50, 54, 57, 55, 55, 50, 54, 54, 49]⟩ w)
    (o2 : ∀ w, OfS ⟨#[109, 101, 115, 115, 97, 103, 101, 32, 100, 105, 103, 101, 115, 116]⟩ d2 w) (x2 : ∀ w, HexS d2 ⟨#[102, 57, 54, 98, 54, 57, 55, 100, 55, 99, 98, 55, 57, 51, 56, 100, 53, 50, 53, 97, 50, 102, 51, 49, 97, 97, 102, 49, 54, 49, 100, 48]⟩ w)
    (o3 : ∀ w, OfS ⟨#[97, 98, 99, 100, 101, 102, 103, 104, 105, 106, 107, 108, 109, 110, 111, 112, 113, 114, 115, 116, 117, 118, 119, 120, 121, 122]⟩ d3 w) (x3 : ∀ w, HexS d3 ⟨#[99, 51, 102, 99, 100, 51, 100, 55, 54, 49, 57, 50, 101, 52, 48, 48, 55, 100, 102, 98, 52, 57, 54, 99, 99, 97, 54, 55, 101, 49, 51, 98]⟩ w)
    (o4 : ∀ w, OfS ⟨#[49, 50, 51, 52, 53, 54, 55, 56, 57, 48, 49, 50, 51, 52, 53, 54, 55, 56, 57, 48, 49, 50, 51, 52, 53, 54, 55, 56, 57, 48, 49, 50, 51, 52, 53, 54, 55, 56, 57, 48, 49, 50, 51, 52, 53, 54, 55, 56, 57, 48, 49, 50, 51, 52, 53, 54, 55, 56, 57, 48, 49, 50, 51, 52, 53, 54, 55, 56, 57, 48, 49, 50, 51, 52, 53, 54, 55, 56, 57, 48]⟩ d4 w) (x4 : ∀ w, HexS d4 ⟨#[53, 55, 101, 100, 102, 52, 97, 50, 50, 98, 101, 51, 99, 57, 53, 53, 97, 99, 52, 57, 100, 97, 50, 101, 50, 49, 48, 55, 98, 54, 55, 97]⟩ w)
    : Calls Try.prog 10 #[] w fun e w' => e = .returned (.bool true) ∧ Below w.heap.size w w' := by
  go_enter Try.func10, Try.ntmps10
  have B0 := Below.refl w.heap.size w
  go_wp2_with fail
  refine (o0 _).use ?_
  rintro _ w0 ⟨rfl, hb⟩
  replace B0 := B0.trans (hb.mono B0.size)
  clear hb
  go_wp2_with fail
  refine (x0 _).use ?_
  rintro _ w1 ⟨rfl, hb⟩
  replace B0 := B0.trans (hb.mono B0.size)
  clear hb
  go_wp2_with fail
  refine (o1 _).use ?_
  rintro _ w2 ⟨rfl, hb⟩
  replace B0 := B0.trans (hb.mono B0.size)
  clear hb
  go_wp2_with fail
  refine (x1 _).use ?_
  rintro _ w3 ⟨rfl, hb⟩
  replace B0 := B0.trans (hb.mono B0.size)
  clear hb
  go_wp2_with fail
  refine (o2 _).use ?_
  rintro _ w4 ⟨rfl, hb⟩
  replace B0 := B0.trans (hb.mono B0.size)
  clear hb
  go_wp2_with fail
  refine (x2 _).use ?_
  rintro _ w5 ⟨rfl, hb⟩
  replace B0 := B0.trans (hb.mono B0.size)
  clear hb
  go_wp2_with fail
  refine (o3 _).use ?_
  rintro _ w6 ⟨rfl, hb⟩
  replace B0 := B0.trans (hb.mono B0.size)
  clear hb
  go_wp2_with fail
  refine (x3 _).use ?_
  rintro _ w7 ⟨rfl, hb⟩
  replace B0 := B0.trans (hb.mono B0.size)
  clear hb
  go_wp2_with fail
  refine (o4 _).use ?_
  rintro _ w8 ⟨rfl, hb⟩
  replace B0 := B0.trans (hb.mono B0.size)
  clear hb
  go_wp2_with fail
  refine (x4 _).use ?_
  rintro _ w9 ⟨rfl, hb⟩
  replace B0 := B0.trans (hb.mono B0.size)
  clear hb
  go_wp2
  go_ret
  exact ⟨rfl, B0⟩
theorem known_calls (w : World) : Calls Try.prog 10 #[] w fun e w' => e = .returned (.bool true) ∧ Below w.heap.size w w' := by
  refine known_walk (B (md5 [])) (B (md5 [97])) (B (md5 [109, 101, 115, 115, 97, 103, 101, 32, 100, 105, 103, 101, 115, 116])) (B (md5 [97, 98, 99, 100, 101, 102, 103, 104, 105, 106, 107, 108, 109, 110, 111, 112, 113, 114, 115, 116, 117, 118, 119, 120, 121, 122])) (B (md5 [49, 50, 51, 52, 53, 54, 55, 56, 57, 48, 49, 50, 51, 52, 53, 54, 55, 56, 57, 48, 49, 50, 51, 52, 53, 54, 55, 56, 57, 48, 49, 50, 51, 52, 53, 54, 55, 56, 57, 48, 49, 50, 51, 52, 53, 54, 55, 56, 57, 48, 49, 50, 51, 52, 53, 54, 55, 56, 57, 48, 49, 50, 51, 52, 53, 54, 55, 56, 57, 48, 49, 50, 51, 52, 53, 54, 55, 56, 57, 48])) w ?_ ?_ ?_ ?_ ?_ ?_ ?_ ?_ ?_ ?_
  · exact of_any [] (by decide)
  · intro w; have := hex_any (md5 []) (by rw [md5_length]; decide) w; rw [known0] at this; exact this
  · exact of_any [97] (by decide)
  · intro w; have := hex_any (md5 [97]) (by rw [md5_length]; decide) w; rw [known1] at this; exact this
  · exact of_any [109, 101, 115, 115, 97, 103, 101, 32, 100, 105, 103, 101, 115, 116] (by decide)
  · intro w; have := hex_any (md5 [109, 101, 115, 115, 97, 103, 101, 32, 100, 105, 103, 101, 115, 116]) (by rw [md5_length]; decide) w; rw [known2] at this; exact this
  · exact of_any [97, 98, 99, 100, 101, 102, 103, 104, 105, 106, 107, 108, 109, 110, 111, 112, 113, 114, 115, 116, 117, 118, 119, 120, 121, 122] (by decide)
  · intro w; have := hex_any (md5 [97, 98, 99, 100, 101, 102, 103, 104, 105, 106, 107, 108, 109, 110, 111, 112, 113, 114, 115, 116, 117, 118, 119, 120, 121, 122]) (by rw [md5_length]; decide) w; rw [known3] at this; exact this
  · exact of_any [49, 50, 51, 52, 53, 54, 55, 56, 57, 48, 49, 50, 51, 52, 53, 54, 55, 56, 57, 48, 49, 50, 51, 52, 53, 54, 55, 56, 57, 48, 49, 50, 51, 52, 53, 54, 55, 56, 57, 48, 49, 50, 51, 52, 53, 54, 55, 56, 57, 48, 49, 50, 51, 52, 53, 54, 55, 56, 57, 48, 49, 50, 51, 52, 53, 54, 55, 56, 57, 48, 49, 50, 51, 52, 53, 54, 55, 56, 57, 48] (by decide)
  · intro w; have := hex_any (md5 [49, 50, 51, 52, 53, 54, 55, 56, 57, 48, 49, 50, 51, 52, 53, 54, 55, 56, 57, 48, 49, 50, 51, 52, 53, 54, 55, 56, 57, 48, 49, 50, 51, 52, 53, 54, 55, 56, 57, 48, 49, 50, 51, 52, 53, 54, 55, 56, 57, 48, 49, 50, 51, 52, 53, 54, 55, 56, 57, 48, 49, 50, 51, 52, 53, 54, 55, 56, 57, 48, 49, 50, 51, 52, 53, 54, 55, 56, 57, 48]) (by rw [md5_length]; decide) w; rw [known4] at this; exact this
end Go.Proofs.Ytoldjadadgokeaa.Md
