/- How an act, an argument's element, lies in memory. No condition. -/
import Derived.Test.YtoldjadadgokeaaProg
import Derived.WalkKit
import Derived.ProofKit
import Derived.OpenShut
import Derived.Deep.Slices
import Derived.Deep.Fields
import Derived.ChangeSame
namespace Go.Proofs.Ytoldjadadgokeaa.Acts
open Go.ChangeShapes Go.WideShapes Go.Deep
theorem cells47 : Try.prog.cellsOf 47 = 7 := by kernel_rfl
theorem cells23 : Try.prog.cellsOf 23 = 4 := by kernel_rfl
theorem cells3 : Try.prog.cellsOf 3 = 1 := by kernel_rfl
theorem cells4 : Try.prog.cellsOf 4 = 1 := by kernel_rfl
theorem cells9 : Try.prog.cellsOf 9 = 1 := by kernel_rfl
section
variable {H : Type} {enc : TypeId × Value → H} {w : World} {base : Nat} {spare : Nat → Bool} {held : Bool}
set_option maxRecDepth 100000 in
theorem chap_cells {fuel : Nat} {cs : List Value} {x : DataW H × List MemPlace} (h : DataW.trod enc Try.prog w base spare held fuel 23 cs = some x) :
    ∃ (c id : Int) (v n : ByteArray), cs = [.int .i64 c, .int .i64 id, .string v, .string n] := by
  obtain ⟨xs, n, _, _, hlen, hxl, hf⟩ := DataW.trod_struct Try.underlying23 h
  rw [cells23] at hlen
  match cs, hlen with
  | [c0, c1, c2, c3], _ =>
    match xs, hxl with
    | [y0, y1, y2, y3], _ =>
      have f0 : DataW.trod enc Try.prog w base spare held n 3 [c0] = some y0 := by
        have h := hf 0 { name := "Code", type := 3, offset := 0, embedded := false, tag := "", pkgPath := "", byteOffset := 0 } rfl
        rw [cells3] at h
        exact h
      have f1 : DataW.trod enc Try.prog w base spare held n 3 [c1] = some y1 := by
        have h := hf 1 { name := "Id", type := 3, offset := 1, embedded := false, tag := "", pkgPath := "", byteOffset := 8 } rfl
        rw [cells3] at h
        exact h
      have f2 : DataW.trod enc Try.prog w base spare held n 9 [c2] = some y2 := by
        have h := hf 2 { name := "Value", type := 9, offset := 2, embedded := false, tag := "", pkgPath := "", byteOffset := 16 } rfl
        rw [cells9] at h
        exact h
      have f3 : DataW.trod enc Try.prog w base spare held n 9 [c3] = some y3 := by
        have h := hf 3 { name := "Name", type := 9, offset := 3, embedded := false, tag := "", pkgPath := "", byteOffset := 32 } rfl
        rw [cells9] at h
        exact h
      obtain ⟨a0, e0, _, _⟩ := DataW.trod_int Try.underlying3 f0
      obtain ⟨a1, e1, _, _⟩ := DataW.trod_int Try.underlying3 f1
      obtain ⟨a2, e2, _, _⟩ := DataW.trod_string Try.underlying9 f2
      obtain ⟨a3, e3, _, _⟩ := DataW.trod_string Try.underlying9 f3
      simp only [List.cons.injEq, and_true] at e0 e1 e2 e3
      subst e0 e1 e2 e3
      exact ⟨a0, a1, a2, a3, rfl⟩
set_option maxRecDepth 100000 in
theorem act_cells {fuel : Nat} {cs : List Value} {x : DataW H × List MemPlace} (h : DataW.trod enc Try.prog w base spare held fuel 47 cs = some x) :
    ∃ (k : Int) (s : ByteArray) (c id : Int) (v n : ByteArray) (r : Bool), cs = [.int .i64 k, .string s, .int .i64 c, .int .i64 id, .string v, .string n, .bool r] := by
  obtain ⟨xs, n, _, _, hlen, hxl, hf⟩ := DataW.trod_struct Try.underlying47 h
  rw [cells47] at hlen
  match cs, hlen with
  | [c0, c1, c2, c3, c4, c5, c6], _ =>
    match xs, hxl with
    | [y0, y1, y2, y3], _ =>
      have f0 : DataW.trod enc Try.prog w base spare held n 3 [c0] = some y0 := by
        have h := hf 0 { name := "Kind", type := 3, offset := 0, embedded := false, tag := "", pkgPath := "", byteOffset := 0 } rfl
        rw [cells3] at h
        exact h
      have f1 : DataW.trod enc Try.prog w base spare held n 9 [c1] = some y1 := by
        have h := hf 1 { name := "S", type := 9, offset := 1, embedded := false, tag := "", pkgPath := "", byteOffset := 8 } rfl
        rw [cells9] at h
        exact h
      have f2 : DataW.trod enc Try.prog w base spare held n 23 [c2, c3, c4, c5] = some y2 := by
        have h := hf 2 { name := "Chap", type := 23, offset := 2, embedded := false, tag := "", pkgPath := "", byteOffset := 24 } rfl
        rw [cells23] at h
        exact h
      have f3 : DataW.trod enc Try.prog w base spare held n 4 [c6] = some y3 := by
        have h := hf 3 { name := "Right", type := 4, offset := 6, embedded := false, tag := "", pkgPath := "", byteOffset := 72 } rfl
        rw [cells4] at h
        exact h
      obtain ⟨a0, e0, _, _⟩ := DataW.trod_int Try.underlying3 f0
      obtain ⟨a1, e1, _, _⟩ := DataW.trod_string Try.underlying9 f1
      obtain ⟨b0, b1, b2, b3, e2⟩ := chap_cells f2
      obtain ⟨a3, e3, _⟩ := DataW.trod_bool Try.underlying4 f3
      simp only [List.cons.injEq, and_true] at e0 e1 e2 e3
      obtain ⟨e20, e21, e22, e23⟩ := e2
      subst e0 e1 e3 e20 e21 e22 e23
      exact ⟨a0, a1, b0, b1, b2, b3, a3, rfl⟩
set_option maxRecDepth 100000 in
theorem acts_cells {fuel : Nat} {cs : List Value} {A : Option Addr} {L cap : Nat} {x : DataW H × List MemPlace} (hs : ∀ b, spare b = true) (hcs : cs = [.slice A L cap]) (h : DataW.trod enc Try.prog w base spare held fuel 39 cs = some x) :
    ∀ i, i < L → ∃ (b o : Nat) (k : Int) (s : ByteArray) (c id : Int) (v n : ByteArray) (r : Bool), A = some ⟨b, o, none⟩ ∧
      w.cell? ⟨b, o + i * 7, none⟩ = some (.int .i64 k) ∧ w.cell? ⟨b, o + i * 7 + 1, none⟩ = some (.string s) ∧ w.cell? ⟨b, o + i * 7 + 2, none⟩ = some (.int .i64 c) ∧ w.cell? ⟨b, o + i * 7 + 3, none⟩ = some (.int .i64 id) ∧
      w.cell? ⟨b, o + i * 7 + 4, none⟩ = some (.string v) ∧ w.cell? ⟨b, o + i * 7 + 5, none⟩ = some (.string n) ∧ w.cell? ⟨b, o + i * 7 + 6, none⟩ = some (.bool r) := by
  intro i hi
  subst hcs
  rcases open_slice Try.underlying39 h with ⟨hcs, _⟩ | ⟨a, len, cap', m, n, D, Pl, hcs, _, hl, _, hm, _, hx⟩
  · simp at hcs; omega
  · simp only [List.cons.injEq, and_true, Value.slice.injEq] at hcs
    obtain ⟨rfl, rfl, rfl⟩ := hcs
    rw [hs, if_pos rfl] at hm
    obtain ⟨cs', h1, h2⟩ := hx i (by omega)
    rw [cells47] at h1
    obtain ⟨_, _, hat⟩ := World.cells?_some h1
    obtain ⟨k, s, c, id, v, n', r, rfl⟩ := act_cells h2
    obtain ⟨b, o, spot⟩ := a
    have hspot : spot = none := by
      obtain ⟨cs0, g1, g2⟩ := hx 0 (by omega)
      rw [cells47] at g1
      obtain ⟨_, _, gat⟩ := World.cells?_some g1
      obtain ⟨k, s, c, id, v, n', r, rfl⟩ := act_cells g2
      have g0 := gat 0 (by omega)
      have hz := World.cell?_spot (g0.trans rfl)
      simpa [Addr.add] using hz
    subst hspot
    have ha : ∀ j, ((⟨b, o, none⟩ : Addr).add (i * 7)).add j = ⟨b, o + i * 7 + j, none⟩ := by
      intro j
      simp only [Addr.add_lit]
    refine ⟨b, o, k, s, c, id, v, n', r, rfl, ?_, ?_, ?_, ?_, ?_, ?_, ?_⟩
    · have := hat 0 (by omega); rw [ha] at this; exact this
    · have := hat 1 (by omega); rw [ha] at this; exact this
    · have := hat 2 (by omega); rw [ha] at this; exact this
    · have := hat 3 (by omega); rw [ha] at this; exact this
    · have := hat 4 (by omega); rw [ha] at this; exact this
    · have := hat 5 (by omega); rw [ha] at this; exact this
    · have := hat 6 (by omega); rw [ha] at this; exact this
end
end Go.Proofs.Ytoldjadadgokeaa.Acts
