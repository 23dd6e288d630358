/- The given statement ProofActsSaid: withy's law ProofActs answers true at every input, and leaves its arguments as they were. No condition beyond the row's own. -/
import Derived.Test.YtoldjadadgokeaaRows
import Derived.Test.YtoldjadadgokeaaWcE
import Derived.Test.YtoldjadadgokeaaAc
import Derived.WalkKit
import Derived.ProofKit
import Derived.OpenShut
import Derived.ShutString
import Derived.Carry
import Derived.ChangeOld
import Derived.Below
import Derived.SizedLaws
import Derived.Lib.SmallJoins
namespace Go.Proofs.Ytoldjadadgokeaa.proofActs
open Go.ChangeShapes Go.WideShapes Go.ChangeAt Go.RowKit Go.Joins
open Go.ChangeMaps (open_string shut_string)
theorem own : ownKnob Try.prog.godebug = none := by kernel_rfl
theorem laidOut : laidOutB Try.prog = true := by kernel_rfl
set_option maxRecDepth 100000 in
theorem lifted (os : Os) (started : os.Started) (H : Type) (enc : TypeId × Value → H) :
    ReturnsInHanded {} Try.checked os 6 .any (Rows.proofActsSpec.pre6 enc Try.prog Try.f6 Rows.proofActsRow.domain false) (Rows.proofActsSpec.post enc Try.prog Try.f6 false true false false) := by
  refine returnsInHanded_of_change (C := Try.checked) own started (by kernel_rfl) Try.func6
    (ChangeSpec.witness6 (enc := enc) (C := Try.checked) false ⟨#[], #[.string ByteArray.empty, .string ByteArray.empty, .string ByteArray.empty, .int .i64 0, .slice none 0 0], []⟩ 8 (by kernel_rfl) (by kernel_rfl) (by kernel_rfl) (by kernel_rfl)) ?_
  intro W base args ds gs before hval0 hW _ _
  have hval : ∀ (j : Nat) t v, Try.f6.params[j]? = some t → args[j]? = some v → Value.okWide Try.prog W .any base t v := hval0
  have hW' := hW
  obtain ⟨p, q, hA0, hV, rfl, _, _⟩ := hW
  have hA : DataW.TrodAll enc Try.prog W 0 (fun _ => true) true Try.f6.params.toList args.toList ds p := hA0
  rw [Try.params6] at hA hval
  obtain ⟨v0, vs0, d0, ds0, p0, q0, hargs, rfl, rfl, h0, r0⟩ := trodAll_cons hA
  obtain ⟨v1, vs1, d1, ds1, p1, q1, rfl, rfl, rfl, h1, r1⟩ := trodAll_cons r0
  obtain ⟨v2, vs2, d2, ds2, p2, q2, rfl, rfl, rfl, h2, r2⟩ := trodAll_cons r1
  obtain ⟨v3, vs3, d3, ds3, p3, q3, rfl, rfl, rfl, h3, r3⟩ := trodAll_cons r2
  obtain ⟨v4, vs4, d4, ds4, p4, q4, rfl, rfl, rfl, h4, r4⟩ := trodAll_cons r3
  obtain ⟨rfl, rfl, rfl⟩ := trodAll_nil r4
  obtain rfl : args = #[v0, v1, v2, v3, v4] := by cases args; simp_all
  obtain ⟨rfl, rfl⟩ := trodVars_none hV
  obtain ⟨a0, rfl, rfl, rfl, y0⟩ := open_string Try.underlying9 (hval 0 9 v0 rfl rfl) h0
  obtain ⟨a1, rfl, rfl, rfl, y1⟩ := open_string Try.underlying9 (hval 1 9 v1 rfl rfl) h1
  obtain ⟨a2, rfl, rfl, rfl, y2⟩ := open_string Try.underlying9 (hval 2 9 v2 rfl rfl) h2
  obtain ⟨a3, rfl, rfl, rfl, w3⟩ := open_int Try.underlying3 (hval 3 3 v3 rfl rfl) h3
  obtain ⟨A, L, cap, rfl⟩ := okWide_slice Try.underlying39 (hval 4 39 v4 rfl rfl)
  have h4k := h4
  obtain ⟨fuel, hf⟩ := h4
  clear hA0 hval0
  simp only [List.append_nil, List.nil_append] at hW'
  have hlt : ∀ x ∈ p4, x.block < W.heap.size := fun x hx => by simpa using hW'.lt x hx
  have hcells : ∀ i, i < L → ∃ (x : Ch16.ActV) (b o : Nat), A = some ⟨b, o, none⟩ ∧ Ch16.ActAt W b (o + i * 7) x := by
    intro i hi
    obtain ⟨b, o, k, s, c, id, v, n, r, hA, c0, c1, c2, c3, c4, c5, c6⟩ := Acts.acts_cells (A := A) (L := L) (cap := cap) (fun _ => rfl) (by simp [Value.cells]) hf i hi
    exact ⟨⟨k, s, c, id, v, n, r⟩, b, o, hA, ⟨c0, c1, c2, c3, c4, c5, c6⟩⟩
  obtain ⟨acts, hacts⟩ : ∃ acts : Nat → Ch16.ActV, ∀ i, i < L → ∃ b o, A = some ⟨b, o, none⟩ ∧ Ch16.ActAt W b (o + i * 7) (acts i) :=
    ⟨fun i => if h : i < L then (hcells i h).choose else ⟨0, ⟨#[]⟩, 0, 0, ⟨#[]⟩, ⟨#[]⟩, false⟩, fun i hi => by simp only [hi, dif_pos]; exact (hcells i hi).choose_spec⟩
  refine (Ch16.acts_calls a0 a1 a2 a3 A L cap acts W hacts).mono fun e W' ⟨he, bel⟩ => ?_
  subst he
  exact ⟨_, rfl, _, _, _, [], _, [], hW', trodAll_mk1 (shut_bool Try.underlying4 _), (trodAll_cons_mk (shut_string Try.underlying9 y0) (trodAll_cons_mk (shut_string Try.underlying9 y1) (trodAll_cons_mk (shut_string Try.underlying9 y2) (trodAll_cons_mk (shut_int Try.underlying3 w3) (trodAll_mk1 (Below.trod laidOut (by kernel_rfl) (of_decide_eq_true (by kernel_rfl)) h4k bel hlt)))))), rfl, bel.frame _, fun h => by cases h⟩
theorem over : Rows.proofActsRow.holds Try.pinned (OpenSpec.ofChange Rows.proofActsSpec) :=
  OpenClaim.holds_of_wide 6 Try.f6 rfl rfl rfl rfl rfl rfl rfl ⟨rfl, rfl, rfl, rfl, rfl⟩ rfl rfl rfl rfl rfl (by kernel_rfl) Try.func6 (by kernel_rfl)
    (of_decide_eq_true (by kernel_rfl)) (by unfold Func.isWrapper; first | (rw [if_pos (by decide +kernel)]; kernel_rfl) | (rw [if_neg (by decide +kernel)]; exact ⟨rfl, rfl⟩))
    (fun os started H enc _ => lifted os started H enc)
theorem proved : Rows.ProofActsSaid := over
#print axioms proved
end Go.Proofs.Ytoldjadadgokeaa.proofActs
namespace Go.Proofs.Ytoldjadadgokeaa
/-- The row, under a short name, for the claim. -/
theorem proofActs_holds : Rows.ProofActsSaid := proofActs.proved
end Go.Proofs.Ytoldjadadgokeaa
