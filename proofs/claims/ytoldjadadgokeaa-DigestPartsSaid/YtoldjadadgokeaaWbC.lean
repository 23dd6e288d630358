/- withylaw13.DigestParts answers true. Condition: each string is shorter than 1.41 * 10^14 bytes. -/
import Derived.Test.YtoldjadadgokeaaWbA
import Derived.Deep.DrawnRows
import Derived.Deep.RegionHeld3
namespace Go.Proofs.Ytoldjadadgokeaa.Md
open Go.RowKit Go.Proofs.Ytoldjadadgokeaa.Bytes
attribute [local go_sem ↓] Go.wp_at_zero Go.wp_at_succ

set_option maxHeartbeats 2000000 in
set_option maxRecDepth 100000 in
theorem parts_pos (a b st sa d z : ByteArray) (cut : Int) (u κ : Nat) (w : World) (hp : 0 < (st.size : Int)) (hmx : (st.size : Int) ≤ 1000000000000000) (hu : IntKind.u64.wrap cut = (u : Int)) (he : IntKind.u64.wrap ((st.size : Int) + 1) = (st.size : Int) + 1)
    (hk2 : Int.tmod (u : Int) ((st.size : Int) + 1) = (κ : Int)) (hκ : (κ : Int) ≤ st.size)
    (c0 : ∀ W, (Op.stringOp .add a b).run Try.prog W = .ok (.string st) W) (c3 : ∀ W, (Op.stringOp .add (st.extract 0 κ) (st.extract κ st.size)).run Try.prog W = .ok (.string st) W)
    (c4 : ∀ W, (Op.stringOp .add ⟨#[65]⟩ st).run Try.prog W = .ok (.string sa) W)
    (o0 : ∀ w, OfS st d w) (o1 : ∀ w, OfS sa z w) (d0 : ∀ w, DcS 65 a b z w) (d1 : ∀ w, DcS 65 (st.extract 0 κ) (st.extract κ st.size) z w) :
    Calls Try.prog 14 #[.string a, .string b, .int .i64 cut] w fun e w' => e = .returned (.bool true) ∧ Below w.heap.size w w' := by
  have B0 := Below.refl w.heap.size w
  go_enter Try.func14, Try.ntmps14
  go_wp2_with fail
  refine (awake13_calls _).mono ?_
  rintro _ w0 ⟨rfl, hb⟩
  replace B0 := B0.trans (hb.mono B0.size)
  clear hb
  go_wp2_with fail
  have hκ0 : (0 : Int) ≤ (κ : Int) := by omega
  go_region_held3 (fun _ => True) (trivial) (first | (go_at_call 40; first | ((with_reducible refine (o0 _).use ?_); rintro e w' ⟨rfl, hb⟩; (first | replace B0 := B0.trans (hb.mono B0.size) | replace B0 := (be_drew B0).trans (hb.mono (be_drew B0).size)); clear hb) | ((with_reducible refine (o1 _).use ?_); rintro e w' ⟨rfl, hb⟩; (first | replace B0 := B0.trans (hb.mono B0.size) | replace B0 := (be_drew B0).trans (hb.mono (be_drew B0).size)); clear hb)) | (go_at_call 42; first | ((with_reducible refine (d0 _).use ?_); rintro e w' ⟨rfl, hb⟩; (first | replace B0 := B0.trans (hb.mono B0.size) | replace B0 := (be_drew B0).trans (hb.mono (be_drew B0).size)); clear hb) | ((with_reducible refine (d1 _).use ?_); rintro e w' ⟨rfl, hb⟩; (first | replace B0 := B0.trans (hb.mono B0.size) | replace B0 := (be_drew B0).trans (hb.mono (be_drew B0).size)); clear hb)) | (go_at_call 22; refine (Ch6.num_calls _ _).mono ?_; rintro _ _ ⟨rfl, rfl⟩))
  all_goals
    go_wp2
    go_ret
    first | exact ⟨rfl, B0⟩ | exact ⟨rfl, be_drew B0⟩
set_option maxHeartbeats 2000000 in
set_option maxRecDepth 100000 in
theorem parts_zero (d z : ByteArray) (cut : Int) (w : World) (c0 : ∀ W, (Op.stringOp .add ⟨#[]⟩ ⟨#[]⟩).run Try.prog W = .ok (.string ⟨#[]⟩) W) (c4 : ∀ W, (Op.stringOp .add ⟨#[65]⟩ ⟨#[]⟩).run Try.prog W = .ok (.string ⟨#[65]⟩) W)
    (o0 : ∀ w, OfS ⟨#[]⟩ d w) (o1 : ∀ w, OfS ⟨#[65]⟩ z w) (d0 : ∀ w, DcS 65 ⟨#[]⟩ ⟨#[]⟩ z w) :
    Calls Try.prog 14 #[.string ⟨#[]⟩, .string ⟨#[]⟩, .int .i64 cut] w fun e w' => e = .returned (.bool true) ∧ Below w.heap.size w w' := by
  have o0e : ∀ w, OfS ByteArray.empty d w := o0
  have d1 : ∀ w, DcS 65 ByteArray.empty ByteArray.empty z w := d0
  have d2 : ∀ w, DcS 65 ⟨#[]⟩ ByteArray.empty z w := d0
  have d3 : ∀ w, DcS 65 ByteArray.empty ⟨#[]⟩ z w := d0
  have B0 := Below.refl w.heap.size w
  go_enter Try.func14, Try.ntmps14
  go_wp2_with fail
  refine (awake13_calls _).mono ?_
  rintro _ w0 ⟨rfl, hb⟩
  replace B0 := B0.trans (hb.mono B0.size)
  clear hb
  go_wp2_with fail
  go_region_held3 (fun _ => True) (trivial) (first | (go_at_call 40; first | ((with_reducible refine (o0 _).use ?_); rintro e w' ⟨rfl, hb⟩; (first | replace B0 := B0.trans (hb.mono B0.size) | replace B0 := (be_drew B0).trans (hb.mono (be_drew B0).size)); clear hb) | ((with_reducible refine (o0e _).use ?_); rintro e w' ⟨rfl, hb⟩; (first | replace B0 := B0.trans (hb.mono B0.size) | replace B0 := (be_drew B0).trans (hb.mono (be_drew B0).size)); clear hb) | ((with_reducible refine (o1 _).use ?_); rintro e w' ⟨rfl, hb⟩; (first | replace B0 := B0.trans (hb.mono B0.size) | replace B0 := (be_drew B0).trans (hb.mono (be_drew B0).size)); clear hb)) | (go_at_call 42; first | ((with_reducible refine (d0 _).use ?_); rintro e w' ⟨rfl, hb⟩; (first | replace B0 := B0.trans (hb.mono B0.size) | replace B0 := (be_drew B0).trans (hb.mono (be_drew B0).size)); clear hb) | ((with_reducible refine (d1 _).use ?_); rintro e w' ⟨rfl, hb⟩; (first | replace B0 := B0.trans (hb.mono B0.size) | replace B0 := (be_drew B0).trans (hb.mono (be_drew B0).size)); clear hb) | ((with_reducible refine (d2 _).use ?_); rintro e w' ⟨rfl, hb⟩; (first | replace B0 := B0.trans (hb.mono B0.size) | replace B0 := (be_drew B0).trans (hb.mono (be_drew B0).size)); clear hb) | ((with_reducible refine (d3 _).use ?_); rintro e w' ⟨rfl, hb⟩; (first | replace B0 := B0.trans (hb.mono B0.size) | replace B0 := (be_drew B0).trans (hb.mono (be_drew B0).size)); clear hb)) | (go_at_call 22; refine (Ch6.num_calls _ _).mono ?_; rintro _ _ ⟨rfl, rfl⟩))
  all_goals
    go_wp2
    go_ret
    first | exact ⟨rfl, B0⟩ | exact ⟨rfl, be_drew B0⟩
theorem parts_calls (a b : ByteArray) (cut : Int) (w : World) (ha : a.size ≤ 140737488351232) (hb : b.size ≤ 140737488351232) :
    Calls Try.prog 14 #[.string a, .string b, .int .i64 cut] w fun e w' => e = .returned (.bool true) ∧ Below w.heap.size w w' := by
  obtain ⟨a, rfl⟩ := B_of a
  obtain ⟨b, rfl⟩ := B_of b
  rw [B_size] at ha hb
  have hst : (B (a ++ b)).size = a.length + b.length := by rw [B_size, List.length_append]
  have c0 := add_run a b (by omega)
  have c4 := add_run [65] (a ++ b) (by simp; omega)
  have o0 := of_any (a ++ b) (by rw [List.length_append]; omega)
  have o1 := of_any ([65] ++ (a ++ b)) (by simp; omega)
  have d0 := dchap_any 65 a b (by omega)
  have e65 : ∀ s c : List UInt8, chapIn 65 s c = [65] ++ (s ++ c) := fun _ _ => rfl
  rw [e65] at d0
  have key : ∀ κ : Nat, κ ≤ (B (a ++ b)).size → ∃ t1 t2 : List UInt8, (B (a ++ b)).extract 0 κ = B t1 ∧ (B (a ++ b)).extract κ (B (a ++ b)).size = B t2 ∧ t1 ++ t2 = a ++ b := by
    intro κ _
    refine ⟨(a ++ b).take κ, (a ++ b).drop κ, by rw [B_extract]; rfl, ?_, List.take_append_drop _ _⟩
    rw [B_extract, B_size, List.take_of_length_le (by rw [List.length_drop]; omega)]
  by_cases h0 : (B (a ++ b)).size = 0
  · obtain rfl : a = [] := List.eq_nil_of_length_eq_zero (by omega)
    obtain rfl : b = [] := List.eq_nil_of_length_eq_zero (by omega)
    exact parts_zero _ _ cut w c0 c4 o0 o1 d0
  · obtain ⟨u, hu⟩ : ∃ u : Nat, IntKind.u64.wrap cut = (u : Int) := by
      have h : IntKind.u64.wrap cut = cut % 18446744073709551616 := by simp [IntKind.wrap, IntKind.bits, IntKind.signed]
      exact ⟨(cut % 18446744073709551616).toNat, by rw [h]; omega⟩
    have hk : u % ((B (a ++ b)).size + 1) < (B (a ++ b)).size + 1 := Nat.mod_lt _ (by omega)
    have hk1 : (u : Int) % (((B (a ++ b)).size : Int) + 1) = ((u % ((B (a ++ b)).size + 1) : Nat) : Int) := by simp
    obtain ⟨κ, hκ⟩ : ∃ κ, κ = u % ((B (a ++ b)).size + 1) := ⟨_, rfl⟩
    rw [← hκ] at hk hk1
    obtain ⟨t1, t2, h1, h2, h3⟩ := key κ (by omega)
    have hl : t1.length + t2.length = a.length + b.length := by rw [← List.length_append, h3, List.length_append]
    refine parts_pos (B a) (B b) (B (a ++ b)) (B ([65] ++ (a ++ b))) _ _ cut u κ w (by omega) (by omega) hu (by simp [IntKind.wrap, IntKind.bits, IntKind.signed]; omega) (by rw [Int.tmod_eq_emod_of_nonneg (by omega)]; exact hk1) (by omega) c0 ?_ c4 o0 o1 d0 ?_
    · rw [h1, h2]; have := add_run t1 t2 (by omega); rw [h3] at this; exact this
    · rw [h1, h2]; have := dchap_any 65 t1 t2 (by omega); rw [e65, h3] at this; exact this
end Go.Proofs.Ytoldjadadgokeaa.Md
