/- withylaw16.ProofForms answers true. No condition. -/
import Derived.Test.YtoldjadadgokeaaSa
import Derived.Test.YtoldjadadgokeaaZe
import Derived.Deep.DeepCutAuto
import Derived.Deep.CutBlock
namespace Go.Proofs.Ytoldjadadgokeaa.Ch16
open Go.RowKit Go.Proofs.Ytoldjadadgokeaa.Bytes Go.Proofs.Ytoldjadadgokeaa.Md Go.Proofs.Ytoldjadadgokeaa.Ch6
attribute [local go_sem ↓] Go.wp_at_zero Go.wp_at_succ

/-- A condition that says more serves too. -/
theorem wpAnyH_mono {P : Program} {md : Region.Mode} {ops : Array Oper} {Q : Exit → Act → World → Prop} {S1 S2 : World → Prop} (hS : ∀ w, S2 w → S1 w) :
    ∀ {fuel : Nat} {listed : Array Bool} {a : Act} {w : World}, wpAnyH P md ops Q S2 fuel listed a w → wpAnyH P md ops Q S1 fuel listed a w
  | 0, _, _, _, h => h
  | _ + 1, _, _, _, h => ⟨h.1, fun i hi => wpOp_mono (fun _ _ h' => ⟨hS _ h'.1, wpAnyH_mono hS h'.2⟩) (h.2 i hi)⟩
/-- k zeros as cells. -/
abbrev zO (k : Nat) : Obj := .cells (Ch6.zc k) 5 (0, 0)
/-- Made into a string, k zeros are z. -/
structure ZS (k : Nat) (z : ByteArray) : Prop where
  mk0 : ∀ w, (Instr.makeSlice 37 (.int .i64 (k : Int)) (.int .i64 (k : Int))).run Try.prog w = .ok (.slice (some ⟨w.heap.size, 0, none⟩) k k) (w.alloc (zO k))
  cv : ∀ (V : World) b, Blk V b (zO k) → (convert 37 9 (.slice (some ⟨b, 0, none⟩) k k)).run Try.prog V = .ok (.string z) V
  size : z.size = k
theorem Blk_new3 (w : World) (o o' p : Obj) : Blk (((w.alloc o).alloc o').alloc p) (w.heap.size + 1 + 1) p := by
  have := Blk_new2 (w.alloc o) o' p
  rwa [show (w.alloc o).heap.size = w.heap.size + 1 by simp] at this
theorem start_bad (s : Pst) (c : ByteArray) (h : c.size < 1 ∨ 255 < c.size) : startF s c = (s, zeroC, 1600) := by unfold startF; rw [if_pos h]
theorem take_nine (s : Pst) : takeF s ⟨9, 0, ⟨#[]⟩, ⟨#[]⟩⟩ = (s, none, 1600) := by
  unfold takeF
  rw [if_pos (by decide)]
/-- What New has given. -/
def FormR (w : World) (za zb zx : ByteArray) (t : Int) (pv : Value) (er : Int) (wx : World) : Prop :=
  Below w.heap.size w wx ∧ ((¬ mayNew za zb zx t ∧ pv = .pointer none ∧ er = 1600) ∨ (mayNew za zb zx t ∧ er = 0 ∧ ∃ g, w.heap.size ≤ g ∧ pv = .pointer (some ⟨g, 0, none⟩) ∧ PS wx g (newF za zb zx t)))
theorem form_new (w : World) (za zb zx : ByteArray) (t : Int) (W : World) (hB : Below w.heap.size w W) :
    Calls Try.prog 24 #[.string za, .string zb, .string zx, .int .i64 t] W fun e w' => ∃ pv er, e = .returned (.tuple #[pv, .int .i64 er]) ∧ FormR w za zb zx t pv er w' ∧ Below W.heap.size W w' := by
  by_cases h : mayNew za zb zx t
  · exact (new_any h W).mono fun e w' ⟨he, hp, hb⟩ => ⟨_, _, he, ⟨hB.trans (hb.mono hB.size), Or.inr ⟨h, rfl, _, hB.size, rfl, hp⟩⟩, hb⟩
  · refine Calls.mono (new_no za zb zx t W h) ?_
    rintro e w' ⟨he, rfl⟩
    exact ⟨_, _, he, ⟨hB, Or.inl ⟨h, rfl, rfl⟩⟩, Below.refl _ _⟩

set_option maxHeartbeats 16000000 in
set_option maxRecDepth 100000 in
theorem forms_walk (a b c t d : Int) (k0 k1 k2 k3 : Nat) (za zb zx zd : ByteArray) (w : World) (h0 : Go.bits .and .i64 a 63 = (k0 : Int)) (h1 : Go.bits .and .i64 b 127 = (k1 : Int)) (h2 : Go.bits .and .i64 c 127 = (k2 : Int)) (h3 : Go.bits .and .i64 d 511 = (k3 : Int))
    (Z0 : ZS k0 za) (Z1 : ZS k1 zb) (Z2 : ZS k2 zx) (Z3 : ZS k3 zd) : Calls Try.prog 17 #[.int .i64 a, .int .i64 b, .int .i64 c, .int .i64 t, .int .i64 d] w fun e w' => e = .returned (.bool true) ∧ Below w.heap.size w w' := by
  go_enter Try.func17, Try.ntmps17
  go_wp2_with fail
  refine (awake16_calls _).mono ?_
  rintro _ w1 ⟨rfl, B1⟩
  go_upto_region 4 with (fail)
  go_cut [15, 16] (fun p e wx => ∃ pv er, p = pv ∧ e = .int .i64 er ∧ FormR w za zb zx t pv er wx)
  case first =>
    have m0 := Z0.mk0
    have m1 := Z1.mk0
    have m2 := Z2.mk0
    clear h0 h1 h2 h3
    refine wp_region_noPanic ?_
    refine wp_region_held_drew (S := fun _ => True) (by kernel_rfl) trivial (fun hHeld => ?_)
    refine wpAnyH_take (i := 0) (v := ?_) rfl (by kernel_rfl) (by kernel_rfl) (by kernel_rfl) (fun _ _ _ h => h) (Or.inl ⟨by rfl, ?_⟩) (by assumption) ?_
    rotate_left
    · intro W hSw
      go_simp
      first | done | (with_reducible rfl)
    rotate_left
    try simp only [Act.put]
    refine wpAnyH_take (i := 3) (v := ?_) rfl (by kernel_rfl) (by kernel_rfl) (by kernel_rfl) (fun _ _ _ h => h) (Or.inl ⟨by rfl, ?_⟩) (by assumption) ?_
    rotate_left
    · intro W hSw
      go_simp
      first | done | (with_reducible rfl)
    rotate_left
    try simp only [Act.put]
    refine wpAnyH_take (i := 6) (v := ?_) rfl (by kernel_rfl) (by kernel_rfl) (by kernel_rfl) (fun _ _ _ h => h) (Or.inl ⟨by rfl, ?_⟩) (by assumption) ?_
    rotate_left
    · intro W hSw
      go_simp
      first | done | (with_reducible rfl)
    rotate_left
    try simp only [Act.put]
    refine wpAnyH_take (i := 9) (v := ?_) rfl (by kernel_rfl) (by kernel_rfl) (by kernel_rfl) (fun _ _ _ h => h) (Or.inl ⟨by rfl, ?_⟩) (by assumption) ?_
    rotate_left
    · intro W hSw
      go_simp
      first | done | (with_reducible rfl)
    rotate_left
    try simp only [Act.put]
    refine wpAnyH_ready (rs := [1, 4, 7]) (by kernel_rfl) (by simp) ?_
    refine AllReadyH.cons rfl (fun K hK => ?_) ?_
    · go_simp
      refine hK.out _ _ trivial (fun _ => ?_)
      clear hK K hHeld
      try simp only [Act.put]
      have hHeld : (fun W : World => Blk W (w1.heap.size) (zO k0)) (w1.alloc (zO k0)).drew := (Blk.new w1 _).drew
      refine wpAnyH_mono (S2 := fun W : World => Blk W (w1.heap.size) (zO k0)) (fun _ h => trivial) ?_
      refine wpAnyH_take (i := 2) (v := ?_) rfl (by kernel_rfl) (by kernel_rfl) (by kernel_rfl) (fun _ _ _ h => h) (Or.inl ⟨by rfl, ?_⟩) (by assumption) ?_
      rotate_left
      · intro W hSw
        have u := Z0.cv W _ hSw
        go_simp
        first | done | (with_reducible rfl)
      rotate_left
      try simp only [Act.put]
      refine wpAnyH_ready (rs := [4, 7]) (by kernel_rfl) (by simp) ?_
      refine AllReadyH.cons rfl (fun K hK => ?_) ?_
      · go_simp
        refine hK.out _ _ ((Blk.new w1 _).alloc _).drew (fun _ => ?_)
        clear hK K hHeld
        try simp only [Act.put]
        have hHeld : (fun W : World => Blk W (w1.heap.size) (zO k0) ∧ Blk W (w1.heap.size + 1) (zO k1)) ((w1.alloc (zO k0)).alloc (zO k1)).drew := ⟨((Blk.new w1 _).alloc _).drew, (Blk_new2 w1 _ _).drew⟩
        refine wpAnyH_mono (S2 := fun W : World => Blk W (w1.heap.size) (zO k0) ∧ Blk W (w1.heap.size + 1) (zO k1)) (fun _ h => h.1) ?_
        refine wpAnyH_take (i := 5) (v := ?_) rfl (by kernel_rfl) (by kernel_rfl) (by kernel_rfl) (fun _ _ _ h => h) (Or.inl ⟨by rfl, ?_⟩) (by assumption) ?_
        rotate_left
        · intro W hSw
          have u := Z1.cv W _ hSw.2
          go_simp
          first | done | (with_reducible rfl)
        rotate_left
        try simp only [Act.put]
        refine wpAnyH_ready (rs := [7]) (by kernel_rfl) (by simp) ?_
        refine AllReadyH.cons rfl (fun K hK => ?_) ?_
        · go_simp
          refine hK.out _ _ ⟨(((Blk.new w1 _).alloc _).alloc _).drew, ((Blk_new2 w1 _ _).alloc _).drew⟩ (fun _ => ?_)
          clear hK K hHeld
          try simp only [Act.put]
          have hHeld : (fun W : World => Blk W (w1.heap.size) (zO k0) ∧ Blk W (w1.heap.size + 1) (zO k1) ∧ Blk W (w1.heap.size + 1 + 1) (zO k2)) (((w1.alloc (zO k0)).alloc (zO k1)).alloc (zO k2)).drew := ⟨(((Blk.new w1 _).alloc _).alloc _).drew, ((Blk_new2 w1 _ _).alloc _).drew, (Blk_new3 w1 _ _ _).drew⟩
          refine wpAnyH_mono (S2 := fun W : World => Blk W (w1.heap.size) (zO k0) ∧ Blk W (w1.heap.size + 1) (zO k1) ∧ Blk W (w1.heap.size + 1 + 1) (zO k2)) (fun _ h => ⟨h.1, h.2.1⟩) ?_
          refine wpAnyH_take (i := 8) (v := ?_) rfl (by kernel_rfl) (by kernel_rfl) (by kernel_rfl) (fun _ _ _ h => h) (Or.inl ⟨by rfl, ?_⟩) (by assumption) ?_
          rotate_left
          · intro W hSw
            have u := Z2.cv W _ hSw.2.2
            go_simp
            first | done | (with_reducible rfl)
          rotate_left
          try simp only [Act.put]
          refine wpAnyH_ready (rs := [10]) (by kernel_rfl) (by simp) ?_
          refine AllReadyH.cons rfl (fun K hK => ?_) ?_
          · go_simp
            refine (form_new w za zb zx t (((w1.alloc (zO k0)).alloc (zO k1)).alloc (zO k2)).drew (be_drew (be_alloc (be_alloc (be_alloc B1 _) _) _))).mono ?_
            rintro _ w2 ⟨pv, er, rfl, hR, hb2⟩
            have hHeld2 : (fun W : World => Blk W (w1.heap.size) (zO k0) ∧ Blk W (w1.heap.size + 1) (zO k1) ∧ Blk W (w1.heap.size + 1 + 1) (zO k2)) w2 := ⟨hHeld.1.below hb2, hHeld.2.1.below hb2, hHeld.2.2.below hb2⟩
            refine hK.out _ _ hHeld2 (fun _ => ?_)
            clear hK K hHeld hb2
            try simp only [Act.put]
            refine wpAnyH_take (i := 11) (v := ?_) rfl (by kernel_rfl) (by kernel_rfl) (by kernel_rfl) (fun _ _ _ h => h) (Or.inl ⟨by rfl, ?_⟩) (by assumption) ?_
            rotate_left
            · intro W hSw
              go_simp
              first | done | (with_reducible rfl)
            rotate_left
            try simp only [Act.put]
            refine wpAnyH_take (i := 12) (v := ?_) rfl (by kernel_rfl) (by kernel_rfl) (by kernel_rfl) (fun _ _ _ h => h) (Or.inl ⟨by rfl, ?_⟩) (by assumption) ?_
            rotate_left
            · intro W hSw
              go_simp
              first | done | (with_reducible rfl)
            rotate_left
            try simp only [Act.put]
            refine wpAnyH_take (i := 13) (v := ?_) rfl (by kernel_rfl) (by kernel_rfl) (by kernel_rfl) (fun _ _ _ h => h) (Or.inl ⟨by rfl, ?_⟩) (by assumption) ?_
            rotate_left
            · intro W hSw
              go_simp
              first | done | (with_reducible rfl)
            rotate_left
            try simp only [Act.put]
            refine wpAnyH_take (i := 14) (v := ?_) rfl (by kernel_rfl) (by kernel_rfl) (by kernel_rfl) (fun _ _ _ h => h) (Or.inl ⟨by rfl, ?_⟩) (by assumption) ?_
            rotate_left
            · intro W hSw
              go_simp
              first | done | (with_reducible rfl)
            rotate_left
            try simp only [Act.put]
            refine wpAnyH_take (i := 15) (v := ?_) rfl (by kernel_rfl) (by kernel_rfl) (by kernel_rfl) (fun _ _ _ h => h) (Or.inl ⟨by rfl, ?_⟩) (by assumption) ?_
            rotate_left
            · intro W hSw
              go_simp
              first | done | (with_reducible rfl)
            rotate_left
            try simp only [Act.put]
            refine wpAnyH_done (by kernel_rfl) ?_ _
            refine NoPanic.normal ?_
            go_wp2_with fail
            go_meet
            case rel => exact ⟨pv, er, rfl, rfl, hR⟩
          exact AllReadyH.nil
        exact AllReadyH.nil
      refine AllReadyH.cons rfl (fun K hK => ?_) ?_
      · go_simp
        refine hK.out _ _ ((Blk.new w1 _).alloc _).drew (fun _ => ?_)
        clear hK K hHeld
        try simp only [Act.put]
        have hHeld : (fun W : World => Blk W (w1.heap.size) (zO k0) ∧ Blk W (w1.heap.size + 1) (zO k2)) ((w1.alloc (zO k0)).alloc (zO k2)).drew := ⟨((Blk.new w1 _).alloc _).drew, (Blk_new2 w1 _ _).drew⟩
        refine wpAnyH_mono (S2 := fun W : World => Blk W (w1.heap.size) (zO k0) ∧ Blk W (w1.heap.size + 1) (zO k2)) (fun _ h => h.1) ?_
        refine wpAnyH_take (i := 8) (v := ?_) rfl (by kernel_rfl) (by kernel_rfl) (by kernel_rfl) (fun _ _ _ h => h) (Or.inl ⟨by rfl, ?_⟩) (by assumption) ?_
        rotate_left
        · intro W hSw
          have u := Z2.cv W _ hSw.2
          go_simp
          first | done | (with_reducible rfl)
        rotate_left
        try simp only [Act.put]
        refine wpAnyH_ready (rs := [4]) (by kernel_rfl) (by simp) ?_
        refine AllReadyH.cons rfl (fun K hK => ?_) ?_
        · go_simp
          refine hK.out _ _ ⟨(((Blk.new w1 _).alloc _).alloc _).drew, ((Blk_new2 w1 _ _).alloc _).drew⟩ (fun _ => ?_)
          clear hK K hHeld
          try simp only [Act.put]
          have hHeld : (fun W : World => Blk W (w1.heap.size) (zO k0) ∧ Blk W (w1.heap.size + 1) (zO k2) ∧ Blk W (w1.heap.size + 1 + 1) (zO k1)) (((w1.alloc (zO k0)).alloc (zO k2)).alloc (zO k1)).drew := ⟨(((Blk.new w1 _).alloc _).alloc _).drew, ((Blk_new2 w1 _ _).alloc _).drew, (Blk_new3 w1 _ _ _).drew⟩
          refine wpAnyH_mono (S2 := fun W : World => Blk W (w1.heap.size) (zO k0) ∧ Blk W (w1.heap.size + 1) (zO k2) ∧ Blk W (w1.heap.size + 1 + 1) (zO k1)) (fun _ h => ⟨h.1, h.2.1⟩) ?_
          refine wpAnyH_take (i := 5) (v := ?_) rfl (by kernel_rfl) (by kernel_rfl) (by kernel_rfl) (fun _ _ _ h => h) (Or.inl ⟨by rfl, ?_⟩) (by assumption) ?_
          rotate_left
          · intro W hSw
            have u := Z1.cv W _ hSw.2.2
            go_simp
            first | done | (with_reducible rfl)
          rotate_left
          try simp only [Act.put]
          refine wpAnyH_ready (rs := [10]) (by kernel_rfl) (by simp) ?_
          refine AllReadyH.cons rfl (fun K hK => ?_) ?_
          · go_simp
            refine (form_new w za zb zx t (((w1.alloc (zO k0)).alloc (zO k2)).alloc (zO k1)).drew (be_drew (be_alloc (be_alloc (be_alloc B1 _) _) _))).mono ?_
            rintro _ w2 ⟨pv, er, rfl, hR, hb2⟩
            have hHeld2 : (fun W : World => Blk W (w1.heap.size) (zO k0) ∧ Blk W (w1.heap.size + 1) (zO k2) ∧ Blk W (w1.heap.size + 1 + 1) (zO k1)) w2 := ⟨hHeld.1.below hb2, hHeld.2.1.below hb2, hHeld.2.2.below hb2⟩
            refine hK.out _ _ hHeld2 (fun _ => ?_)
            clear hK K hHeld hb2
            try simp only [Act.put]
            refine wpAnyH_take (i := 11) (v := ?_) rfl (by kernel_rfl) (by kernel_rfl) (by kernel_rfl) (fun _ _ _ h => h) (Or.inl ⟨by rfl, ?_⟩) (by assumption) ?_
            rotate_left
            · intro W hSw
              go_simp
              first | done | (with_reducible rfl)
            rotate_left
            try simp only [Act.put]
            refine wpAnyH_take (i := 12) (v := ?_) rfl (by kernel_rfl) (by kernel_rfl) (by kernel_rfl) (fun _ _ _ h => h) (Or.inl ⟨by rfl, ?_⟩) (by assumption) ?_
            rotate_left
            · intro W hSw
              go_simp
              first | done | (with_reducible rfl)
            rotate_left
            try simp only [Act.put]
            refine wpAnyH_take (i := 13) (v := ?_) rfl (by kernel_rfl) (by kernel_rfl) (by kernel_rfl) (fun _ _ _ h => h) (Or.inl ⟨by rfl, ?_⟩) (by assumption) ?_
            rotate_left
            · intro W hSw
              go_simp
              first | done | (with_reducible rfl)
            rotate_left
            try simp only [Act.put]
            refine wpAnyH_take (i := 14) (v := ?_) rfl (by kernel_rfl) (by kernel_rfl) (by kernel_rfl) (fun _ _ _ h => h) (Or.inl ⟨by rfl, ?_⟩) (by assumption) ?_
            rotate_left
            · intro W hSw
              go_simp
              first | done | (with_reducible rfl)
            rotate_left
            try simp only [Act.put]
            refine wpAnyH_take (i := 15) (v := ?_) rfl (by kernel_rfl) (by kernel_rfl) (by kernel_rfl) (fun _ _ _ h => h) (Or.inl ⟨by rfl, ?_⟩) (by assumption) ?_
            rotate_left
            · intro W hSw
              go_simp
              first | done | (with_reducible rfl)
            rotate_left
            try simp only [Act.put]
            refine wpAnyH_done (by kernel_rfl) ?_ _
            refine NoPanic.normal ?_
            go_wp2_with fail
            go_meet
            case rel => exact ⟨pv, er, rfl, rfl, hR⟩
          exact AllReadyH.nil
        exact AllReadyH.nil
      exact AllReadyH.nil
    refine AllReadyH.cons rfl (fun K hK => ?_) ?_
    · go_simp
      refine hK.out _ _ trivial (fun _ => ?_)
      clear hK K hHeld
      try simp only [Act.put]
      have hHeld : (fun W : World => Blk W (w1.heap.size) (zO k1)) (w1.alloc (zO k1)).drew := (Blk.new w1 _).drew
      refine wpAnyH_mono (S2 := fun W : World => Blk W (w1.heap.size) (zO k1)) (fun _ h => trivial) ?_
      refine wpAnyH_take (i := 5) (v := ?_) rfl (by kernel_rfl) (by kernel_rfl) (by kernel_rfl) (fun _ _ _ h => h) (Or.inl ⟨by rfl, ?_⟩) (by assumption) ?_
      rotate_left
      · intro W hSw
        have u := Z1.cv W _ hSw
        go_simp
        first | done | (with_reducible rfl)
      rotate_left
      try simp only [Act.put]
      refine wpAnyH_ready (rs := [1, 7]) (by kernel_rfl) (by simp) ?_
      refine AllReadyH.cons rfl (fun K hK => ?_) ?_
      · go_simp
        refine hK.out _ _ ((Blk.new w1 _).alloc _).drew (fun _ => ?_)
        clear hK K hHeld
        try simp only [Act.put]
        have hHeld : (fun W : World => Blk W (w1.heap.size) (zO k1) ∧ Blk W (w1.heap.size + 1) (zO k0)) ((w1.alloc (zO k1)).alloc (zO k0)).drew := ⟨((Blk.new w1 _).alloc _).drew, (Blk_new2 w1 _ _).drew⟩
        refine wpAnyH_mono (S2 := fun W : World => Blk W (w1.heap.size) (zO k1) ∧ Blk W (w1.heap.size + 1) (zO k0)) (fun _ h => h.1) ?_
        refine wpAnyH_take (i := 2) (v := ?_) rfl (by kernel_rfl) (by kernel_rfl) (by kernel_rfl) (fun _ _ _ h => h) (Or.inl ⟨by rfl, ?_⟩) (by assumption) ?_
        rotate_left
        · intro W hSw
          have u := Z0.cv W _ hSw.2
          go_simp
          first | done | (with_reducible rfl)
        rotate_left
        try simp only [Act.put]
        refine wpAnyH_ready (rs := [7]) (by kernel_rfl) (by simp) ?_
        refine AllReadyH.cons rfl (fun K hK => ?_) ?_
        · go_simp
          refine hK.out _ _ ⟨(((Blk.new w1 _).alloc _).alloc _).drew, ((Blk_new2 w1 _ _).alloc _).drew⟩ (fun _ => ?_)
          clear hK K hHeld
          try simp only [Act.put]
          have hHeld : (fun W : World => Blk W (w1.heap.size) (zO k1) ∧ Blk W (w1.heap.size + 1) (zO k0) ∧ Blk W (w1.heap.size + 1 + 1) (zO k2)) (((w1.alloc (zO k1)).alloc (zO k0)).alloc (zO k2)).drew := ⟨(((Blk.new w1 _).alloc _).alloc _).drew, ((Blk_new2 w1 _ _).alloc _).drew, (Blk_new3 w1 _ _ _).drew⟩
          refine wpAnyH_mono (S2 := fun W : World => Blk W (w1.heap.size) (zO k1) ∧ Blk W (w1.heap.size + 1) (zO k0) ∧ Blk W (w1.heap.size + 1 + 1) (zO k2)) (fun _ h => ⟨h.1, h.2.1⟩) ?_
          refine wpAnyH_take (i := 8) (v := ?_) rfl (by kernel_rfl) (by kernel_rfl) (by kernel_rfl) (fun _ _ _ h => h) (Or.inl ⟨by rfl, ?_⟩) (by assumption) ?_
          rotate_left
          · intro W hSw
            have u := Z2.cv W _ hSw.2.2
            go_simp
            first | done | (with_reducible rfl)
          rotate_left
          try simp only [Act.put]
          refine wpAnyH_ready (rs := [10]) (by kernel_rfl) (by simp) ?_
          refine AllReadyH.cons rfl (fun K hK => ?_) ?_
          · go_simp
            refine (form_new w za zb zx t (((w1.alloc (zO k1)).alloc (zO k0)).alloc (zO k2)).drew (be_drew (be_alloc (be_alloc (be_alloc B1 _) _) _))).mono ?_
            rintro _ w2 ⟨pv, er, rfl, hR, hb2⟩
            have hHeld2 : (fun W : World => Blk W (w1.heap.size) (zO k1) ∧ Blk W (w1.heap.size + 1) (zO k0) ∧ Blk W (w1.heap.size + 1 + 1) (zO k2)) w2 := ⟨hHeld.1.below hb2, hHeld.2.1.below hb2, hHeld.2.2.below hb2⟩
            refine hK.out _ _ hHeld2 (fun _ => ?_)
            clear hK K hHeld hb2
            try simp only [Act.put]
            refine wpAnyH_take (i := 11) (v := ?_) rfl (by kernel_rfl) (by kernel_rfl) (by kernel_rfl) (fun _ _ _ h => h) (Or.inl ⟨by rfl, ?_⟩) (by assumption) ?_
            rotate_left
            · intro W hSw
              go_simp
              first | done | (with_reducible rfl)
            rotate_left
            try simp only [Act.put]
            refine wpAnyH_take (i := 12) (v := ?_) rfl (by kernel_rfl) (by kernel_rfl) (by kernel_rfl) (fun _ _ _ h => h) (Or.inl ⟨by rfl, ?_⟩) (by assumption) ?_
            rotate_left
            · intro W hSw
              go_simp
              first | done | (with_reducible rfl)
            rotate_left
            try simp only [Act.put]
            refine wpAnyH_take (i := 13) (v := ?_) rfl (by kernel_rfl) (by kernel_rfl) (by kernel_rfl) (fun _ _ _ h => h) (Or.inl ⟨by rfl, ?_⟩) (by assumption) ?_
            rotate_left
            · intro W hSw
              go_simp
              first | done | (with_reducible rfl)
            rotate_left
            try simp only [Act.put]
            refine wpAnyH_take (i := 14) (v := ?_) rfl (by kernel_rfl) (by kernel_rfl) (by kernel_rfl) (fun _ _ _ h => h) (Or.inl ⟨by rfl, ?_⟩) (by assumption) ?_
            rotate_left
            · intro W hSw
              go_simp
              first | done | (with_reducible rfl)
            rotate_left
            try simp only [Act.put]
            refine wpAnyH_take (i := 15) (v := ?_) rfl (by kernel_rfl) (by kernel_rfl) (by kernel_rfl) (fun _ _ _ h => h) (Or.inl ⟨by rfl, ?_⟩) (by assumption) ?_
            rotate_left
            · intro W hSw
              go_simp
              first | done | (with_reducible rfl)
            rotate_left
            try simp only [Act.put]
            refine wpAnyH_done (by kernel_rfl) ?_ _
            refine NoPanic.normal ?_
            go_wp2_with fail
            go_meet
            case rel => exact ⟨pv, er, rfl, rfl, hR⟩
          exact AllReadyH.nil
        exact AllReadyH.nil
      refine AllReadyH.cons rfl (fun K hK => ?_) ?_
      · go_simp
        refine hK.out _ _ ((Blk.new w1 _).alloc _).drew (fun _ => ?_)
        clear hK K hHeld
        try simp only [Act.put]
        have hHeld : (fun W : World => Blk W (w1.heap.size) (zO k1) ∧ Blk W (w1.heap.size + 1) (zO k2)) ((w1.alloc (zO k1)).alloc (zO k2)).drew := ⟨((Blk.new w1 _).alloc _).drew, (Blk_new2 w1 _ _).drew⟩
        refine wpAnyH_mono (S2 := fun W : World => Blk W (w1.heap.size) (zO k1) ∧ Blk W (w1.heap.size + 1) (zO k2)) (fun _ h => h.1) ?_
        refine wpAnyH_take (i := 8) (v := ?_) rfl (by kernel_rfl) (by kernel_rfl) (by kernel_rfl) (fun _ _ _ h => h) (Or.inl ⟨by rfl, ?_⟩) (by assumption) ?_
        rotate_left
        · intro W hSw
          have u := Z2.cv W _ hSw.2
          go_simp
          first | done | (with_reducible rfl)
        rotate_left
        try simp only [Act.put]
        refine wpAnyH_ready (rs := [1]) (by kernel_rfl) (by simp) ?_
        refine AllReadyH.cons rfl (fun K hK => ?_) ?_
        · go_simp
          refine hK.out _ _ ⟨(((Blk.new w1 _).alloc _).alloc _).drew, ((Blk_new2 w1 _ _).alloc _).drew⟩ (fun _ => ?_)
          clear hK K hHeld
          try simp only [Act.put]
          have hHeld : (fun W : World => Blk W (w1.heap.size) (zO k1) ∧ Blk W (w1.heap.size + 1) (zO k2) ∧ Blk W (w1.heap.size + 1 + 1) (zO k0)) (((w1.alloc (zO k1)).alloc (zO k2)).alloc (zO k0)).drew := ⟨(((Blk.new w1 _).alloc _).alloc _).drew, ((Blk_new2 w1 _ _).alloc _).drew, (Blk_new3 w1 _ _ _).drew⟩
          refine wpAnyH_mono (S2 := fun W : World => Blk W (w1.heap.size) (zO k1) ∧ Blk W (w1.heap.size + 1) (zO k2) ∧ Blk W (w1.heap.size + 1 + 1) (zO k0)) (fun _ h => ⟨h.1, h.2.1⟩) ?_
          refine wpAnyH_take (i := 2) (v := ?_) rfl (by kernel_rfl) (by kernel_rfl) (by kernel_rfl) (fun _ _ _ h => h) (Or.inl ⟨by rfl, ?_⟩) (by assumption) ?_
          rotate_left
          · intro W hSw
            have u := Z0.cv W _ hSw.2.2
            go_simp
            first | done | (with_reducible rfl)
          rotate_left
          try simp only [Act.put]
          refine wpAnyH_ready (rs := [10]) (by kernel_rfl) (by simp) ?_
          refine AllReadyH.cons rfl (fun K hK => ?_) ?_
          · go_simp
            refine (form_new w za zb zx t (((w1.alloc (zO k1)).alloc (zO k2)).alloc (zO k0)).drew (be_drew (be_alloc (be_alloc (be_alloc B1 _) _) _))).mono ?_
            rintro _ w2 ⟨pv, er, rfl, hR, hb2⟩
            have hHeld2 : (fun W : World => Blk W (w1.heap.size) (zO k1) ∧ Blk W (w1.heap.size + 1) (zO k2) ∧ Blk W (w1.heap.size + 1 + 1) (zO k0)) w2 := ⟨hHeld.1.below hb2, hHeld.2.1.below hb2, hHeld.2.2.below hb2⟩
            refine hK.out _ _ hHeld2 (fun _ => ?_)
            clear hK K hHeld hb2
            try simp only [Act.put]
            refine wpAnyH_take (i := 11) (v := ?_) rfl (by kernel_rfl) (by kernel_rfl) (by kernel_rfl) (fun _ _ _ h => h) (Or.inl ⟨by rfl, ?_⟩) (by assumption) ?_
            rotate_left
            · intro W hSw
              go_simp
              first | done | (with_reducible rfl)
            rotate_left
            try simp only [Act.put]
            refine wpAnyH_take (i := 12) (v := ?_) rfl (by kernel_rfl) (by kernel_rfl) (by kernel_rfl) (fun _ _ _ h => h) (Or.inl ⟨by rfl, ?_⟩) (by assumption) ?_
            rotate_left
            · intro W hSw
              go_simp
              first | done | (with_reducible rfl)
            rotate_left
            try simp only [Act.put]
            refine wpAnyH_take (i := 13) (v := ?_) rfl (by kernel_rfl) (by kernel_rfl) (by kernel_rfl) (fun _ _ _ h => h) (Or.inl ⟨by rfl, ?_⟩) (by assumption) ?_
            rotate_left
            · intro W hSw
              go_simp
              first | done | (with_reducible rfl)
            rotate_left
            try simp only [Act.put]
            refine wpAnyH_take (i := 14) (v := ?_) rfl (by kernel_rfl) (by kernel_rfl) (by kernel_rfl) (fun _ _ _ h => h) (Or.inl ⟨by rfl, ?_⟩) (by assumption) ?_
            rotate_left
            · intro W hSw
              go_simp
              first | done | (with_reducible rfl)
            rotate_left
            try simp only [Act.put]
            refine wpAnyH_take (i := 15) (v := ?_) rfl (by kernel_rfl) (by kernel_rfl) (by kernel_rfl) (fun _ _ _ h => h) (Or.inl ⟨by rfl, ?_⟩) (by assumption) ?_
            rotate_left
            · intro W hSw
              go_simp
              first | done | (with_reducible rfl)
            rotate_left
            try simp only [Act.put]
            refine wpAnyH_done (by kernel_rfl) ?_ _
            refine NoPanic.normal ?_
            go_wp2_with fail
            go_meet
            case rel => exact ⟨pv, er, rfl, rfl, hR⟩
          exact AllReadyH.nil
        exact AllReadyH.nil
      exact AllReadyH.nil
    refine AllReadyH.cons rfl (fun K hK => ?_) ?_
    · go_simp
      refine hK.out _ _ trivial (fun _ => ?_)
      clear hK K hHeld
      try simp only [Act.put]
      have hHeld : (fun W : World => Blk W (w1.heap.size) (zO k2)) (w1.alloc (zO k2)).drew := (Blk.new w1 _).drew
      refine wpAnyH_mono (S2 := fun W : World => Blk W (w1.heap.size) (zO k2)) (fun _ h => trivial) ?_
      refine wpAnyH_take (i := 8) (v := ?_) rfl (by kernel_rfl) (by kernel_rfl) (by kernel_rfl) (fun _ _ _ h => h) (Or.inl ⟨by rfl, ?_⟩) (by assumption) ?_
      rotate_left
      · intro W hSw
        have u := Z2.cv W _ hSw
        go_simp
        first | done | (with_reducible rfl)
      rotate_left
      try simp only [Act.put]
      refine wpAnyH_ready (rs := [1, 4]) (by kernel_rfl) (by simp) ?_
      refine AllReadyH.cons rfl (fun K hK => ?_) ?_
      · go_simp
        refine hK.out _ _ ((Blk.new w1 _).alloc _).drew (fun _ => ?_)
        clear hK K hHeld
        try simp only [Act.put]
        have hHeld : (fun W : World => Blk W (w1.heap.size) (zO k2) ∧ Blk W (w1.heap.size + 1) (zO k0)) ((w1.alloc (zO k2)).alloc (zO k0)).drew := ⟨((Blk.new w1 _).alloc _).drew, (Blk_new2 w1 _ _).drew⟩
        refine wpAnyH_mono (S2 := fun W : World => Blk W (w1.heap.size) (zO k2) ∧ Blk W (w1.heap.size + 1) (zO k0)) (fun _ h => h.1) ?_
        refine wpAnyH_take (i := 2) (v := ?_) rfl (by kernel_rfl) (by kernel_rfl) (by kernel_rfl) (fun _ _ _ h => h) (Or.inl ⟨by rfl, ?_⟩) (by assumption) ?_
        rotate_left
        · intro W hSw
          have u := Z0.cv W _ hSw.2
          go_simp
          first | done | (with_reducible rfl)
        rotate_left
        try simp only [Act.put]
        refine wpAnyH_ready (rs := [4]) (by kernel_rfl) (by simp) ?_
        refine AllReadyH.cons rfl (fun K hK => ?_) ?_
        · go_simp
          refine hK.out _ _ ⟨(((Blk.new w1 _).alloc _).alloc _).drew, ((Blk_new2 w1 _ _).alloc _).drew⟩ (fun _ => ?_)
          clear hK K hHeld
          try simp only [Act.put]
          have hHeld : (fun W : World => Blk W (w1.heap.size) (zO k2) ∧ Blk W (w1.heap.size + 1) (zO k0) ∧ Blk W (w1.heap.size + 1 + 1) (zO k1)) (((w1.alloc (zO k2)).alloc (zO k0)).alloc (zO k1)).drew := ⟨(((Blk.new w1 _).alloc _).alloc _).drew, ((Blk_new2 w1 _ _).alloc _).drew, (Blk_new3 w1 _ _ _).drew⟩
          refine wpAnyH_mono (S2 := fun W : World => Blk W (w1.heap.size) (zO k2) ∧ Blk W (w1.heap.size + 1) (zO k0) ∧ Blk W (w1.heap.size + 1 + 1) (zO k1)) (fun _ h => ⟨h.1, h.2.1⟩) ?_
          refine wpAnyH_take (i := 5) (v := ?_) rfl (by kernel_rfl) (by kernel_rfl) (by kernel_rfl) (fun _ _ _ h => h) (Or.inl ⟨by rfl, ?_⟩) (by assumption) ?_
          rotate_left
          · intro W hSw
            have u := Z1.cv W _ hSw.2.2
            go_simp
            first | done | (with_reducible rfl)
          rotate_left
          try simp only [Act.put]
          refine wpAnyH_ready (rs := [10]) (by kernel_rfl) (by simp) ?_
          refine AllReadyH.cons rfl (fun K hK => ?_) ?_
          · go_simp
            refine (form_new w za zb zx t (((w1.alloc (zO k2)).alloc (zO k0)).alloc (zO k1)).drew (be_drew (be_alloc (be_alloc (be_alloc B1 _) _) _))).mono ?_
            rintro _ w2 ⟨pv, er, rfl, hR, hb2⟩
            have hHeld2 : (fun W : World => Blk W (w1.heap.size) (zO k2) ∧ Blk W (w1.heap.size + 1) (zO k0) ∧ Blk W (w1.heap.size + 1 + 1) (zO k1)) w2 := ⟨hHeld.1.below hb2, hHeld.2.1.below hb2, hHeld.2.2.below hb2⟩
            refine hK.out _ _ hHeld2 (fun _ => ?_)
            clear hK K hHeld hb2
            try simp only [Act.put]
            refine wpAnyH_take (i := 11) (v := ?_) rfl (by kernel_rfl) (by kernel_rfl) (by kernel_rfl) (fun _ _ _ h => h) (Or.inl ⟨by rfl, ?_⟩) (by assumption) ?_
            rotate_left
            · intro W hSw
              go_simp
              first | done | (with_reducible rfl)
            rotate_left
            try simp only [Act.put]
            refine wpAnyH_take (i := 12) (v := ?_) rfl (by kernel_rfl) (by kernel_rfl) (by kernel_rfl) (fun _ _ _ h => h) (Or.inl ⟨by rfl, ?_⟩) (by assumption) ?_
            rotate_left
            · intro W hSw
              go_simp
              first | done | (with_reducible rfl)
            rotate_left
            try simp only [Act.put]
            refine wpAnyH_take (i := 13) (v := ?_) rfl (by kernel_rfl) (by kernel_rfl) (by kernel_rfl) (fun _ _ _ h => h) (Or.inl ⟨by rfl, ?_⟩) (by assumption) ?_
            rotate_left
            · intro W hSw
              go_simp
              first | done | (with_reducible rfl)
            rotate_left
            try simp only [Act.put]
            refine wpAnyH_take (i := 14) (v := ?_) rfl (by kernel_rfl) (by kernel_rfl) (by kernel_rfl) (fun _ _ _ h => h) (Or.inl ⟨by rfl, ?_⟩) (by assumption) ?_
            rotate_left
            · intro W hSw
              go_simp
              first | done | (with_reducible rfl)
            rotate_left
            try simp only [Act.put]
            refine wpAnyH_take (i := 15) (v := ?_) rfl (by kernel_rfl) (by kernel_rfl) (by kernel_rfl) (fun _ _ _ h => h) (Or.inl ⟨by rfl, ?_⟩) (by assumption) ?_
            rotate_left
            · intro W hSw
              go_simp
              first | done | (with_reducible rfl)
            rotate_left
            try simp only [Act.put]
            refine wpAnyH_done (by kernel_rfl) ?_ _
            refine NoPanic.normal ?_
            go_wp2_with fail
            go_meet
            case rel => exact ⟨pv, er, rfl, rfl, hR⟩
          exact AllReadyH.nil
        exact AllReadyH.nil
      refine AllReadyH.cons rfl (fun K hK => ?_) ?_
      · go_simp
        refine hK.out _ _ ((Blk.new w1 _).alloc _).drew (fun _ => ?_)
        clear hK K hHeld
        try simp only [Act.put]
        have hHeld : (fun W : World => Blk W (w1.heap.size) (zO k2) ∧ Blk W (w1.heap.size + 1) (zO k1)) ((w1.alloc (zO k2)).alloc (zO k1)).drew := ⟨((Blk.new w1 _).alloc _).drew, (Blk_new2 w1 _ _).drew⟩
        refine wpAnyH_mono (S2 := fun W : World => Blk W (w1.heap.size) (zO k2) ∧ Blk W (w1.heap.size + 1) (zO k1)) (fun _ h => h.1) ?_
        refine wpAnyH_take (i := 5) (v := ?_) rfl (by kernel_rfl) (by kernel_rfl) (by kernel_rfl) (fun _ _ _ h => h) (Or.inl ⟨by rfl, ?_⟩) (by assumption) ?_
        rotate_left
        · intro W hSw
          have u := Z1.cv W _ hSw.2
          go_simp
          first | done | (with_reducible rfl)
        rotate_left
        try simp only [Act.put]
        refine wpAnyH_ready (rs := [1]) (by kernel_rfl) (by simp) ?_
        refine AllReadyH.cons rfl (fun K hK => ?_) ?_
        · go_simp
          refine hK.out _ _ ⟨(((Blk.new w1 _).alloc _).alloc _).drew, ((Blk_new2 w1 _ _).alloc _).drew⟩ (fun _ => ?_)
          clear hK K hHeld
          try simp only [Act.put]
          have hHeld : (fun W : World => Blk W (w1.heap.size) (zO k2) ∧ Blk W (w1.heap.size + 1) (zO k1) ∧ Blk W (w1.heap.size + 1 + 1) (zO k0)) (((w1.alloc (zO k2)).alloc (zO k1)).alloc (zO k0)).drew := ⟨(((Blk.new w1 _).alloc _).alloc _).drew, ((Blk_new2 w1 _ _).alloc _).drew, (Blk_new3 w1 _ _ _).drew⟩
          refine wpAnyH_mono (S2 := fun W : World => Blk W (w1.heap.size) (zO k2) ∧ Blk W (w1.heap.size + 1) (zO k1) ∧ Blk W (w1.heap.size + 1 + 1) (zO k0)) (fun _ h => ⟨h.1, h.2.1⟩) ?_
          refine wpAnyH_take (i := 2) (v := ?_) rfl (by kernel_rfl) (by kernel_rfl) (by kernel_rfl) (fun _ _ _ h => h) (Or.inl ⟨by rfl, ?_⟩) (by assumption) ?_
          rotate_left
          · intro W hSw
            have u := Z0.cv W _ hSw.2.2
            go_simp
            first | done | (with_reducible rfl)
          rotate_left
          try simp only [Act.put]
          refine wpAnyH_ready (rs := [10]) (by kernel_rfl) (by simp) ?_
          refine AllReadyH.cons rfl (fun K hK => ?_) ?_
          · go_simp
            refine (form_new w za zb zx t (((w1.alloc (zO k2)).alloc (zO k1)).alloc (zO k0)).drew (be_drew (be_alloc (be_alloc (be_alloc B1 _) _) _))).mono ?_
            rintro _ w2 ⟨pv, er, rfl, hR, hb2⟩
            have hHeld2 : (fun W : World => Blk W (w1.heap.size) (zO k2) ∧ Blk W (w1.heap.size + 1) (zO k1) ∧ Blk W (w1.heap.size + 1 + 1) (zO k0)) w2 := ⟨hHeld.1.below hb2, hHeld.2.1.below hb2, hHeld.2.2.below hb2⟩
            refine hK.out _ _ hHeld2 (fun _ => ?_)
            clear hK K hHeld hb2
            try simp only [Act.put]
            refine wpAnyH_take (i := 11) (v := ?_) rfl (by kernel_rfl) (by kernel_rfl) (by kernel_rfl) (fun _ _ _ h => h) (Or.inl ⟨by rfl, ?_⟩) (by assumption) ?_
            rotate_left
            · intro W hSw
              go_simp
              first | done | (with_reducible rfl)
            rotate_left
            try simp only [Act.put]
            refine wpAnyH_take (i := 12) (v := ?_) rfl (by kernel_rfl) (by kernel_rfl) (by kernel_rfl) (fun _ _ _ h => h) (Or.inl ⟨by rfl, ?_⟩) (by assumption) ?_
            rotate_left
            · intro W hSw
              go_simp
              first | done | (with_reducible rfl)
            rotate_left
            try simp only [Act.put]
            refine wpAnyH_take (i := 13) (v := ?_) rfl (by kernel_rfl) (by kernel_rfl) (by kernel_rfl) (fun _ _ _ h => h) (Or.inl ⟨by rfl, ?_⟩) (by assumption) ?_
            rotate_left
            · intro W hSw
              go_simp
              first | done | (with_reducible rfl)
            rotate_left
            try simp only [Act.put]
            refine wpAnyH_take (i := 14) (v := ?_) rfl (by kernel_rfl) (by kernel_rfl) (by kernel_rfl) (fun _ _ _ h => h) (Or.inl ⟨by rfl, ?_⟩) (by assumption) ?_
            rotate_left
            · intro W hSw
              go_simp
              first | done | (with_reducible rfl)
            rotate_left
            try simp only [Act.put]
            refine wpAnyH_take (i := 15) (v := ?_) rfl (by kernel_rfl) (by kernel_rfl) (by kernel_rfl) (fun _ _ _ h => h) (Or.inl ⟨by rfl, ?_⟩) (by assumption) ?_
            rotate_left
            · intro W hSw
              go_simp
              first | done | (with_reducible rfl)
            rotate_left
            try simp only [Act.put]
            refine wpAnyH_done (by kernel_rfl) ?_ _
            refine NoPanic.normal ?_
            go_wp2_with fail
            go_meet
            case rel => exact ⟨pv, er, rfl, rfl, hR⟩
          exact AllReadyH.nil
        exact AllReadyH.nil
      exact AllReadyH.nil
    exact AllReadyH.nil
  case rest =>
    obtain ⟨pv, er, rfl, rfl, B2, hR⟩ := hcut
    have s0 := Z0.size
    have s1 := Z1.size
    have s2 := Z2.size
    clear B1
    rcases hR with ⟨hno, rfl, rfl⟩ | ⟨hyes, rfl, g, hg, rfl, hp⟩
    · have hw : 32 < (k0 : Int) ∨ ((k0 : Int) ≤ 32 ∧ (k1 : Int) < 1) ∨ ((k0 : Int) ≤ 32 ∧ 1 ≤ (k1 : Int) ∧ 64 < (k1 : Int)) ∨ ((k0 : Int) ≤ 32 ∧ 1 ≤ (k1 : Int) ∧ (k1 : Int) ≤ 64 ∧ (k2 : Int) < 1)
          ∨ ((k0 : Int) ≤ 32 ∧ 1 ≤ (k1 : Int) ∧ (k1 : Int) ≤ 64 ∧ 1 ≤ (k2 : Int) ∧ 64 < (k2 : Int)) ∨ ((k0 : Int) ≤ 32 ∧ 1 ≤ (k1 : Int) ∧ (k1 : Int) ≤ 64 ∧ 1 ≤ (k2 : Int) ∧ (k2 : Int) ≤ 64 ∧ t < 1)
          ∨ ((k0 : Int) ≤ 32 ∧ 1 ≤ (k1 : Int) ∧ (k1 : Int) ≤ 64 ∧ 1 ≤ (k2 : Int) ∧ (k2 : Int) ≤ 64 ∧ 1 ≤ t ∧ 10 < t) := by unfold mayNew at hno; omega
      clear hno s0 s1 s2 h0 h1 h2 h3
      rcases hw with q0 | ⟨q0, q1⟩ | ⟨q0, q1, q2⟩ | ⟨q0, q1, q2, q3⟩ | ⟨q0, q1, q2, q3, q4⟩ | ⟨q0, q1, q2, q3, q4, q5⟩ | ⟨q0, q1, q2, q3, q4, q5, q6⟩
      · have hd : decide ((k0 : Int) ≤ 32) = false := decide_eq_false (by omega)
        go_wp2_with (go_at_call 22; refine (num_calls _ _).mono ?_; rintro _ _ ⟨rfl, rfl⟩)
        go_ret
        exact ⟨rfl, B2⟩
      · have hd : decide (1 ≤ (k1 : Int)) = false := decide_eq_false (by omega)
        have hd2 : decide (1 ≤ k1) = false := decide_eq_false (by omega)
        go_wp2_with (go_at_call 22; refine (num_calls _ _).mono ?_; rintro _ _ ⟨rfl, rfl⟩)
        go_ret
        exact ⟨rfl, B2⟩
      · have hd : decide ((k1 : Int) ≤ 64) = false := decide_eq_false (by omega)
        go_wp2_with (go_at_call 22; refine (num_calls _ _).mono ?_; rintro _ _ ⟨rfl, rfl⟩)
        go_ret
        exact ⟨rfl, B2⟩
      · have hd : decide (1 ≤ (k2 : Int)) = false := decide_eq_false (by omega)
        have hd2 : decide (1 ≤ k2) = false := decide_eq_false (by omega)
        go_wp2_with (go_at_call 22; refine (num_calls _ _).mono ?_; rintro _ _ ⟨rfl, rfl⟩)
        go_ret
        exact ⟨rfl, B2⟩
      · have hd : decide ((k2 : Int) ≤ 64) = false := decide_eq_false (by omega)
        go_wp2_with (go_at_call 22; refine (num_calls _ _).mono ?_; rintro _ _ ⟨rfl, rfl⟩)
        go_ret
        exact ⟨rfl, B2⟩
      · have hd : decide (1 ≤ t) = false := decide_eq_false (by omega)
        go_wp2_with (go_at_call 22; refine (num_calls _ _).mono ?_; rintro _ _ ⟨rfl, rfl⟩)
        go_ret
        exact ⟨rfl, B2⟩
      · have hd : decide (t ≤ 10) = false := decide_eq_false (by omega)
        go_wp2_with (go_at_call 22; refine (num_calls _ _).mono ?_; rintro _ _ ⟨rfl, rfl⟩)
        go_ret
        exact ⟨rfl, B2⟩
    · obtain ⟨q0, ⟨q1, q2⟩, ⟨q3, q4⟩, q5, q6⟩ := id hyes
      have p0 : (k0 : Int) ≤ 32 := by omega
      have p1 : 1 ≤ (k1 : Int) := by omega
      have p2 : (k1 : Int) ≤ 64 := by omega
      have p3 : 1 ≤ (k2 : Int) := by omega
      have p4 : (k2 : Int) ≤ 64 := by omega
      have HI := Lib.hid (inv_new hyes)
      have HP := Lib.hid hp
      clear hyes q0 q1 q2 q3 q4 s0 s1 s2 h0 h1 h2 hp
      have m3 := Z3.mk0
      have hlt := Blk.lt HP.out
      have hs3 := Z3.size
      have u3 : (convert 37 9 (.slice (some ⟨wc.heap.size, 0, none⟩) k3 k3)).run Try.prog (wc.alloc (zO k3)) = .ok (.string zd) (wc.alloc (zO k3)) := Z3.cv _ _ (Blk.new wc _)
      go_wp2_with (go_at_call 22; refine (num_calls _ _).mono ?_; rintro _ _ ⟨rfl, rfl⟩)
      have hp3 : PS (wc.alloc (zO k3)) g (newF za zb zx t) := Blk.alloc HP.out _
      have B3 := be_alloc B2 (zO k3)
      have hs := B2.size
      by_cases hk : 1 ≤ k3 ∧ k3 ≤ 255
      · have hst : Calls Try.prog 27 #[.pointer (some ⟨g, 0, none⟩), .string zd] (wc.alloc (zO k3)) fun e w' => e = .returned (.tuple #[.agg #[.int .i64 1, .int .i64 1, .string zd, .string za], .int .i64 0]) ∧ PS w' g { newF za zb zx t with ch := zd } ∧ But g (wc.alloc (zO k3)) w' := by
          have := start_any hp3 zd
          rw [start_new _ _ _ _ _ (by omega) (by omega)] at this
          exact this
        have hI2 : Inv { newF za zb zx t with ch := zd } := by
          have := inv_start HI.out zd
          rw [start_new _ _ _ _ _ (by omega) (by omega)] at this
          exact this
        have hk1 : 1 ≤ (k3 : Int) := by omega
        have hk2 : (k3 : Int) ≤ 255 := by omega
        have HI2 := Lib.hid hI2
        clear hI2 hp3 HI hk u3 m3 hs3
        refine hst.mono ?_
        rintro _ w2 ⟨rfl, hp, hbut⟩
        have B4 := hbut.below B3 hg B3.size
        have k := Blk.new w2 (cC 1 1 zd za)
        have ht : Calls Try.prog 32 #[.pointer (some ⟨g, 0, none⟩), .agg #[.int .i64 9, .int .i64 0, .string ⟨#[]⟩, .string ⟨#[]⟩]] (w2.alloc (cC 1 1 zd za)) fun e w' => e = nil2 1600 ∧ PS w' g { newF za zb zx t with ch := zd } ∧ But g (w2.alloc (cC 1 1 zd za)) w' := by
          have := take_any (w := w2.alloc (cC 1 1 zd za)) (Blk.alloc hp _) HI2.out ⟨9, 0, ⟨#[]⟩, ⟨#[]⟩⟩
          rw [take_nine] at this
          exact this
        have HT := Lib.hid ht
        have hl2 : g < w2.heap.size := Blk.lt hp
        clear ht hp hbut hst B2 B3 HP
        go_wp2_with fail
        refine HT.out.mono ?_
        rintro _ w3 ⟨rfl, hp, hbut⟩
        have B5 := hbut.below (be_alloc B4 _) hg (be_alloc B4 _).size
        clear hp hbut HT
        go_wp2_with (go_at_call 22; refine (num_calls _ _).mono ?_; rintro _ _ ⟨rfl, rfl⟩)
        go_ret
        exact ⟨rfl, B5⟩
      · have hst : Calls Try.prog 27 #[.pointer (some ⟨g, 0, none⟩), .string zd] (wc.alloc (zO k3)) fun e w' => e = .returned (.tuple #[.agg #[.int .i64 0, .int .i64 0, .string ⟨#[]⟩, .string ⟨#[]⟩], .int .i64 1600]) ∧ PS w' g (newF za zb zx t) ∧ But g (wc.alloc (zO k3)) w' := by
          have := start_any hp3 zd
          rw [start_bad _ _ (by omega)] at this
          exact this
        clear hp3 u3 m3
        refine hst.mono ?_
        rintro _ w2 ⟨rfl, hp, hbut⟩
        have B4 := hbut.below B3 hg B3.size
        have k := Blk.new w2 (cC 0 0 ⟨#[]⟩ ⟨#[]⟩)
        have ht : Calls Try.prog 32 #[.pointer (some ⟨g, 0, none⟩), .agg #[.int .i64 9, .int .i64 0, .string ⟨#[]⟩, .string ⟨#[]⟩]] (w2.alloc (cC 0 0 ⟨#[]⟩ ⟨#[]⟩)) fun e w' => e = nil2 1600 ∧ PS w' g (newF za zb zx t) ∧ But g (w2.alloc (cC 0 0 ⟨#[]⟩ ⟨#[]⟩)) w' := by
          have := take_any (w := w2.alloc (cC 0 0 ⟨#[]⟩ ⟨#[]⟩)) (Blk.alloc hp _) HI.out ⟨9, 0, ⟨#[]⟩, ⟨#[]⟩⟩
          rw [take_nine] at this
          exact this
        have HT := Lib.hid ht
        have hl2 : g < w2.heap.size := Blk.lt hp
        have hbad : (k3 : Int) < 1 ∨ (1 ≤ (k3 : Int) ∧ 255 < (k3 : Int)) := by omega
        clear ht hp hbut hst B2 B3 HP hk hs3
        rcases hbad with j1 | ⟨j1, j2⟩
        · have hd : decide (1 ≤ (k3 : Int)) = false := decide_eq_false (by omega)
          have hd2 : decide (1 ≤ k3) = false := decide_eq_false (by omega)
          go_wp2_with fail
          refine HT.out.mono ?_
          rintro _ w3 ⟨rfl, hp, hbut⟩
          have B5 := hbut.below (be_alloc B4 _) hg (be_alloc B4 _).size
          replace k := hbut.blk (by omega) k
          obtain ⟨x0, x1, x2, x3⟩ := k.cells4
          have hlk := k.lt
          clear hp hbut HT k
          go_wp2_with (go_at_call 22; refine (num_calls _ _).mono ?_; rintro _ _ ⟨rfl, rfl⟩)
          go_ret
          exact ⟨rfl, B5⟩
        · have hd : decide ((k3 : Int) ≤ 255) = false := decide_eq_false (by omega)
          go_wp2_with fail
          refine HT.out.mono ?_
          rintro _ w3 ⟨rfl, hp, hbut⟩
          have B5 := hbut.below (be_alloc B4 _) hg (be_alloc B4 _).size
          replace k := hbut.blk (by omega) k
          obtain ⟨x0, x1, x2, x3⟩ := k.cells4
          have hlk := k.lt
          clear hp hbut HT k
          go_wp2_with (go_at_call 22; refine (num_calls _ _).mono ?_; rintro _ _ ⟨rfl, rfl⟩)
          go_ret
          exact ⟨rfl, B5⟩
theorem zs_of (k : Nat) (hk : k ≤ 1000) : ZS k (B (List.replicate k 0)) := by
  refine ⟨Ch6.make_zeros k (by omega), fun V b hb => ?_, by rw [B_size]; simp⟩
  have hz : (Ch6.zc k).toList = cells8 (List.replicate k 0) := by rw [← zeros_cells k]; simp [cells8]
  have hl : (Ch6.zc k).size = k := by rw [← Array.length_toList, hz, cells8_length]; simp
  refine own_text (base := 0) (n := k) ⟨by rw [cells8_length]; simp, Or.inr ⟨b, k, Ch6.zc k, rfl, Nat.zero_le _, hb.out, Nat.le_refl _, by unfold maxLen; omega, by rw [hl]; simp, ?_⟩⟩
  rw [hz, List.take_of_length_le (by rw [cells8_length]; simp)]
theorem forms_calls (a b c t d : Int) (w : World) : Calls Try.prog 17 #[.int .i64 a, .int .i64 b, .int .i64 c, .int .i64 t, .int .i64 d] w fun e w' => e = .returned (.bool true) ∧ Below w.heap.size w w' := by
  obtain ⟨k0, h0, i0⟩ := and_mask a 6 (by decide) 63 (by decide)
  obtain ⟨k1, h1, i1⟩ := and_mask b 7 (by decide) 127 (by decide)
  obtain ⟨k2, h2, i2⟩ := and_mask c 7 (by decide) 127 (by decide)
  obtain ⟨k3, h3, i3⟩ := and_mask d 9 (by decide) 511 (by decide)
  exact forms_walk a b c t d k0 k1 k2 k3 _ _ _ _ w h0 h1 h2 h3 (zs_of k0 (by omega)) (zs_of k1 (by omega)) (zs_of k2 (by omega)) (zs_of k3 (by omega))
end Go.Proofs.Ytoldjadadgokeaa.Ch16
