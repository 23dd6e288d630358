/- withylaw16.ProofActs answers true. Condition: the acts can be read where they lie. -/
import Derived.Test.YtoldjadadgokeaaSa
namespace Go.Proofs.Ytoldjadadgokeaa.Ch16
open Go.RowKit Go.Proofs.Ytoldjadadgokeaa.Bytes Go.Proofs.Ytoldjadadgokeaa.Md Go.Proofs.Ytoldjadadgokeaa.Ch6

/-- An act. -/
structure ActV where
  kind : Int
  s : ByteArray
  c : Int
  id : Int
  v : ByteArray
  n : ByteArray
  right : Bool
/-- The act's cells lie at place o of block b. -/
structure ActAt (w : World) (b o : Nat) (x : ActV) : Prop where
  c0 : w.cell? ⟨b, o, none⟩ = some (.int .i64 x.kind)
  c1 : w.cell? ⟨b, o + 1, none⟩ = some (.string x.s)
  c2 : w.cell? ⟨b, o + 2, none⟩ = some (.int .i64 x.c)
  c3 : w.cell? ⟨b, o + 3, none⟩ = some (.int .i64 x.id)
  c4 : w.cell? ⟨b, o + 4, none⟩ = some (.string x.v)
  c5 : w.cell? ⟨b, o + 5, none⟩ = some (.string x.n)
  c6 : w.cell? ⟨b, o + 6, none⟩ = some (.bool x.right)
theorem ActAt.below {w w' : World} {b o : Nat} {x : ActV} (h : ActAt w b o x) (hb : Below w.heap.size w w') : ActAt w' b o x :=
  ⟨keep1 hb h.c0, keep1 hb h.c1, keep1 hb h.c2, keep1 hb h.c3, keep1 hb h.c4, keep1 hb h.c5, keep1 hb h.c6⟩
abbrev aO (k : Int) (s : ByteArray) (c id : Int) (v n : ByteArray) (r : Bool) : Obj := .cells #[.int .i64 k, .string s, .int .i64 c, .int .i64 id, .string v, .string n, .bool r] 47 (0, 0)
theorem cells7 {w : World} {b : Nat} {k : Int} {s : ByteArray} {c id : Int} {v n : ByteArray} {r : Bool} (h : Blk w b (aO k s c id v n r)) :
    w.cell? ⟨b, 0, none⟩ = some (.int .i64 k) ∧ w.cell? ⟨b, 1, none⟩ = some (.string s) ∧ w.cell? ⟨b, 2, none⟩ = some (.int .i64 c) ∧ w.cell? ⟨b, 3, none⟩ = some (.int .i64 id) ∧ w.cell? ⟨b, 4, none⟩ = some (.string v) ∧ w.cell? ⟨b, 5, none⟩ = some (.string n) ∧ w.cell? ⟨b, 6, none⟩ = some (.bool r) :=
  ⟨h.cell 0, h.cell 1, h.cell 2, h.cell 3, h.cell 4, h.cell 5, h.cell 6⟩
theorem start_ex (s : Pst) (c : ByteArray) : (startF s c).1.ex = s.ex := by unfold startF; split; · rfl
                                                                            split <;> rfl
theorem start_ch0 (s : Pst) (c : ByteArray) (h : (startF s c).2.2 = 0) : (startF s c).1.ch = c := by
  unfold startF at h ⊢
  split
  · rename_i h1; rw [if_pos h1] at h; simp at h
  · rename_i h1
    rw [if_neg h1] at h
    split
    · rename_i h2; rw [if_pos h2] at h; simp at h
    · rfl
theorem start_ch1 (s : Pst) (c : ByteArray) (h : (startF s c).2.2 ≠ 0) : (startF s c).1.ch = s.ch := by
  unfold startF at h ⊢
  split
  · rfl
  · rename_i h1
    rw [if_neg h1] at h
    split
    · rfl
    · rename_i h2; rw [if_neg h2] at h; simp at h
theorem again_ex (s : Pst) : (againF s).1.ex = s.ex ∧ (againF s).1.ch = s.ch := by
  unfold againF; split; · exact ⟨rfl, rfl⟩
  split <;> exact ⟨rfl, rfl⟩
theorem take_ex (s : Pst) (m : Cv) : (takeF s m).1.ex = s.ex ∧ (takeF s m).1.ch = s.ch := by
  unfold takeF judgeF
  repeat' (first | exact ⟨rfl, rfl⟩ | split)

abbrev sN : ByteArray := ⟨#[110]⟩
theorem first_drew {w : World} {b : Nat} {s : Pst} (h : PS w b s) (k : Nat) : PS (w.drewN k) b s := Blk.drewN h k

set_option maxHeartbeats 4000000 in
set_option maxRecDepth 100000 in
theorem acts_walk (nm sc ex : ByteArray) (tries : Int) (A : Option Addr) (L cap : Nat) (acts : Nat → ActV) (w : World) (hmay : mayNew nm sc ex tries)
    (hA : ∀ i, i < L → ∃ b o, A = some ⟨b, o, none⟩ ∧ ActAt w b (o + i * 7) (acts i)) :
    Calls Try.prog 6 #[.string nm, .string sc, .string ex, .int .i64 tries, .slice A L cap] w fun e w' => e = .returned (.bool true) ∧ Below w.heap.size w w' := by
  have HM := Lib.hid hmay
  have HA := Lib.hid hA
  clear hmay hA
  go_enter Try.func6, Try.ntmps6
  go_wp2_with fail
  refine (new_any HM.out _).mono ?_
  rintro _ w1 ⟨rfl, hp, B1⟩
  have hl1 : w.heap.size < w1.heap.size := Blk.lt hp
  have HP := Lib.hid hp
  clear hp
  go_wp2_with fail
  refine (newProof_any HM.out _).mono ?_
  rintro _ w2 ⟨rfl, hr, hb⟩
  have B2 := B1.trans (hb.mono B1.size)
  have hp2 : PS w2 w.heap.size (newF nm sc ex tries) := Blk.below HP.out hb
  have HH := Lib.hid (And.intro hp2 (And.intro hr B2))
  clear hp2 hr B2 hb HP B1
  go_wp2_with (go_at_call 22; refine (num_calls _ _).mono ?_; rintro _ _ ⟨rfl, rfl⟩)
  go_loopw [15, 16] (fun ch t wr => ∃ (i : Nat) (s : Pst), i ≤ 60 ∧ t = .int .i64 i ∧ ch = .string s.ch ∧ s.ex = ex ∧ Inv s ∧ PS wr w.heap.size s ∧ RS wr w1.heap.size s ∧ Below w.heap.size w wr) (fun _ t _ => 60 - (intOf t).toNat)
  case atStart => exact ⟨0, newF nm sc ex tries, by omega, rfl, rfl, rfl, inv_new HM.out, HH.out.1, HH.out.2.1, HH.out.2.2⟩
  case round =>
    obtain ⟨i, s, hi, rfl, rfl, hex, hI, hp, hr, hbel⟩ := hrel
    by_cases hL : i < L
    · by_cases h60 : i < 60
      · obtain ⟨b, o, rfl, ha0⟩ := HA.out i hL
        have ha1 : ActAt wr b (o + i * 7) (acts i) := ⟨(hbel.cell (block_lt_of_cell ha0.c0)).trans ha0.c0, (hbel.cell (block_lt_of_cell ha0.c1)).trans ha0.c1, (hbel.cell (block_lt_of_cell ha0.c2)).trans ha0.c2, (hbel.cell (block_lt_of_cell ha0.c3)).trans ha0.c3,
          (hbel.cell (block_lt_of_cell ha0.c4)).trans ha0.c4, (hbel.cell (block_lt_of_cell ha0.c5)).trans ha0.c5, (hbel.cell (block_lt_of_cell ha0.c6)).trans ha0.c6⟩
        generalize acts i = x at ha1
        obtain ⟨kind, S, c, id', v, n, right⟩ := x
        obtain ⟨a0, a1, a2, a3, a4, a5, a6⟩ := ha1
        dsimp only at a0 a1 a2 a3 a4 a5 a6
        have hL' : (i : Int) < L := by omega
        have h60' : (i : Int) < 60 := by omega
        have hb0 := block_lt_of_cell a0
        dsimp only at hb0
        have hlr := Blk.lt hr
        have hlp := Blk.lt hp
        have HX := Lib.hid (And.intro hex (And.intro hI (And.intro hp hr)))
        clear ha0 hex hI hp hr
        by_cases hk2 : kind < 2
        · go_wp2_with fail
          obtain ⟨hex, hI, hp, hr⟩ := HX.out
          have kA := Blk.new wr (aO kind S c id' v n right)
          have hp1 : PS (wr.alloc (aO kind S c id' v n right)) w.heap.size s := Blk.alloc hp _
          have hr1 : RS (wr.alloc (aO kind S c id' v n right)) w1.heap.size s := Blk.alloc hr _
          have hst := start_any hp1 S
          have hrt := fun W (h : RS W w1.heap.size s) => rstart_any h S
          have hI' := inv_start hI S
          have hex' := (start_ex s S).trans hex
          have hc0 := start_ch0 s S
          have hc1 := start_ch1 s S
          generalize startF s S = F at hst hrt hI' hex' hc0 hc1
          obtain ⟨s', ⟨mc, mi, mv, mn⟩, er⟩ := F
          dsimp only at hst hrt hI' hex' hc0 hc1
          have H27 : Hid (Calls Try.prog 27 #[.pointer (some ⟨w.heap.size, 0, none⟩), .string S] (wr.alloc (aO kind S c id' v n right)) fun e w' => e = .returned (.tuple #[.agg #[.int .i64 mc, .int .i64 mi, .string mv, .string mn], .int .i64 er]) ∧ PS w' w.heap.size s' ∧ But w.heap.size (wr.alloc (aO kind S c id' v n right)) w') := Lib.hid hst
          have H28 : Hid (∀ W, RS W w1.heap.size s → Calls Try.prog 28 #[.pointer (some ⟨w1.heap.size, 0, none⟩), .string S] W fun e w' => e = .returned (.tuple #[.agg #[.int .i64 mc, .int .i64 mi, .string mv, .string mn], .int .i64 er]) ∧ RS w' w1.heap.size s' ∧ But w1.heap.size W w') := Lib.hid hrt
          have HC := Lib.hid (And.intro hc0 hc1)
          have HE := Lib.hid (And.intro hex' hI')
          have HR1 := Lib.hid hr1
          have hne : w1.heap.size ≠ w.heap.size := by omega
          clear hst hrt hc0 hc1 hex' hI' hp1 hr1 hex hI hp hr HX a0 a1 a2 a3 a4 a5 a6
          refine H27.out.mono ?_
          rintro _ w4 ⟨rfl, hp4, hbut4⟩
          have B4 := hbut4.below (be_alloc hbel (aO kind S c id' v n right)) (Nat.le_refl _) (be_alloc hbel (aO kind S c id' v n right)).size
          have hr4 : RS w4 w1.heap.size s := hbut4.blk hne HR1.out
          have kA4 := hbut4.blk (by omega) kA
          obtain ⟨y0, y1, y2, y3, y4, y5, y6⟩ := cells7 kA4
          have hl4 := kA4.lt
          have HK4 := Lib.hid (And.intro hp4 (And.intro hr4 kA4))
          have hlr4 : w1.heap.size < w4.heap.size := Blk.lt hr4
          clear hp4 hr4 kA4 kA hbut4 H27 HR1
          go_wp2_with fail
          have hr4a : RS (w4.alloc (cC mc mi mv mn)) w1.heap.size s := Blk.alloc HK4.out.2.1 _
          have H28' := Lib.hid (H28.out _ hr4a)
          clear hr4a H28
          refine H28'.out.mono ?_
          rintro _ w5 ⟨rfl, hr5, hbut5⟩
          have B5 := hbut5.below (be_alloc B4 (cC mc mi mv mn)) (by omega) (be_alloc B4 (cC mc mi mv mn)).size
          have hp5 : PS w5 w.heap.size s' := hbut5.blk (by omega) (Blk.alloc HK4.out.1 _)
          have kA5 := hbut5.blk (by omega) (HK4.out.2.2.alloc (cC mc mi mv mn))
          have kC5 := hbut5.blk (by omega) (Blk.new w4 (cC mc mi mv mn))
          clear y0 y1 y2 y3 y4 y5 y6
          obtain ⟨y0, y1, y2, y3, y4, y5, y6⟩ := cells7 kA5
          obtain ⟨z0, z1, z2, z3⟩ := kC5.cells4
          have hlA := kA5.lt
          have hlC := kC5.lt
          have hpW : PS (w5.alloc (cC mc mi mv mn)) w.heap.size s' := Blk.alloc hp5 _
          have hrW : RS (w5.alloc (cC mc mi mv mn)) w1.heap.size s' := Blk.alloc hr5 _
          have BW := be_alloc B5 (cC mc mi mv mn)
          have hlr5 : w1.heap.size < w5.heap.size := Blk.lt hr5
          clear hp5 hr5 kA5 kC5 hbut5 H28' HK4 B5 B4
          by_cases he : er = 0
          · subst he
            have hch : s'.ch = S := HC.out.1 rfl
            have HCH := Lib.hid hch
            clear hch HC
            go_wp2_with (go_at_call 22; refine (num_calls _ _).mono ?_; rintro _ _ ⟨rfl, rfl⟩)
            have h35 : ∀ V, PS V w.heap.size s' → Calls Try.prog 35 #[.pointer (some ⟨w.heap.size, 0, none⟩)] V fun e w' => e = .returned (.bool s'.pr) ∧ w' = V := fun V h => (proved_calls h).mono fun _ _ h => ⟨h.1, h.2.symm⟩
            have h36 : ∀ V, PS V w.heap.size s' → Calls Try.prog 36 #[.pointer (some ⟨w.heap.size, 0, none⟩)] V fun e w' => e = .returned (.bool s'.tk) ∧ w' = V := fun V h => (taken_calls h).mono fun _ _ h => ⟨h.1, h.2.symm⟩
            have h37 : ∀ V, PS V w.heap.size s' → Calls Try.prog 37 #[.pointer (some ⟨w.heap.size, 0, none⟩)] V fun e w' => e = .returned (.bool s'.fl) ∧ w' = V := fun V h => (failed_calls h).mono fun _ _ h => ⟨h.1, h.2.symm⟩
            obtain ⟨q0, q1, q2, -, -, -, -, -⟩ := RB.cells hrW
            have H35 := Lib.hid h35
            have H36 := Lib.hid h36
            have H37 := Lib.hid h37
            have HW := Lib.hid (And.intro hpW (And.intro hrW BW))
            clear h35 h36 h37 hpW hrW BW
            go_quiet (first | (go_at_call 35; exact Calls.quiet_of_same (H35.out _ (first_drew HW.out.1 _))) | (go_at_call 36; exact Calls.quiet_of_same (H36.out _ (first_drew HW.out.1 _))) | (go_at_call 37; exact Calls.quiet_of_same (H37.out _ (first_drew HW.out.1 _))))
            go_wp2
            go_roundw
            case rel => exact ⟨i + 1, s', by omega, by go_num, by rw [HCH.out], HE.out.1, HE.out.2, first_drew HW.out.1 _, Blk.drewN HW.out.2.1 _, be_drewN HW.out.2.2 _⟩
            case measure => simp [intOf]; omega
          · have hch : s'.ch = s.ch := HC.out.2 he
            have HCH := Lib.hid hch
            have he1 : (er == 0) = false := by rw [beq_eq_false_iff_ne]; exact he
            have he2 : decide (er = 0) = false := decide_eq_false he
            clear hch HC he
            go_wp2_with (go_at_call 22; refine (num_calls _ _).mono ?_; rintro _ _ ⟨rfl, rfl⟩)
            have h35 : ∀ V, PS V w.heap.size s' → Calls Try.prog 35 #[.pointer (some ⟨w.heap.size, 0, none⟩)] V fun e w' => e = .returned (.bool s'.pr) ∧ w' = V := fun V h => (proved_calls h).mono fun _ _ h => ⟨h.1, h.2.symm⟩
            have h36 : ∀ V, PS V w.heap.size s' → Calls Try.prog 36 #[.pointer (some ⟨w.heap.size, 0, none⟩)] V fun e w' => e = .returned (.bool s'.tk) ∧ w' = V := fun V h => (taken_calls h).mono fun _ _ h => ⟨h.1, h.2.symm⟩
            have h37 : ∀ V, PS V w.heap.size s' → Calls Try.prog 37 #[.pointer (some ⟨w.heap.size, 0, none⟩)] V fun e w' => e = .returned (.bool s'.fl) ∧ w' = V := fun V h => (failed_calls h).mono fun _ _ h => ⟨h.1, h.2.symm⟩
            obtain ⟨q0, q1, q2, -, -, -, -, -⟩ := RB.cells hrW
            have H35 := Lib.hid h35
            have H36 := Lib.hid h36
            have H37 := Lib.hid h37
            have HW := Lib.hid (And.intro hpW (And.intro hrW BW))
            clear h35 h36 h37 hpW hrW BW
            go_quiet (first | (go_at_call 35; exact Calls.quiet_of_same (H35.out _ (first_drew HW.out.1 _))) | (go_at_call 36; exact Calls.quiet_of_same (H36.out _ (first_drew HW.out.1 _))) | (go_at_call 37; exact Calls.quiet_of_same (H37.out _ (first_drew HW.out.1 _))))
            go_wp2
            go_roundw
            case rel => exact ⟨i + 1, s', by omega, by go_num, by rw [HCH.out], HE.out.1, HE.out.2, first_drew HW.out.1 _, Blk.drewN HW.out.2.1 _, be_drewN HW.out.2.2 _⟩
            case measure => simp [intOf]; omega
        · have hk2' : 2 ≤ kind := by omega
          by_cases hk4 : kind < 4
          · clear hk2
            go_wp2_with fail
            obtain ⟨hex, hI, hp, hr⟩ := HX.out
            have hp1 : PS (wr.alloc (aO kind S c id' v n right)) w.heap.size s := Blk.alloc hp _
            have hr1 : RS (wr.alloc (aO kind S c id' v n right)) w1.heap.size s := Blk.alloc hr _
            have hst := again_any hp1 hI
            have hrt := fun W (h : RS W w1.heap.size s) => ragain_any h hI
            have hI' := inv_again hI
            have hex' := (again_ex s).1.trans hex
            have hc1 := (again_ex s).2
            generalize againF s = F at hst hrt hI' hex' hc1
            obtain ⟨s', ⟨mc, mi, mv, mn⟩, er⟩ := F
            dsimp only at hst hrt hI' hex' hc1
            have H27 : Hid (Calls Try.prog 29 #[.pointer (some ⟨w.heap.size, 0, none⟩)] (wr.alloc (aO kind S c id' v n right)) fun e w' => e = .returned (.tuple #[.agg #[.int .i64 mc, .int .i64 mi, .string mv, .string mn], .int .i64 er]) ∧ PS w' w.heap.size s' ∧ But w.heap.size (wr.alloc (aO kind S c id' v n right)) w') := Lib.hid hst
            have H28 : Hid (∀ W, RS W w1.heap.size s → Calls Try.prog 30 #[.pointer (some ⟨w1.heap.size, 0, none⟩)] W fun e w' => e = .returned (.tuple #[.agg #[.int .i64 mc, .int .i64 mi, .string mv, .string mn], .int .i64 er]) ∧ RS w' w1.heap.size s' ∧ But w1.heap.size W w') := Lib.hid hrt
            have HCH := Lib.hid hc1
            have HE := Lib.hid (And.intro hex' hI')
            have HR1 := Lib.hid hr1
            have hne : w1.heap.size ≠ w.heap.size := by omega
            clear hst hrt hc1 hex' hI' hp1 hr1 hex hI hp hr HX a0 a1 a2 a3 a4 a5 a6
            refine H27.out.mono ?_
            rintro _ w4 ⟨rfl, hp4, hbut4⟩
            have B4 := hbut4.below (be_alloc hbel (aO kind S c id' v n right)) (Nat.le_refl _) (be_alloc hbel (aO kind S c id' v n right)).size
            have hr4 : RS w4 w1.heap.size s := hbut4.blk hne HR1.out
            have HK4 := Lib.hid (And.intro hp4 hr4)
            have hlr4 : w1.heap.size < w4.heap.size := Blk.lt hr4
            clear hp4 hr4 hbut4 H27 HR1
            go_wp2_with fail
            have hr4a : RS (w4.alloc (cC mc mi mv mn)) w1.heap.size s := Blk.alloc HK4.out.2 _
            have H28' := Lib.hid (H28.out _ hr4a)
            clear hr4a H28
            refine H28'.out.mono ?_
            rintro _ w5 ⟨rfl, hr5, hbut5⟩
            have B5 := hbut5.below (be_alloc B4 (cC mc mi mv mn)) (by omega) (be_alloc B4 (cC mc mi mv mn)).size
            have hp5 : PS w5 w.heap.size s' := hbut5.blk (by omega) (Blk.alloc HK4.out.1 _)
            have kC5 := hbut5.blk (by omega) (Blk.new w4 (cC mc mi mv mn))
            obtain ⟨z0, z1, z2, z3⟩ := kC5.cells4
            have hlC := kC5.lt
            have hpW : PS (w5.alloc (cC mc mi mv mn)) w.heap.size s' := Blk.alloc hp5 _
            have hrW : RS (w5.alloc (cC mc mi mv mn)) w1.heap.size s' := Blk.alloc hr5 _
            have BW := be_alloc B5 (cC mc mi mv mn)
            have hlr5 : w1.heap.size < w5.heap.size := Blk.lt hr5
            clear hp5 hr5 kC5 hbut5 H28' HK4 B5 B4
            go_wp2_with (go_at_call 22; refine (num_calls _ _).mono ?_; rintro _ _ ⟨rfl, rfl⟩)
            have h35 : ∀ V, PS V w.heap.size s' → Calls Try.prog 35 #[.pointer (some ⟨w.heap.size, 0, none⟩)] V fun e w' => e = .returned (.bool s'.pr) ∧ w' = V := fun V h => (proved_calls h).mono fun _ _ h => ⟨h.1, h.2.symm⟩
            have h36 : ∀ V, PS V w.heap.size s' → Calls Try.prog 36 #[.pointer (some ⟨w.heap.size, 0, none⟩)] V fun e w' => e = .returned (.bool s'.tk) ∧ w' = V := fun V h => (taken_calls h).mono fun _ _ h => ⟨h.1, h.2.symm⟩
            have h37 : ∀ V, PS V w.heap.size s' → Calls Try.prog 37 #[.pointer (some ⟨w.heap.size, 0, none⟩)] V fun e w' => e = .returned (.bool s'.fl) ∧ w' = V := fun V h => (failed_calls h).mono fun _ _ h => ⟨h.1, h.2.symm⟩
            obtain ⟨q0, q1, q2, -, -, -, -, -⟩ := RB.cells hrW
            have H35 := Lib.hid h35
            have H36 := Lib.hid h36
            have H37 := Lib.hid h37
            have HW := Lib.hid (And.intro hpW (And.intro hrW BW))
            clear h35 h36 h37 hpW hrW BW
            go_quiet (first | (go_at_call 35; exact Calls.quiet_of_same (H35.out _ (first_drew HW.out.1 _))) | (go_at_call 36; exact Calls.quiet_of_same (H36.out _ (first_drew HW.out.1 _))) | (go_at_call 37; exact Calls.quiet_of_same (H37.out _ (first_drew HW.out.1 _))))
            go_wp2
            go_roundw
            case rel => exact ⟨i + 1, s', by omega, by go_num, by rw [HCH.out], HE.out.1, HE.out.2, first_drew HW.out.1 _, Blk.drewN HW.out.2.1 _, be_drewN HW.out.2.2 _⟩
            case measure => simp [intOf]; omega
          · have hk4' : 4 ≤ kind := by omega
            clear hk2 hk4
            cases right
            · go_wp2_with fail
              obtain ⟨hex, hI, hp, hr⟩ := HX.out
              have hpW0 : PS ((wr.alloc (aO kind S c id' v n false)).alloc (cC c id' v n)) w.heap.size s := Blk.alloc (Blk.alloc hp _) _
              have hrW0 : RS ((wr.alloc (aO kind S c id' v n false)).alloc (cC c id' v n)) w1.heap.size s := Blk.alloc (Blk.alloc hr _) _
              have kM := Blk_new2 wr (aO kind S c id' v n false) (cC c id' v n)
              have BW0 := be_alloc (be_alloc hbel (aO kind S c id' v n false)) (cC c id' v n)
              clear hp hr HX a0 a1 a2 a3 a4 a5 a6 hbel
              have ht := take_any hpW0 hI ⟨c, id', v, n⟩
              have hrt := fun W (h : RS W w1.heap.size s) => rtake_any h hI ⟨c, id', v, n⟩
              have hI' := inv_take hI ⟨c, id', v, n⟩
              have hex' := (take_ex s ⟨c, id', v, n⟩).1.trans hex
              have hc1 := (take_ex s ⟨c, id', v, n⟩).2
              generalize takeF s ⟨c, id', v, n⟩ = F at ht hrt hI' hex' hc1
              obtain ⟨s', om, er⟩ := F
              dsimp only at ht hrt hI' hex' hc1
              have HCH := Lib.hid hc1
              have HE := Lib.hid (And.intro hex' hI')
              have HR0 := Lib.hid (And.intro hrW0 (And.intro kM BW0))
              clear hc1 hex' hI' hex hI hpW0 hrW0 kM BW0
              cases om with
              | none =>
                have H32 : Hid (Calls Try.prog 32 #[.pointer (some ⟨w.heap.size, 0, none⟩), .agg #[.int .i64 c, .int .i64 id', .string v, .string n]] ((wr.alloc (aO kind S c id' v n false)).alloc (cC c id' v n)) fun e w' => e = nil2 er ∧ PS w' w.heap.size s' ∧ But w.heap.size ((wr.alloc (aO kind S c id' v n false)).alloc (cC c id' v n)) w') := Lib.hid ht
                have H33 : Hid (∀ W, RS W w1.heap.size s → Calls Try.prog 33 #[.pointer (some ⟨w1.heap.size, 0, none⟩), .agg #[.int .i64 c, .int .i64 id', .string v, .string n]] W fun e w' => e = nil2 er ∧ RS w' w1.heap.size s' ∧ But w1.heap.size W w') := Lib.hid hrt
                clear ht hrt
                refine H32.out.mono ?_
                rintro _ w4 ⟨rfl, hp4, hbut4⟩
                have B4 := hbut4.below HR0.out.2.2 (Nat.le_refl _) HR0.out.2.2.size
                have hr4 : RS w4 w1.heap.size s := hbut4.blk (by omega) HR0.out.1
                have kM4 := hbut4.blk (by omega) HR0.out.2.1
                obtain ⟨y0, y1, y2, y3⟩ := kM4.cells4
                have hl4 := kM4.lt
                have H33' := Lib.hid (H33.out _ hr4)
                have HP4 := Lib.hid hp4
                clear hp4 hr4 kM4 hbut4 H32 H33 HR0
                go_wp2_with fail
                refine H33'.out.mono ?_
                rintro _ w5 ⟨rfl, hr5, hbut5⟩
                have B5 := hbut5.below B4 (by omega) B4.size
                have hp5 : PS w5 w.heap.size s' := hbut5.blk (by omega) HP4.out
                have HQ5 := Lib.hid (And.intro hp5 (And.intro hr5 B5))
                clear hp5 hr5 hbut5 B4 B5 H33' HP4 y0 y1 y2 y3
                go_wp2_with fail
                refine (same_nil _).use ?_
                rintro _ w6 ⟨rfl, hb6⟩
                have hpW : PS w6 w.heap.size s' := Blk.below HQ5.out.1 hb6
                have hrW : RS w6 w1.heap.size s' := Blk.below HQ5.out.2.1 hb6
                have BW := HQ5.out.2.2.trans (hb6.mono HQ5.out.2.2.size)
                have hlr5 : w1.heap.size < w6.heap.size := Blk.lt hrW
                clear HQ5 hb6
                go_wp2_with (go_at_call 22; refine (num_calls _ _).mono ?_; rintro _ _ ⟨rfl, rfl⟩)
                have h35 : ∀ V, PS V w.heap.size s' → Calls Try.prog 35 #[.pointer (some ⟨w.heap.size, 0, none⟩)] V fun e w' => e = .returned (.bool s'.pr) ∧ w' = V := fun V h => (proved_calls h).mono fun _ _ h => ⟨h.1, h.2.symm⟩
                have h36 : ∀ V, PS V w.heap.size s' → Calls Try.prog 36 #[.pointer (some ⟨w.heap.size, 0, none⟩)] V fun e w' => e = .returned (.bool s'.tk) ∧ w' = V := fun V h => (taken_calls h).mono fun _ _ h => ⟨h.1, h.2.symm⟩
                have h37 : ∀ V, PS V w.heap.size s' → Calls Try.prog 37 #[.pointer (some ⟨w.heap.size, 0, none⟩)] V fun e w' => e = .returned (.bool s'.fl) ∧ w' = V := fun V h => (failed_calls h).mono fun _ _ h => ⟨h.1, h.2.symm⟩
                obtain ⟨q0, q1, q2, -, -, -, -, -⟩ := RB.cells hrW
                have H35 := Lib.hid h35
                have H36 := Lib.hid h36
                have H37 := Lib.hid h37
                have HW := Lib.hid (And.intro hpW (And.intro hrW BW))
                clear h35 h36 h37 hpW hrW BW
                go_quiet (first | (go_at_call 35; exact Calls.quiet_of_same (H35.out _ (first_drew HW.out.1 _))) | (go_at_call 36; exact Calls.quiet_of_same (H36.out _ (first_drew HW.out.1 _))) | (go_at_call 37; exact Calls.quiet_of_same (H37.out _ (first_drew HW.out.1 _))))
                go_wp2
                go_roundw
                case rel => exact ⟨i + 1, s', by omega, by go_num, by rw [HCH.out], HE.out.1, HE.out.2, first_drew HW.out.1 _, Blk.drewN HW.out.2.1 _, be_drewN HW.out.2.2 _⟩
                case measure => simp [intOf]; omega
              | some x =>
                obtain ⟨xc, xi, xv, xn⟩ := x
                have H32 : Hid (Calls Try.prog 32 #[.pointer (some ⟨w.heap.size, 0, none⟩), .agg #[.int .i64 c, .int .i64 id', .string v, .string n]] ((wr.alloc (aO kind S c id' v n false)).alloc (cC c id' v n)) (One2 w.heap.size (fun w' => PS w' w.heap.size s') ((wr.alloc (aO kind S c id' v n false)).alloc (cC c id' v n)) (cC xc xi xv xn))) := Lib.hid ht
                have H33 : Hid (∀ W, RS W w1.heap.size s → Calls Try.prog 33 #[.pointer (some ⟨w1.heap.size, 0, none⟩), .agg #[.int .i64 c, .int .i64 id', .string v, .string n]] W (One2 w1.heap.size (fun w' => RS w' w1.heap.size s') W (cC xc xi xv xn))) := Lib.hid hrt
                clear ht hrt
                refine H32.out.mono ?_
                rintro _ w4 ⟨g, rfl, hg, kg, hp4, hbut4⟩
                have hsz0 := HR0.out.2.2.size
                have hlt0 := HR0.out.2.1.lt
                have B4 := hbut4.below HR0.out.2.2 (Nat.le_refl _) HR0.out.2.2.size
                have hr4 : RS w4 w1.heap.size s := hbut4.blk (by omega) HR0.out.1
                have kM4 := hbut4.blk (by omega) HR0.out.2.1
                obtain ⟨y0, y1, y2, y3⟩ := kM4.cells4
                have hl4 := kM4.lt
                have H33' := Lib.hid (H33.out _ hr4)
                have HP4 := Lib.hid (And.intro hp4 kg)
                have HG := Lib.hid (show w1.heap.size < g by omega)
                clear hp4 hr4 kM4 hbut4 H32 H33 HR0 hg hsz0 hlt0 kg
                go_wp2_with fail
                refine H33'.out.mono ?_
                rintro _ w5 ⟨g2, rfl, hg2, kg2, hr5, hbut5⟩
                have B5 := hbut5.below B4 (by omega) B4.size
                have hp5 : PS w5 w.heap.size s' := hbut5.blk (by omega) HP4.out.1
                have kg5 := hbut5.blk (by have := HG.out; omega) HP4.out.2
                have HS5 := Lib.hid (same_one g g2 xc xi xv xn w5 kg5 kg2)
                have HQ5 := Lib.hid (And.intro hp5 (And.intro hr5 B5))
                clear hp5 hr5 hbut5 B4 B5 H33' HP4 y0 y1 y2 y3 kg5 kg2 hg2 HG
                go_wp2_with fail
                refine HS5.out.use ?_
                rintro _ w6 ⟨rfl, hb6⟩
                have hpW : PS w6 w.heap.size s' := Blk.below HQ5.out.1 hb6
                have hrW : RS w6 w1.heap.size s' := Blk.below HQ5.out.2.1 hb6
                have BW := HQ5.out.2.2.trans (hb6.mono HQ5.out.2.2.size)
                have hlr5 : w1.heap.size < w6.heap.size := Blk.lt hrW
                clear HQ5 hb6 HS5
                go_wp2_with (go_at_call 22; refine (num_calls _ _).mono ?_; rintro _ _ ⟨rfl, rfl⟩)
                have h35 : ∀ V, PS V w.heap.size s' → Calls Try.prog 35 #[.pointer (some ⟨w.heap.size, 0, none⟩)] V fun e w' => e = .returned (.bool s'.pr) ∧ w' = V := fun V h => (proved_calls h).mono fun _ _ h => ⟨h.1, h.2.symm⟩
                have h36 : ∀ V, PS V w.heap.size s' → Calls Try.prog 36 #[.pointer (some ⟨w.heap.size, 0, none⟩)] V fun e w' => e = .returned (.bool s'.tk) ∧ w' = V := fun V h => (taken_calls h).mono fun _ _ h => ⟨h.1, h.2.symm⟩
                have h37 : ∀ V, PS V w.heap.size s' → Calls Try.prog 37 #[.pointer (some ⟨w.heap.size, 0, none⟩)] V fun e w' => e = .returned (.bool s'.fl) ∧ w' = V := fun V h => (failed_calls h).mono fun _ _ h => ⟨h.1, h.2.symm⟩
                obtain ⟨q0, q1, q2, -, -, -, -, -⟩ := RB.cells hrW
                have H35 := Lib.hid h35
                have H36 := Lib.hid h36
                have H37 := Lib.hid h37
                have HW := Lib.hid (And.intro hpW (And.intro hrW BW))
                clear h35 h36 h37 hpW hrW BW
                go_quiet (first | (go_at_call 35; exact Calls.quiet_of_same (H35.out _ (first_drew HW.out.1 _))) | (go_at_call 36; exact Calls.quiet_of_same (H36.out _ (first_drew HW.out.1 _))) | (go_at_call 37; exact Calls.quiet_of_same (H37.out _ (first_drew HW.out.1 _))))
                go_wp2
                go_roundw
                case rel => exact ⟨i + 1, s', by omega, by go_num, by rw [HCH.out], HE.out.1, HE.out.2, first_drew HW.out.1 _, Blk.drewN HW.out.2.1 _, be_drewN HW.out.2.2 _⟩
                case measure => simp [intOf]; omega
            · go_wp2_with fail
              obtain ⟨hex, hI, hp, hr⟩ := HX.out
              obtain ⟨d, hd⟩ : ∃ d, d = dig 1 ex s.ch := ⟨_, rfl⟩
              have hrc : ∀ w, RcS 1 ex s.ch d w := by
                rw [hd]
                exact fun w => dig_rc 1 ex s.ch (by rw [← hex]; have := hI.ex; omega) (by have := hI.ch; omega) w
              have hp1 : PS ((wr.alloc (aO kind S c id' v n true)).alloc (cC c id' v n)) w.heap.size s := Blk.alloc (Blk.alloc hp _) _
              have hr1 : RS ((wr.alloc (aO kind S c id' v n true)).alloc (cC c id' v n)) w1.heap.size s := Blk.alloc (Blk.alloc hr _) _
              have kM1 := Blk_new2 wr (aO kind S c id' v n true) (cC c id' v n)
              have B1' := be_alloc (be_alloc hbel (aO kind S c id' v n true)) (cC c id' v n)
              have HY := Lib.hid (And.intro hex (And.intro hI (And.intro hp1 (And.intro hr1 (And.intro kM1 B1')))))
              clear hex hI hp hr HX a0 a1 a2 a3 a4 a5 a6 hbel hd hp1 hr1 kM1 B1'
              refine (hrc _).use ?_
              rintro _ w3 ⟨rfl, hb3⟩
              obtain ⟨hex, hI, hp1, hr1, kM1, B1'⟩ := HY.out
              have hp3 : PS w3 w.heap.size s := Blk.below hp1 hb3
              have hr3 : RS w3 w1.heap.size s := Blk.below hr1 hb3
              have kM3 := kM1.below hb3
              have B3 := B1'.trans (hb3.mono B1'.size)
              have hl3 : wr.heap.size + 1 < w3.heap.size := kM3.lt
              obtain ⟨x0, x1, x2, x3⟩ := kM3.cells4
              have f0 := kM3.frozen 0
              have f1 := kM3.frozen 1
              have f2 := kM3.frozen 2
              have f3 := kM3.frozen 3
              have HZ := Lib.hid (And.intro hex (And.intro hI (And.intro hp3 (And.intro hr3 (And.intro kM3 B3)))))
              clear hex hI hp1 hr1 kM1 B1' hp3 hr3 kM3 B3 hb3 HY hrc
              go_wp2_with fail
              obtain ⟨hex, hI, hp3, hr3, kM3, B3⟩ := HZ.out
              have hzz := B3.size
              have hpW0 : PS ((((w3.setCell ⟨wr.heap.size + 1, 0, none⟩ (.int .i64 2)).setCell ⟨wr.heap.size + 1, 1, none⟩ (.int .i64 1)).setCell ⟨wr.heap.size + 1, 2, none⟩ (.string d)).setCell ⟨wr.heap.size + 1, 3, none⟩ (.string sN)) w.heap.size s := (((Blk.other hp3 (by omega)).other (by omega)).other (by omega)).other (by omega)
              have hrW0 : RS ((((w3.setCell ⟨wr.heap.size + 1, 0, none⟩ (.int .i64 2)).setCell ⟨wr.heap.size + 1, 1, none⟩ (.int .i64 1)).setCell ⟨wr.heap.size + 1, 2, none⟩ (.string d)).setCell ⟨wr.heap.size + 1, 3, none⟩ (.string sN)) w1.heap.size s := (((Blk.other hr3 (by omega)).other (by omega)).other (by omega)).other (by omega)
              have kM : Blk ((((w3.setCell ⟨wr.heap.size + 1, 0, none⟩ (.int .i64 2)).setCell ⟨wr.heap.size + 1, 1, none⟩ (.int .i64 1)).setCell ⟨wr.heap.size + 1, 2, none⟩ (.string d)).setCell ⟨wr.heap.size + 1, 3, none⟩ (.string sN)) (wr.heap.size + 1) (cC 2 1 d sN) := (((kM3.set (i := 0) (v := .int .i64 2)).set (i := 1) (v := .int .i64 1)).set (i := 2) (v := .string d)).set (i := 3) (v := .string sN)
              have BW0 : Below w.heap.size w ((((w3.setCell ⟨wr.heap.size + 1, 0, none⟩ (.int .i64 2)).setCell ⟨wr.heap.size + 1, 1, none⟩ (.int .i64 1)).setCell ⟨wr.heap.size + 1, 2, none⟩ (.string d)).setCell ⟨wr.heap.size + 1, 3, none⟩ (.string sN)) := be_set (be_set (be_set (be_set B3 (by omega)) (by omega)) (by omega)) (by omega)
              clear hp3 hr3 kM3 B3 HZ x0 x1 x2 x3 f0 f1 f2 f3 hzz
              have ht := take_any hpW0 hI ⟨2, 1, d, sN⟩
              have hrt := fun W (h : RS W w1.heap.size s) => rtake_any h hI ⟨2, 1, d, sN⟩
              have hI' := inv_take hI ⟨2, 1, d, sN⟩
              have hex' := (take_ex s ⟨2, 1, d, sN⟩).1.trans hex
              have hc1 := (take_ex s ⟨2, 1, d, sN⟩).2
              generalize takeF s ⟨2, 1, d, sN⟩ = F at ht hrt hI' hex' hc1
              obtain ⟨s', om, er⟩ := F
              dsimp only at ht hrt hI' hex' hc1
              have HCH := Lib.hid hc1
              have HE := Lib.hid (And.intro hex' hI')
              have HR0 := Lib.hid (And.intro hrW0 (And.intro kM BW0))
              clear hc1 hex' hI' hex hI hpW0 hrW0 kM BW0
              cases om with
              | none =>
                have H32 : Hid (Calls Try.prog 32 #[.pointer (some ⟨w.heap.size, 0, none⟩), .agg #[.int .i64 2, .int .i64 1, .string d, .string sN]] ((((w3.setCell ⟨wr.heap.size + 1, 0, none⟩ (.int .i64 2)).setCell ⟨wr.heap.size + 1, 1, none⟩ (.int .i64 1)).setCell ⟨wr.heap.size + 1, 2, none⟩ (.string d)).setCell ⟨wr.heap.size + 1, 3, none⟩ (.string sN)) fun e w' => e = nil2 er ∧ PS w' w.heap.size s' ∧ But w.heap.size ((((w3.setCell ⟨wr.heap.size + 1, 0, none⟩ (.int .i64 2)).setCell ⟨wr.heap.size + 1, 1, none⟩ (.int .i64 1)).setCell ⟨wr.heap.size + 1, 2, none⟩ (.string d)).setCell ⟨wr.heap.size + 1, 3, none⟩ (.string sN)) w') := Lib.hid ht
                have H33 : Hid (∀ W, RS W w1.heap.size s → Calls Try.prog 33 #[.pointer (some ⟨w1.heap.size, 0, none⟩), .agg #[.int .i64 2, .int .i64 1, .string d, .string sN]] W fun e w' => e = nil2 er ∧ RS w' w1.heap.size s' ∧ But w1.heap.size W w') := Lib.hid hrt
                clear ht hrt
                refine H32.out.mono ?_
                rintro _ w4 ⟨rfl, hp4, hbut4⟩
                have B4 := hbut4.below HR0.out.2.2 (Nat.le_refl _) HR0.out.2.2.size
                have hr4 : RS w4 w1.heap.size s := hbut4.blk (by omega) HR0.out.1
                have kM4 := hbut4.blk (by omega) HR0.out.2.1
                obtain ⟨y0, y1, y2, y3⟩ := kM4.cells4
                have hl4 := kM4.lt
                have H33' := Lib.hid (H33.out _ hr4)
                have HP4 := Lib.hid hp4
                clear hp4 hr4 kM4 hbut4 H32 H33 HR0
                go_wp2_with fail
                refine H33'.out.mono ?_
                rintro _ w5 ⟨rfl, hr5, hbut5⟩
                have B5 := hbut5.below B4 (by omega) B4.size
                have hp5 : PS w5 w.heap.size s' := hbut5.blk (by omega) HP4.out
                have HQ5 := Lib.hid (And.intro hp5 (And.intro hr5 B5))
                clear hp5 hr5 hbut5 B4 B5 H33' HP4 y0 y1 y2 y3
                go_wp2_with fail
                refine (same_nil _).use ?_
                rintro _ w6 ⟨rfl, hb6⟩
                have hpW : PS w6 w.heap.size s' := Blk.below HQ5.out.1 hb6
                have hrW : RS w6 w1.heap.size s' := Blk.below HQ5.out.2.1 hb6
                have BW := HQ5.out.2.2.trans (hb6.mono HQ5.out.2.2.size)
                have hlr5 : w1.heap.size < w6.heap.size := Blk.lt hrW
                clear HQ5 hb6
                go_wp2_with (go_at_call 22; refine (num_calls _ _).mono ?_; rintro _ _ ⟨rfl, rfl⟩)
                have h35 : ∀ V, PS V w.heap.size s' → Calls Try.prog 35 #[.pointer (some ⟨w.heap.size, 0, none⟩)] V fun e w' => e = .returned (.bool s'.pr) ∧ w' = V := fun V h => (proved_calls h).mono fun _ _ h => ⟨h.1, h.2.symm⟩
                have h36 : ∀ V, PS V w.heap.size s' → Calls Try.prog 36 #[.pointer (some ⟨w.heap.size, 0, none⟩)] V fun e w' => e = .returned (.bool s'.tk) ∧ w' = V := fun V h => (taken_calls h).mono fun _ _ h => ⟨h.1, h.2.symm⟩
                have h37 : ∀ V, PS V w.heap.size s' → Calls Try.prog 37 #[.pointer (some ⟨w.heap.size, 0, none⟩)] V fun e w' => e = .returned (.bool s'.fl) ∧ w' = V := fun V h => (failed_calls h).mono fun _ _ h => ⟨h.1, h.2.symm⟩
                obtain ⟨q0, q1, q2, -, -, -, -, -⟩ := RB.cells hrW
                have H35 := Lib.hid h35
                have H36 := Lib.hid h36
                have H37 := Lib.hid h37
                have HW := Lib.hid (And.intro hpW (And.intro hrW BW))
                clear h35 h36 h37 hpW hrW BW
                go_quiet (first | (go_at_call 35; exact Calls.quiet_of_same (H35.out _ (first_drew HW.out.1 _))) | (go_at_call 36; exact Calls.quiet_of_same (H36.out _ (first_drew HW.out.1 _))) | (go_at_call 37; exact Calls.quiet_of_same (H37.out _ (first_drew HW.out.1 _))))
                go_wp2
                go_roundw
                case rel => exact ⟨i + 1, s', by omega, by go_num, by rw [HCH.out], HE.out.1, HE.out.2, first_drew HW.out.1 _, Blk.drewN HW.out.2.1 _, be_drewN HW.out.2.2 _⟩
                case measure => simp [intOf]; omega
              | some x =>
                obtain ⟨xc, xi, xv, xn⟩ := x
                have H32 : Hid (Calls Try.prog 32 #[.pointer (some ⟨w.heap.size, 0, none⟩), .agg #[.int .i64 2, .int .i64 1, .string d, .string sN]] ((((w3.setCell ⟨wr.heap.size + 1, 0, none⟩ (.int .i64 2)).setCell ⟨wr.heap.size + 1, 1, none⟩ (.int .i64 1)).setCell ⟨wr.heap.size + 1, 2, none⟩ (.string d)).setCell ⟨wr.heap.size + 1, 3, none⟩ (.string sN)) (One2 w.heap.size (fun w' => PS w' w.heap.size s') ((((w3.setCell ⟨wr.heap.size + 1, 0, none⟩ (.int .i64 2)).setCell ⟨wr.heap.size + 1, 1, none⟩ (.int .i64 1)).setCell ⟨wr.heap.size + 1, 2, none⟩ (.string d)).setCell ⟨wr.heap.size + 1, 3, none⟩ (.string sN)) (cC xc xi xv xn))) := Lib.hid ht
                have H33 : Hid (∀ W, RS W w1.heap.size s → Calls Try.prog 33 #[.pointer (some ⟨w1.heap.size, 0, none⟩), .agg #[.int .i64 2, .int .i64 1, .string d, .string sN]] W (One2 w1.heap.size (fun w' => RS w' w1.heap.size s') W (cC xc xi xv xn))) := Lib.hid hrt
                clear ht hrt
                refine H32.out.mono ?_
                rintro _ w4 ⟨g, rfl, hg, kg, hp4, hbut4⟩
                have hsz0 := HR0.out.2.2.size
                have hlt0 := HR0.out.2.1.lt
                have B4 := hbut4.below HR0.out.2.2 (Nat.le_refl _) HR0.out.2.2.size
                have hr4 : RS w4 w1.heap.size s := hbut4.blk (by omega) HR0.out.1
                have kM4 := hbut4.blk (by omega) HR0.out.2.1
                obtain ⟨y0, y1, y2, y3⟩ := kM4.cells4
                have hl4 := kM4.lt
                have H33' := Lib.hid (H33.out _ hr4)
                have HP4 := Lib.hid (And.intro hp4 kg)
                have HG := Lib.hid (show w1.heap.size < g by omega)
                clear hp4 hr4 kM4 hbut4 H32 H33 HR0 hg hsz0 hlt0 kg
                go_wp2_with fail
                refine H33'.out.mono ?_
                rintro _ w5 ⟨g2, rfl, hg2, kg2, hr5, hbut5⟩
                have B5 := hbut5.below B4 (by omega) B4.size
                have hp5 : PS w5 w.heap.size s' := hbut5.blk (by omega) HP4.out.1
                have kg5 := hbut5.blk (by have := HG.out; omega) HP4.out.2
                have HS5 := Lib.hid (same_one g g2 xc xi xv xn w5 kg5 kg2)
                have HQ5 := Lib.hid (And.intro hp5 (And.intro hr5 B5))
                clear hp5 hr5 hbut5 B4 B5 H33' HP4 y0 y1 y2 y3 kg5 kg2 hg2 HG
                go_wp2_with fail
                refine HS5.out.use ?_
                rintro _ w6 ⟨rfl, hb6⟩
                have hpW : PS w6 w.heap.size s' := Blk.below HQ5.out.1 hb6
                have hrW : RS w6 w1.heap.size s' := Blk.below HQ5.out.2.1 hb6
                have BW := HQ5.out.2.2.trans (hb6.mono HQ5.out.2.2.size)
                have hlr5 : w1.heap.size < w6.heap.size := Blk.lt hrW
                clear HQ5 hb6 HS5
                go_wp2_with (go_at_call 22; refine (num_calls _ _).mono ?_; rintro _ _ ⟨rfl, rfl⟩)
                have h35 : ∀ V, PS V w.heap.size s' → Calls Try.prog 35 #[.pointer (some ⟨w.heap.size, 0, none⟩)] V fun e w' => e = .returned (.bool s'.pr) ∧ w' = V := fun V h => (proved_calls h).mono fun _ _ h => ⟨h.1, h.2.symm⟩
                have h36 : ∀ V, PS V w.heap.size s' → Calls Try.prog 36 #[.pointer (some ⟨w.heap.size, 0, none⟩)] V fun e w' => e = .returned (.bool s'.tk) ∧ w' = V := fun V h => (taken_calls h).mono fun _ _ h => ⟨h.1, h.2.symm⟩
                have h37 : ∀ V, PS V w.heap.size s' → Calls Try.prog 37 #[.pointer (some ⟨w.heap.size, 0, none⟩)] V fun e w' => e = .returned (.bool s'.fl) ∧ w' = V := fun V h => (failed_calls h).mono fun _ _ h => ⟨h.1, h.2.symm⟩
                obtain ⟨q0, q1, q2, -, -, -, -, -⟩ := RB.cells hrW
                have H35 := Lib.hid h35
                have H36 := Lib.hid h36
                have H37 := Lib.hid h37
                have HW := Lib.hid (And.intro hpW (And.intro hrW BW))
                clear h35 h36 h37 hpW hrW BW
                go_quiet (first | (go_at_call 35; exact Calls.quiet_of_same (H35.out _ (first_drew HW.out.1 _))) | (go_at_call 36; exact Calls.quiet_of_same (H36.out _ (first_drew HW.out.1 _))) | (go_at_call 37; exact Calls.quiet_of_same (H37.out _ (first_drew HW.out.1 _))))
                go_wp2
                go_roundw
                case rel => exact ⟨i + 1, s', by omega, by go_num, by rw [HCH.out], HE.out.1, HE.out.2, first_drew HW.out.1 _, Blk.drewN HW.out.2.1 _, be_drewN HW.out.2.2 _⟩
                case measure => simp [intOf]; omega
      · have h60' : (60 : Int) ≤ i := by omega
        have hL' : (i : Int) < L := by omega
        clear hp hr h60
        go_wp2_with (go_at_call 26; refine (awake16_calls _).mono ?_; rintro _ w9 ⟨rfl, hb9⟩)
        go_ret
        exact ⟨rfl, hbel.trans (hb9.mono hbel.size)⟩
    · have hL' : (L : Int) ≤ i := by omega
      have hL2 : decide (i < L) = false := decide_eq_false hL
      clear hp hr
      go_wp2_with (go_at_call 26; refine (awake16_calls _).mono ?_; rintro _ w9 ⟨rfl, hb9⟩)
      go_ret
      exact ⟨rfl, hbel.trans (hb9.mono hbel.size)⟩
set_option maxRecDepth 100000 in
theorem acts_no (nm sc ex : ByteArray) (tries : Int) (A : Option Addr) (L cap : Nat) (w : World) (hmay : ¬ mayNew nm sc ex tries) :
    Calls Try.prog 6 #[.string nm, .string sc, .string ex, .int .i64 tries, .slice A L cap] w fun e w' => e = .returned (.bool true) ∧ Below w.heap.size w w' := by
  have h1 := Lib.hid (fun w => new_no nm sc ex tries w hmay)
  have h2 := Lib.hid (fun w => newProof_no nm sc ex tries w hmay)
  clear hmay
  go_enter Try.func6, Try.ntmps6
  go_wp2_with fail
  refine Calls.mono (h1.out _) ?_
  rintro _ _ ⟨rfl, rfl⟩
  go_wp2_with fail
  refine Calls.mono (h2.out _) ?_
  rintro _ _ ⟨rfl, rfl⟩
  go_wp2_with (first | (go_at_call 22; refine (num_calls _ _).mono ?_; rintro _ _ ⟨rfl, rfl⟩) | (go_at_call 26; refine (awake16_calls _).mono ?_; rintro _ w9 ⟨rfl, hb9⟩))
  go_ret
  exact ⟨rfl, hb9⟩
theorem acts_calls (nm sc ex : ByteArray) (tries : Int) (A : Option Addr) (L cap : Nat) (acts : Nat → ActV) (w : World) (hA : ∀ i, i < L → ∃ b o, A = some ⟨b, o, none⟩ ∧ ActAt w b (o + i * 7) (acts i)) :
    Calls Try.prog 6 #[.string nm, .string sc, .string ex, .int .i64 tries, .slice A L cap] w fun e w' => e = .returned (.bool true) ∧ Below w.heap.size w w' := by
  by_cases h : mayNew nm sc ex tries
  · exact acts_walk nm sc ex tries A L cap acts w h hA
  · exact acts_no nm sc ex tries A L cap w h
end Go.Proofs.Ytoldjadadgokeaa.Ch16
