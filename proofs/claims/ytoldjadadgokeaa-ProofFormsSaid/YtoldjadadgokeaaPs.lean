/- Start and Again, the program's and the reference's. No condition but that the proof lies in a block of its own. -/
import Derived.Test.YtoldjadadgokeaaPa
namespace Go.Proofs.Ytoldjadadgokeaa.Ch16
open Go.RowKit Go.Proofs.Ytoldjadadgokeaa.Bytes Go.Proofs.Ytoldjadadgokeaa.Md

/-- No message, and an error. -/
abbrev noC (e : Int) : Value := .tuple #[.agg #[.int .i64 0, .int .i64 0, .string ⟨#[]⟩, .string ⟨#[]⟩], .int .i64 e]
/-- The challenge. -/
abbrev askC (ch nm : ByteArray) : Value := .tuple #[.agg #[.int .i64 1, .int .i64 1, .string ch, .string nm], .int .i64 0]
section
variable {b : Nat} {ex ch nm sc : ByteArray} {lf : Int} {st pr tk fl : Bool} {w : World}
set_option maxRecDepth 100000 in
theorem start_len (c : ByteArray) (hc : (c.size : Int) < 1 ∨ 255 < (c.size : Int)) :
    Calls Try.prog 27 #[.pointer (some ⟨b, 0, none⟩), .string c] w fun e w' => e = .returned (noC 1600) ∧ Below w.heap.size w w' := by
  rcases hc with hc | hc
  · go_enter Try.func27, Try.ntmps27
    go_wp2
    refine bodyPost_ret (v := noC 1600) (by simp [results, Try.results27, go_sem]; try rfl) rfl ⟨rfl, ?_⟩
    repeat (with_reducible first | exact Below.refl _ _ | apply be_alloc | apply be_drewN | apply be_drew | refine be_set ?_ (by omega))
  · have hc' : 1 ≤ (c.size : Int) := by omega
    go_enter Try.func27, Try.ntmps27
    go_wp2
    refine bodyPost_ret (v := noC 1600) (by simp [results, Try.results27, go_sem]; try rfl) rfl ⟨rfl, ?_⟩
    repeat (with_reducible first | exact Below.refl _ _ | apply be_alloc | apply be_drewN | apply be_drew | refine be_set ?_ (by omega))
set_option maxRecDepth 100000 in
theorem start_never (h : PB w b ex ch nm sc lf st pr tk fl) (c : ByteArray) (hc : 1 ≤ (c.size : Int)) (hc' : (c.size : Int) ≤ 255) (hs : (st || fl) = true) :
    Calls Try.prog 27 #[.pointer (some ⟨b, 0, none⟩), .string c] w fun e w' => e = .returned (noC 1601) ∧ Below w.heap.size w w' := by
  obtain ⟨c0, c1, c2, c3, c4, c5, c6, c7, c8⟩ := h.cells
  have hlt := Blk.lt h
  clear h
  cases st
  · obtain rfl : fl = true := hs
    go_enter Try.func27, Try.ntmps27
    go_wp2
    refine bodyPost_ret (v := noC 1601) (by simp [results, Try.results27, go_sem]; try rfl) rfl ⟨rfl, ?_⟩
    repeat (with_reducible first | exact Below.refl _ _ | apply be_alloc | apply be_drewN | apply be_drew | refine be_set ?_ (by omega))
  · go_enter Try.func27, Try.ntmps27
    go_wp2
    refine bodyPost_ret (v := noC 1601) (by simp [results, Try.results27, go_sem]; try rfl) rfl ⟨rfl, ?_⟩
    repeat (with_reducible first | exact Below.refl _ _ | apply be_alloc | apply be_drewN | apply be_drew | refine be_set ?_ (by omega))
set_option maxRecDepth 100000 in
theorem start_ok (h : PB w b ex ch nm sc lf false pr tk false) (c : ByteArray) (hc : 1 ≤ (c.size : Int)) (hc' : (c.size : Int) ≤ 255) :
    Calls Try.prog 27 #[.pointer (some ⟨b, 0, none⟩), .string c] w fun e w' => e = .returned (askC c nm) ∧ PB w' b ex c nm sc lf true pr tk false ∧ But b w w' := by
  obtain ⟨c0, c1, c2, c3, c4, c5, c6, c7, c8⟩ := h.cells
  obtain ⟨f0, f1, f2, f3, f4, f5, f6, f7, f8⟩ := h.free
  have hlt := Blk.lt h
  have H := Lib.hid h
  clear h
  go_enter Try.func27, Try.ntmps27
  go_wp2_with fail
  have k0 := ((Blk.set H.out (i := 3) (v := .bool true)).set (i := 1) (v := .string c)).alloc (.cells #[.int .i64 0, .int .i64 0, .string ⟨#[]⟩, .string ⟨#[]⟩] 23)
  have r0 := Blk.new ((w.setCell ⟨b, 3, none⟩ (.bool true)).setCell ⟨b, 1, none⟩ (.string c)) (.cells #[.int .i64 0, .int .i64 0, .string ⟨#[]⟩, .string ⟨#[]⟩] 23)
  rw [show ((w.setCell ⟨b, 3, none⟩ (.bool true)).setCell ⟨b, 1, none⟩ (.string c)).heap.size = w.heap.size by simp] at r0
  have b0 := (((But.refl b w).set (g := b) (j := 3) (v := .bool true) (Or.inl rfl)).set (g := b) (j := 1) (v := .string c) (Or.inl rfl)).alloc (.cells #[.int .i64 0, .int .i64 0, .string ⟨#[]⟩, .string ⟨#[]⟩] 23)
  refine (ask_calls (ex := ex) (ch := c) (nm := nm) (sc := sc) (lf := lf) (st := true) (pr := pr) (tk := tk) (fl := false) k0).mono ?_
  rintro _ w2 ⟨rfl, hb⟩
  have k1 := k0.below hb
  have r1 := r0.below hb
  have b1 := b0.next hb
  clear k0 r0 b0 hb c0 c1 c2 c3 c4 c5 c6 c7 c8 f0 f1 f2 f3 f4 f5 f6 f7 f8
  obtain ⟨x0, x1, x2, x3⟩ := r1.cells4
  have y0 := r1.frozen 0
  have y1 := r1.frozen 1
  have y2 := r1.frozen 2
  have y3 := r1.frozen 3
  have hz := r1.lt
  go_wp2_with fail
  obtain ⟨z0, z1, z2, z3⟩ := ((((r1.set (i := 0) (v := .int .i64 1)).set (i := 1) (v := .int .i64 1)).set (i := 2) (v := .string c)).set (i := 3) (v := .string nm)).cells4
  refine bodyPost_ret (v := askC c nm) (by simp [results, Try.results27, go_sem, z0, z1, z2, z3]) rfl ⟨rfl, ?_, ?_⟩
  · exact (((Blk.other k1 (by omega)).other (by omega)).other (by omega)).other (by omega)
  · exact (((b1.set (Or.inr (by omega))).set (Or.inr (by omega))).set (Or.inr (by omega))).set (Or.inr (by omega))
set_option maxRecDepth 100000 in
theorem rstart_len (c : ByteArray) (hc : (c.size : Int) < 1 ∨ 255 < (c.size : Int)) :
    Calls Try.prog 28 #[.pointer (some ⟨b, 0, none⟩), .string c] w fun e w' => e = .returned (noC 1600) ∧ Below w.heap.size w w' := by
  rcases hc with hc | hc
  ·
    go_enter Try.func28, Try.ntmps28
    go_wp2
    refine bodyPost_ret (v := noC 1600) (by simp [results, Try.results28, go_sem]; try rfl) rfl ⟨rfl, ?_⟩
    repeat (with_reducible first | exact Below.refl _ _ | apply be_alloc | apply be_drewN | apply be_drew | refine be_set ?_ (by omega))
  · have hc' : 1 ≤ (c.size : Int) := by omega
    go_enter Try.func28, Try.ntmps28
    go_wp2
    refine bodyPost_ret (v := noC 1600) (by simp [results, Try.results28, go_sem]; try rfl) rfl ⟨rfl, ?_⟩
    repeat (with_reducible first | exact Below.refl _ _ | apply be_alloc | apply be_drewN | apply be_drew | refine be_set ?_ (by omega))
set_option maxRecDepth 100000 in
theorem rstart_begun (h : RB w b ex ch nm sc lf pr tk fl) (c : ByteArray) (hc : 1 ≤ (c.size : Int)) (hc' : (c.size : Int) ≤ 255) (hs : ch.toList.isEmpty = false) :
    Calls Try.prog 28 #[.pointer (some ⟨b, 0, none⟩), .string c] w fun e w' => e = .returned (noC 1601) ∧ Below w.heap.size w w' := by
  obtain ⟨c0, c1, c2, c3, c4, c5, c6, c7⟩ := h.cells
  have hlt := Blk.lt h
  clear h
  go_enter Try.func28, Try.ntmps28
  go_wp2
  refine bodyPost_ret (v := noC 1601) (by simp [results, Try.results28, go_sem]; try rfl) rfl ⟨rfl, ?_⟩
  repeat (with_reducible first | exact Below.refl _ _ | apply be_alloc | apply be_drewN | apply be_drew | refine be_set ?_ (by omega))
set_option maxRecDepth 100000 in
theorem rstart_failed (h : RB w b ex ⟨#[]⟩ nm sc lf pr tk true) (c : ByteArray) (hc : 1 ≤ (c.size : Int)) (hc' : (c.size : Int) ≤ 255) :
    Calls Try.prog 28 #[.pointer (some ⟨b, 0, none⟩), .string c] w fun e w' => e = .returned (noC 1601) ∧ Below w.heap.size w w' := by
  obtain ⟨c0, c1, c2, c3, c4, c5, c6, c7⟩ := h.cells
  have hlt := Blk.lt h
  clear h
  go_enter Try.func28, Try.ntmps28
  go_wp2
  refine bodyPost_ret (v := noC 1601) (by simp [results, Try.results28, go_sem]; try rfl) rfl ⟨rfl, ?_⟩
  repeat (with_reducible first | exact Below.refl _ _ | apply be_alloc | apply be_drewN | apply be_drew | refine be_set ?_ (by omega))
set_option maxRecDepth 100000 in
theorem rstart_ok (h : RB w b ex ⟨#[]⟩ nm sc lf pr tk false) (c : ByteArray) (hc : 1 ≤ (c.size : Int)) (hc' : (c.size : Int) ≤ 255) :
    Calls Try.prog 28 #[.pointer (some ⟨b, 0, none⟩), .string c] w fun e w' => e = .returned (askC c nm) ∧ RB w' b ex c nm sc lf pr tk false ∧ But b w w' := by
  obtain ⟨c0, c1, c2, c3, c4, c5, c6, c7⟩ := h.cells
  obtain ⟨f0, f1, f2, f3, f4, f5, f6, f7⟩ := h.free
  have hlt := Blk.lt h
  have H := Lib.hid h
  clear h
  go_enter Try.func28, Try.ntmps28
  go_wp2_with fail
  have k0 := (Blk.set H.out (i := 6) (v := .string c)).alloc (.cells #[.int .i64 0, .int .i64 0, .string ⟨#[]⟩, .string ⟨#[]⟩] 23)
  have r0 := Blk.new (w.setCell ⟨b, 6, none⟩ (.string c)) (.cells #[.int .i64 0, .int .i64 0, .string ⟨#[]⟩, .string ⟨#[]⟩] 23)
  rw [show (w.setCell ⟨b, 6, none⟩ (.string c)).heap.size = w.heap.size by simp] at r0
  have b0 := ((But.refl b w).set (g := b) (j := 6) (v := .string c) (Or.inl rfl)).alloc (.cells #[.int .i64 0, .int .i64 0, .string ⟨#[]⟩, .string ⟨#[]⟩] 23)
  refine (asks_calls (ex := ex) (ch := c) (nm := nm) (sc := sc) (lf := lf) (pr := pr) (tk := tk) (fl := false) k0).mono ?_
  rintro _ w2 ⟨rfl, hb⟩
  have k1 := k0.below hb
  have r1 := r0.below hb
  have b1 := b0.next hb
  clear k0 r0 b0 hb c0 c1 c2 c3 c4 c5 c6 c7 f0 f1 f2 f3 f4 f5 f6 f7
  obtain ⟨x0, x1, x2, x3⟩ := r1.cells4
  have y0 := r1.frozen 0
  have y1 := r1.frozen 1
  have y2 := r1.frozen 2
  have y3 := r1.frozen 3
  have hz := r1.lt
  go_wp2_with fail
  obtain ⟨z0, z1, z2, z3⟩ := ((((r1.set (i := 0) (v := .int .i64 1)).set (i := 1) (v := .int .i64 1)).set (i := 2) (v := .string c)).set (i := 3) (v := .string nm)).cells4
  refine bodyPost_ret (v := askC c nm) (by simp [results, Try.results28, go_sem, z0, z1, z2, z3]) rfl ⟨rfl, ?_, ?_⟩
  · exact (((Blk.other k1 (by omega)).other (by omega)).other (by omega)).other (by omega)
  · exact (((b1.set (Or.inr (by omega))).set (Or.inr (by omega))).set (Or.inr (by omega))).set (Or.inr (by omega))
set_option maxRecDepth 100000 in
theorem again_never (h : PB w b ex ch nm sc lf st pr tk fl) (hs : (!st || pr || fl) = true) :
    Calls Try.prog 29 #[.pointer (some ⟨b, 0, none⟩)] w fun e w' => e = .returned (noC 1601) ∧ Below w.heap.size w w' := by
  obtain ⟨c0, c1, c2, c3, c4, c5, c6, c7, c8⟩ := h.cells
  have hlt := Blk.lt h
  clear h
  cases st
  · clear hs
    go_enter Try.func29, Try.ntmps29
    go_wp2
    refine bodyPost_ret (v := noC 1601) (by simp [results, Try.results29, go_sem]; try rfl) rfl ⟨rfl, ?_⟩
    repeat (with_reducible first | exact Below.refl _ _ | apply be_alloc | apply be_drewN | apply be_drew | refine be_set ?_ (by omega))
  cases pr
  · obtain rfl : fl = true := hs
    go_enter Try.func29, Try.ntmps29
    go_wp2
    refine bodyPost_ret (v := noC 1601) (by simp [results, Try.results29, go_sem]; try rfl) rfl ⟨rfl, ?_⟩
    repeat (with_reducible first | exact Below.refl _ _ | apply be_alloc | apply be_drewN | apply be_drew | refine be_set ?_ (by omega))
  ·
    go_enter Try.func29, Try.ntmps29
    go_wp2
    refine bodyPost_ret (v := noC 1601) (by simp [results, Try.results29, go_sem]; try rfl) rfl ⟨rfl, ?_⟩
    repeat (with_reducible first | exact Below.refl _ _ | apply be_alloc | apply be_drewN | apply be_drew | refine be_set ?_ (by omega))
set_option maxRecDepth 100000 in
theorem ragain_none (h : RB w b ex ⟨#[]⟩ nm sc lf pr tk fl) :
    Calls Try.prog 30 #[.pointer (some ⟨b, 0, none⟩)] w fun e w' => e = .returned (noC 1601) ∧ Below w.heap.size w w' := by
  obtain ⟨c0, c1, c2, c3, c4, c5, c6, c7⟩ := h.cells
  have hlt := Blk.lt h
  clear h
  go_enter Try.func30, Try.ntmps30
  go_wp2
  refine bodyPost_ret (v := noC 1601) (by simp [results, Try.results30, go_sem]; try rfl) rfl ⟨rfl, ?_⟩
  repeat (with_reducible first | exact Below.refl _ _ | apply be_alloc | apply be_drewN | apply be_drew | refine be_set ?_ (by omega))
set_option maxRecDepth 100000 in
theorem ragain_over (h : RB w b ex ch nm sc lf pr tk fl) (hc : ch.toList.isEmpty = false) (hs : (pr || fl) = true) :
    Calls Try.prog 30 #[.pointer (some ⟨b, 0, none⟩)] w fun e w' => e = .returned (noC 1601) ∧ Below w.heap.size w w' := by
  obtain ⟨c0, c1, c2, c3, c4, c5, c6, c7⟩ := h.cells
  have hlt := Blk.lt h
  clear h
  cases pr
  · obtain rfl : fl = true := hs
    go_enter Try.func30, Try.ntmps30
    go_wp2
    refine bodyPost_ret (v := noC 1601) (by simp [results, Try.results30, go_sem]; try rfl) rfl ⟨rfl, ?_⟩
    repeat (with_reducible first | exact Below.refl _ _ | apply be_alloc | apply be_drewN | apply be_drew | refine be_set ?_ (by omega))
  ·
    go_enter Try.func30, Try.ntmps30
    go_wp2
    refine bodyPost_ret (v := noC 1601) (by simp [results, Try.results30, go_sem]; try rfl) rfl ⟨rfl, ?_⟩
    repeat (with_reducible first | exact Below.refl _ _ | apply be_alloc | apply be_drewN | apply be_drew | refine be_set ?_ (by omega))
set_option maxRecDepth 100000 in
theorem again_ok (h : PB w b ex ch nm sc lf true false tk false) (h1 : 2 ≤ lf) (h2 : lf ≤ 10) :
    Calls Try.prog 29 #[.pointer (some ⟨b, 0, none⟩)] w fun e w' => e = .returned (askC ch nm) ∧ PB w' b ex ch nm sc (lf - 1) true false tk false ∧ But b w w' := by
  obtain ⟨c0, c1, c2, c3, c4, c5, c6, c7, c8⟩ := h.cells
  obtain ⟨f0, f1, f2, f3, f4, f5, f6, f7, f8⟩ := h.free
  have hlt := Blk.lt h
  have H := Lib.hid h
  clear h
  have hd : (lf - 1 == 0) = false := by rw [beq_eq_false_iff_ne]; omega
  have hd2 : decide (lf - 1 = 0) = false := decide_eq_false (by omega)
  go_enter Try.func29, Try.ntmps29
  go_wp2_with fail
  have k0 := (Blk.set H.out (i := 2) (v := .int .i64 (lf - 1))).alloc (.cells #[.int .i64 0, .int .i64 0, .string ⟨#[]⟩, .string ⟨#[]⟩] 23)
  have r0 := Blk.new (w.setCell ⟨b, 2, none⟩ (.int .i64 (lf - 1))) (.cells #[.int .i64 0, .int .i64 0, .string ⟨#[]⟩, .string ⟨#[]⟩] 23)
  rw [show (w.setCell ⟨b, 2, none⟩ (.int .i64 (lf - 1))).heap.size = w.heap.size by simp] at r0
  have b0 := ((But.refl b w).set (g := b) (j := 2) (v := .int .i64 (lf - 1)) (Or.inl rfl)).alloc (.cells #[.int .i64 0, .int .i64 0, .string ⟨#[]⟩, .string ⟨#[]⟩] 23)
  refine (ask_calls (ex := ex) (ch := ch) (nm := nm) (sc := sc) (lf := lf - 1) (st := true) (pr := false) (tk := tk) (fl := false) k0).mono ?_
  rintro _ w2 ⟨rfl, hb⟩
  have k1 := k0.below hb
  have r1 := r0.below hb
  have b1 := b0.next hb
  clear k0 r0 b0 hb c0 c1 c2 c3 c4 c5 c6 c7 c8 f0 f1 f2 f3 f4 f5 f6 f7 f8
  obtain ⟨x0, x1, x2, x3⟩ := r1.cells4
  have y0 := r1.frozen 0
  have y1 := r1.frozen 1
  have y2 := r1.frozen 2
  have y3 := r1.frozen 3
  have hz := r1.lt
  go_wp2_with fail
  obtain ⟨z0, z1, z2, z3⟩ := ((((r1.set (i := 0) (v := .int .i64 1)).set (i := 1) (v := .int .i64 1)).set (i := 2) (v := .string ch)).set (i := 3) (v := .string nm)).cells4
  refine bodyPost_ret (v := askC ch nm) (by simp [results, Try.results29, go_sem, z0, z1, z2, z3]) rfl ⟨rfl, ?_, ?_⟩
  · exact (((Blk.other k1 (by omega)).other (by omega)).other (by omega)).other (by omega)
  · exact (((b1.set (Or.inr (by omega))).set (Or.inr (by omega))).set (Or.inr (by omega))).set (Or.inr (by omega))
set_option maxRecDepth 100000 in
theorem again_last (h : PB w b ex ch nm sc 1 true false tk false) :
    Calls Try.prog 29 #[.pointer (some ⟨b, 0, none⟩)] w fun e w' => e = .returned (noC 1601) ∧ PB w' b ex ch nm sc 0 true false tk true ∧ But b w w' := by
  obtain ⟨c0, c1, c2, c3, c4, c5, c6, c7, c8⟩ := h.cells
  obtain ⟨f0, f1, f2, f3, f4, f5, f6, f7, f8⟩ := h.free
  have hlt := Blk.lt h
  have H := Lib.hid h
  clear h
  go_enter Try.func29, Try.ntmps29
  go_wp2
  refine bodyPost_ret (v := noC 1601) (by simp [results, Try.results29, go_sem]; try rfl) rfl ⟨rfl, ?_, ?_⟩
  · exact ((Blk.set H.out (i := 2) (v := .int .i64 0)).set (i := 8) (v := .bool true)).alloc _
  · exact (((But.refl b w).set (Or.inl rfl)).set (Or.inl rfl)).alloc _
set_option maxRecDepth 100000 in
theorem ragain_ok (h : RB w b ex ch nm sc lf false tk false) (hc : ch.toList.isEmpty = false) (h1 : 2 ≤ lf) (h2 : lf ≤ 10) :
    Calls Try.prog 30 #[.pointer (some ⟨b, 0, none⟩)] w fun e w' => e = .returned (askC ch nm) ∧ RB w' b ex ch nm sc (lf - 1) false tk false ∧ But b w w' := by
  obtain ⟨c0, c1, c2, c3, c4, c5, c6, c7⟩ := h.cells
  obtain ⟨f0, f1, f2, f3, f4, f5, f6, f7⟩ := h.free
  have hlt := Blk.lt h
  have H := Lib.hid h
  clear h
  go_enter Try.func30, Try.ntmps30
  go_wp2_with fail
  have k0 := (Blk.set H.out (i := 7) (v := .int .i64 (lf - 1))).alloc (.cells #[.int .i64 0, .int .i64 0, .string ⟨#[]⟩, .string ⟨#[]⟩] 23)
  have r0 := Blk.new (w.setCell ⟨b, 7, none⟩ (.int .i64 (lf - 1))) (.cells #[.int .i64 0, .int .i64 0, .string ⟨#[]⟩, .string ⟨#[]⟩] 23)
  rw [show (w.setCell ⟨b, 7, none⟩ (.int .i64 (lf - 1))).heap.size = w.heap.size by simp] at r0
  have b0 := ((But.refl b w).set (g := b) (j := 7) (v := .int .i64 (lf - 1)) (Or.inl rfl)).alloc (.cells #[.int .i64 0, .int .i64 0, .string ⟨#[]⟩, .string ⟨#[]⟩] 23)
  refine (asks_calls (ex := ex) (ch := ch) (nm := nm) (sc := sc) (lf := lf - 1) (pr := false) (tk := tk) (fl := false) k0).mono ?_
  rintro _ w2 ⟨rfl, hb⟩
  have k1 := k0.below hb
  have r1 := r0.below hb
  have b1 := b0.next hb
  clear k0 r0 b0 hb c0 c1 c2 c3 c4 c5 c6 c7 f0 f1 f2 f3 f4 f5 f6 f7
  obtain ⟨x0, x1, x2, x3⟩ := r1.cells4
  have y0 := r1.frozen 0
  have y1 := r1.frozen 1
  have y2 := r1.frozen 2
  have y3 := r1.frozen 3
  have hz := r1.lt
  go_wp2_with fail
  obtain ⟨z0, z1, z2, z3⟩ := ((((r1.set (i := 0) (v := .int .i64 1)).set (i := 1) (v := .int .i64 1)).set (i := 2) (v := .string ch)).set (i := 3) (v := .string nm)).cells4
  refine bodyPost_ret (v := askC ch nm) (by simp [results, Try.results30, go_sem, z0, z1, z2, z3]) rfl ⟨rfl, ?_, ?_⟩
  · exact (((Blk.other k1 (by omega)).other (by omega)).other (by omega)).other (by omega)
  · exact (((b1.set (Or.inr (by omega))).set (Or.inr (by omega))).set (Or.inr (by omega))).set (Or.inr (by omega))
set_option maxRecDepth 100000 in
theorem ragain_last (h : RB w b ex ch nm sc 1 false tk false) (hc : ch.toList.isEmpty = false) :
    Calls Try.prog 30 #[.pointer (some ⟨b, 0, none⟩)] w fun e w' => e = .returned (noC 1601) ∧ RB w' b ex ch nm sc 0 false tk true ∧ But b w w' := by
  obtain ⟨c0, c1, c2, c3, c4, c5, c6, c7⟩ := h.cells
  obtain ⟨f0, f1, f2, f3, f4, f5, f6, f7⟩ := h.free
  have hlt := Blk.lt h
  have H := Lib.hid h
  clear h
  go_enter Try.func30, Try.ntmps30
  go_wp2
  refine bodyPost_ret (v := noC 1601) (by simp [results, Try.results30, go_sem]; try rfl) rfl ⟨rfl, ?_, ?_⟩
  · exact ((Blk.set H.out (i := 7) (v := .int .i64 0)).set (i := 2) (v := .bool true)).alloc _
  · exact (((But.refl b w).set (Or.inl rfl)).set (Or.inl rfl)).alloc _
end
end Go.Proofs.Ytoldjadadgokeaa.Ch16
