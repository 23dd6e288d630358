/- withylaw6.awake answers true. No condition. -/
import Derived.Test.YtoldjadadgokeaaPl
import Derived.Laws.StructEq
import Derived.Test.YtoldjadadgokeaaBl
namespace Go.Proofs.Ytoldjadadgokeaa.Ch6
open Go.RowKit Go.Proofs.Ytoldjadadgokeaa.Bytes

theorem PutS.use {c id e : Int} {v n r : ByteArray} {w : World} {Q : Ending → World → Prop} (h : PutS c id v n r e w)
    (k : ∀ e' w', (e' = .returned (.tuple #[.string r, .int .i64 e]) ∧ Below w.heap.size w w') → Q e' w') :
    Calls Try.prog 18 #[.agg #[.int .i64 c, .int .i64 id, .string v, .string n]] w Q := Calls.mono h k
theorem GetS.use {c id e : Int} {s v n : ByteArray} {w : World} {Q : Ending → World → Prop} (h : GetS s c id v n e w)
    (k : ∀ e' w', (e' = .returned (.tuple #[.agg #[.int .i64 c, .int .i64 id, .string v, .string n], .int .i64 e]) ∧ Below w.heap.size w w') → Q e' w') :
    Calls Try.prog 20 #[.string s] w Q := Calls.mono h k
theorem bcell {W w1 : World} (hb : Below W.heap.size W w1) : (∀ b o, b < W.heap.size → w1.cell? ⟨b, o, none⟩ = W.cell? ⟨b, o, none⟩) ∧ (∀ b o, b < W.heap.size → w1.frozen? ⟨b, o, none⟩ = W.frozen? ⟨b, o, none⟩) :=
  ⟨fun b o h => hb.cell (p := ⟨b, o, none⟩) h, fun b o h => hb.frozen (p := ⟨b, o, none⟩) h⟩

theorem num_calls (e : Int) (w : World) : Calls Try.prog 22 #[.int .i64 e] w fun e' w' => e' = .returned (.int .i64 e) ∧ w = w' := by
  go_enter Try.func22, Try.ntmps22
  go_wp2
  go_ret
  exact ⟨rfl, rfl⟩

set_option maxHeartbeats 1000000 in
set_option maxRecDepth 100000 in
theorem awake_calls (w : World) : Calls Try.prog 23 #[] w fun e w' => e = .returned (.bool true) ∧ Below w.heap.size w w' := by
  have p1 : ∀ w, PutS 1 3 (B [118, 118]) (B [109, 101]) (B [1, 3, 0, 9, 2, 118, 118, 109, 101]) 0 w := fun w => put_any 1 3 [118, 118] [109, 101] w
  have g1 : ∀ w, GetS (B [1, 3, 0, 9, 2, 118, 118, 109, 101]) 1 3 (B [118, 118]) (B [109, 101]) 0 w := fun w => get_any [1, 3, 0, 9, 2, 118, 118, 109, 101] w
  have g2 : ∀ w, GetS (B [5, 0, 0, 4]) 0 0 (B []) (B []) 600 w := fun w => get_any [5, 0, 0, 4] w
  have p2 : ∀ w, PutS 3 0 (B [120]) (B []) (B []) 600 w := fun w => put_any 3 0 [120] [] w
  unfold B at p1 g1 g2 p2
  go_enter Try.func23, Try.ntmps23
  go_wp2_with fail
  refine (p1 _).use ?_
  rintro e w1 ⟨rfl, hb1⟩
  have k1 := (Blk.new w _).below hb1
  go_wp2_with fail
  refine (g1 _).use ?_
  rintro e w2 ⟨rfl, hb2⟩
  replace k1 := k1.below hb2
  have B2 := ((Below.refl w.heap.size w).alloc (Nat.le_refl _) _).trans (hb1.mono (by simp))
  replace B2 := B2.trans (hb2.mono B2.size)
  clear hb1 hb2
  go_wp2_with fail
  refine (g2 _).use ?_
  rintro e w3 ⟨rfl, hb3⟩
  have k2 := (Blk.new w2 _).below hb3
  replace k1 := (k1.alloc _).below hb3
  have B3 := (be_alloc B2 _).trans (hb3.mono (be_alloc B2 _).size)
  clear hb3 B2
  go_wp2_with fail
  refine (p2 _).use ?_
  rintro e w4 ⟨rfl, hb4⟩
  replace k2 := (k2.alloc _).below hb4
  replace k1 := (k1.alloc _).below hb4
  have B4 := (be_alloc B3 _).trans (hb4.mono (be_alloc B3 _).size)
  clear hb4 B3
  obtain ⟨x0, x1, x2, x3⟩ := k1.cells4
  obtain ⟨y0, y1, y2, y3⟩ := k2.cells4
  clear k1 k2
  go_wp2
  go_ret
  exact ⟨rfl, B4⟩
end Go.Proofs.Ytoldjadadgokeaa.Ch6
