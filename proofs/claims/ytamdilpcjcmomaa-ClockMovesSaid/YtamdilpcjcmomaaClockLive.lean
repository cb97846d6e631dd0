/- The clock law's fixed answers, walked by hand. No condition. -/
import Derived.Test.YtamdilpcjcmomaaClockRef
namespace Go.Proofs.Ytamdilpcjcmomaa.P
open Go.RowKit Go.Proofs.YtamdilpcjcmomaaW.PrintWords Go.Proofs.YtamdilpcjcmomaaW.PrintLast Go.Proofs.YtamdilpcjcmomaaW.PrintMore
set_option linter.unusedVariables false
set_option linter.unusedSimpArgs false
theorem New_calls (w : World) : Calls Try.prog 7 #[] w fun e w' => ∃ g, w.heap.size ≤ g ∧ e = .returned (.pointer (some ⟨g, 0, none⟩)) ∧ At4 44 w' g 0 0 1048576 0 ∧ Below w.heap.size w w' := by
  refine (clock_New.calls 0 0 1048576 0 w w (Below.refl _ _) rfl).mono ?_
  rintro e w1 ⟨g, rfl, hs, hb, _⟩
  exact ⟨g, hs.2, rfl, hs.1, hb⟩
theorem RefNew_calls (w : World) : Calls Try.prog 8 #[] w fun e w' => ∃ g, w.heap.size ≤ g ∧ e = .returned (.pointer (some ⟨g, 0, none⟩)) ∧ At4 35 w' g 0 0 1048576 0 ∧ Below w.heap.size w w' := by
  refine (bellbuoyref17_New.calls 0 0 1048576 0 w w (Below.refl _ _) rfl).mono ?_
  rintro e w1 ⟨g, rfl, hs, hb, _⟩
  exact ⟨g, hs.2, rfl, hs.1, hb⟩
theorem Read_to (g : Nat) (r b k l c t l' : Int) (ok : Bool) (w : World) (h : At4 44 w g r b k l) (hr : In64 r) (hb : In64 b) (hk : In64 k) (hc : In64 c) (hl : lookV r b k c = (t, ok)) (hl' : readV l t ok = l') :
    Calls Try.prog 15 #[.pointer (some ⟨g, 0, none⟩), .int .i64 c] w (P4 44 g r b k l' (.tuple #[.int .i64 l', .bool ok]) w) := by
  subst hl'
  exact Read_calls g r b k l c t ok w h hr hb hk hc hl
theorem RefRead_to (g : Nat) (r b k l c t l' : Int) (ok : Bool) (w : World) (h : At4 35 w g r b k l) (hr : In64 r) (hb : In64 b) (hk : In64 k) (hc : In64 c) (hl : lookV r b k c = (t, ok)) (hl' : readV l t ok = l') :
    Calls Try.prog 16 #[.pointer (some ⟨g, 0, none⟩), .int .i64 c] w (P4 35 g r b k l' (.tuple #[.int .i64 l', .bool ok]) w) := by
  subst hl'
  exact RefRead_calls g r b k l c t ok w h hr hb hk hc hl
set_option maxHeartbeats 4000000 in
set_option maxRecDepth 100000 in
theorem live_walk (w : World) : Calls Try.prog 19 #[] w fun e w' => e = .returned (.bool true) ∧ Below w.heap.size w w' := by
  have i0 : In64 0 := by decide
  have i1 : In64 1048576 := by decide
  have i5 : In64 5 := by decide
  have i3 : In64 3 := by decide
  have i10 : In64 10 := by decide
  have i7 : In64 7 := by decide
  have i17 : In64 17 := by decide
  have q5 : lookV 0 0 1048576 5 = (5, true) := by decide +kernel
  have q3 : lookV 0 0 1048576 3 = (3, true) := by decide +kernel
  have q10 : lookV 10 17 1048576 10 = (17, true) := by decide +kernel
  have s1 : onV 0 0 1048576 10 7 1048576 = (0, 10, 17, 1048576) := by decide +kernel
  have t1 : tuneV 10 17 1048576 10 0 = (1, 10, 17, 1048576) := by decide +kernel
  have QQ := Aside0.mk (And.intro q5 (And.intro q3 (And.intro q10 (And.intro s1 t1))))
  have II := Aside0.mk (And.intro i0 (And.intro i1 (And.intro i5 (And.intro i3 (And.intro i10 (And.intro i7 i17))))))
  clear q5 q3 q10 s1 t1 i0 i1 i5 i3 i10 i7 i17
  go_enter Try.func19, Try.ntmps19
  go_wp2_with fail
  refine (New_calls _).mono ?_
  rintro e w1 ⟨g, hg, rfl, h1, hb1⟩
  have HG := Aside0.mk hg
  have H1 := Aside0.mk h1
  have B1 := Aside0.mk hb1
  clear hg h1 hb1
  go_wp2_with fail
  refine (Read_to g 0 0 1048576 0 5 5 5 true _ H1.out II.out.1 II.out.1 II.out.2.1 II.out.2.2.1 QQ.out.1 rfl).mono ?_
  rintro e w2 ⟨rfl, h2, _, hb⟩
  have H2 := Aside0.mk h2
  have B2 := Aside0.mk (B1.out.trans (hb _ HG.out B1.out.size))
  clear h2 hb B1 H1
  go_wp2_with fail
  refine (Read_to g 0 0 1048576 5 3 3 5 true _ H2.out II.out.1 II.out.1 II.out.2.1 II.out.2.2.2.1 QQ.out.2.1 rfl).mono ?_
  rintro e w3 ⟨rfl, h3, _, hb⟩
  have H3 := Aside0.mk h3
  have B3 := Aside0.mk (B2.out.trans (hb _ HG.out B2.out.size))
  clear h3 hb B2 H2
  go_wp2_with fail
  refine (Look_calls g 0 0 1048576 5 3 3 true _ H3.out II.out.1 II.out.1 II.out.2.1 II.out.2.2.2.1 QQ.out.2.1).mono ?_
  rintro e w4 ⟨rfl, hb⟩
  have H4 := Aside0.mk (H3.out.below hb)
  have B4 := Aside0.mk (below_step B3.out hb)
  clear hb B3 H3
  go_wp2_with fail
  refine (Shift_calls g 0 0 1048576 5 10 7 0 10 17 1048576 _ H4.out II.out.1 II.out.1 II.out.2.1 II.out.2.2.2.2.1 II.out.2.2.2.2.2.1 QQ.out.2.2.2.1).mono ?_
  rintro e w5 ⟨rfl, h5, _, hb⟩
  have H5 := Aside0.mk h5
  have B5 := Aside0.mk (B4.out.trans (hb _ HG.out B4.out.size))
  clear h5 hb B4 H4
  go_wp2_with fail
  refine (Read_to g 10 17 1048576 5 10 17 17 true _ H5.out II.out.2.2.2.2.1 II.out.2.2.2.2.2.2 II.out.2.1 II.out.2.2.2.2.1 QQ.out.2.2.1 rfl).mono ?_
  rintro e w6 ⟨rfl, h6, _, hb⟩
  have H6 := Aside0.mk h6
  have B6 := Aside0.mk (B5.out.trans (hb _ HG.out B5.out.size))
  clear h6 hb B5 H5
  go_wp2_with fail
  refine (Tune_calls g 10 17 1048576 17 10 0 1 10 17 1048576 _ H6.out II.out.2.2.2.2.1 II.out.2.2.2.2.2.2 II.out.2.1 II.out.2.2.2.2.1 QQ.out.2.2.2.2).mono ?_
  rintro e w7 ⟨rfl, h7, _, hb⟩
  have H7 := Aside0.mk h7
  have B7 := Aside0.mk (B6.out.trans (hb _ HG.out B6.out.size))
  clear h7 hb B6 H6
  go_wp2_with fail
  refine (Read_nil 1 _).mono ?_
  rintro e w8 ⟨rfl, hb⟩
  have H8 := Aside0.mk (H7.out.below hb)
  have B8 := Aside0.mk (below_step B7.out hb)
  clear hb B7 H7
  go_wp2_with fail
  refine (Rate_calls g 10 17 1048576 17 _ H8.out).mono ?_
  rintro e w9 ⟨rfl, rfl⟩
  go_wp2_with fail
  refine (Last_calls g 10 17 1048576 17 _ H8.out).mono ?_
  rintro e w9 ⟨rfl, rfl⟩
  go_wp2_with fail
  refine (Shift_nil 0 0 _).mono ?_
  rintro e w10 ⟨rfl, hb⟩
  have B10 := Aside0.mk (below_step B8.out hb)
  clear hb
  go_wp2_with fail
  refine (Tune_nil 0 1048576 _).mono ?_
  rintro e w11 ⟨rfl, hb⟩
  have B11 := Aside0.mk (below_step B10.out hb)
  clear hb
  go_wp2_with fail
  refine (Last_nil _).mono ?_
  rintro e w12 ⟨rfl, rfl⟩
  go_wp2_with fail
  go_ret
  exact ⟨rfl, B11.out⟩
end Go.Proofs.Ytamdilpcjcmomaa.P
