/- Whether an identifier can be, its bits, key and text, and what a key and a text are: the walk through the law. No condition but that the numbers are of their kinds. -/
import Derived.Test.YtcimnghmkhdolaaIdentRefTextLib
namespace Go.Proofs.Ytcimnghmkhdolaa.P
open Go.RowKit Go.Proofs.YtcimnghmkhdolaaW.PrintWords Go.Proofs.YtcimnghmkhdolaaW.PrintLast Go.Proofs.YtcimnghmkhdolaaW.PrintMore
set_option linter.unusedVariables false
set_option linter.unusedSimpArgs false
/-- The law's five identifiers in memory. -/
structure B5 (w W : World) (h g1 g2 g3 g4 : Nat) (e : Bool) (n : Int) (a : Bool) (m : Int) (c : Bool) (p : Int) : Prop where
  x0 : W.heap[h]? = some (.cells #[.bool e, .int .u32 n] 24 (0, 0))
  x1 : W.heap[g1]? = some (.cells #[.bool a, .int .u32 m] 24 (0, 0))
  x2 : W.heap[g2]? = some (.cells #[.bool a, .int .u32 m] 24 (0, 0))
  x3 : W.heap[g3]? = some (.cells #[.bool c, .int .u32 p] 24 (0, 0))
  x4 : W.heap[g4]? = some (.cells #[.bool c, .int .u32 p] 24 (0, 0))
  B : Below w.heap.size w W
theorem B5.below {w W W' : World} {h g1 g2 g3 g4 : Nat} {e a c : Bool} {n m p : Int} (q : B5 w W h g1 g2 g3 g4 e n a m c p) (hb : Below W.heap.size W W') : B5 w W' h g1 g2 g3 g4 e n a m c p :=
  ⟨blk_below q.x0 hb, blk_below q.x1 hb, blk_below q.x2 hb, blk_below q.x3 hb, blk_below q.x4 hb, below_step q.B hb⟩
theorem B5.drew {w W : World} {h g1 g2 g3 g4 : Nat} {e a c : Bool} {n m p : Int} (q : B5 w W h g1 g2 g3 g4 e n a m c p) : B5 w W.drew h g1 g2 g3 g4 e n a m c p :=
  ⟨blk_drew q.x0, blk_drew q.x1, blk_drew q.x2, blk_drew q.x3, blk_drew q.x4, below_drew1 q.B⟩
theorem B5.cells {w W : World} {h g1 g2 g3 g4 : Nat} {e a c : Bool} {n m p : Int} (q : B5 w W h g1 g2 g3 g4 e n a m c p) :
    W.cell? ⟨h, 0, none⟩ = some (.bool e) ∧ W.cell? ⟨h, 1, none⟩ = some (.int .u32 n) ∧ W.cell? ⟨g1, 0, none⟩ = some (.bool a) ∧ W.cell? ⟨g1, 1, none⟩ = some (.int .u32 m) ∧ W.cell? ⟨g2, 0, none⟩ = some (.bool a) ∧ W.cell? ⟨g2, 1, none⟩ = some (.int .u32 m) ∧
    W.cell? ⟨g3, 0, none⟩ = some (.bool c) ∧ W.cell? ⟨g3, 1, none⟩ = some (.int .u32 p) ∧ W.cell? ⟨g4, 0, none⟩ = some (.bool c) ∧ W.cell? ⟨g4, 1, none⟩ = some (.int .u32 p) :=
  ⟨(blk_cell q.x0 0).trans rfl, (blk_cell q.x0 1).trans rfl, (blk_cell q.x1 0).trans rfl, (blk_cell q.x1 1).trans rfl, (blk_cell q.x2 0).trans rfl, (blk_cell q.x2 1).trans rfl, (blk_cell q.x3 0).trans rfl, (blk_cell q.x3 1).trans rfl, (blk_cell q.x4 0).trans rfl, (blk_cell q.x4 1).trans rfl⟩
set_option maxHeartbeats 8000000 in
set_option maxRecDepth 100000 in
theorem Is_core (k : Nat) (e : Bool) (n key : Int) (s : ByteArray) (o1 : Bool) (o2 : Int) (o3 o4 p1 : Bool) (p2 : Int) (p3 rt q : Bool) (bs : List Int) (kv : Int) (tv : ByteArray) (w : World) (hs : decide (100 < (s.size : Int)) = false) (hq : (bits .and .u32 key 1 == 1) = q)
    (h13 : ident_Of.f k key = some (o1, o2, o3, o4)) (h14 : bellbuoyref05_OfKey.f key = some (o1, o2, o3, o4)) (h15 : ident_Parse.f s = some (p1, p2, p3)) (h16 : bellbuoyref05_Parse.f k s = some (p1, p2, p3))
    (h17 : ident_Right.f e n = some rt) (h11 : bellbuoyref05_Right.f e n = some rt) (h12 : ident_Bits.f k e n q = some bs) (h19 : bellbuoyref05_Bits.f k e n q = some bs) (h18 : bellbuoyref02_Bytes.f k bs bs = some true)
    (h20 : ident_Key.f e n q = some kv) (h21 : bellbuoyref05_Key.f k e n q = some kv) (h22 : ident_Text.f k e n = some tv) (h23 : bellbuoyref05_Text.f k e n = some tv) :
    Calls Try.prog 6 #[.agg #[.bool e, .int .u32 n], .int .u32 key, .string s] w fun e w' => e = .returned (.bool true) ∧ Below w.heap.size w w' := by
  have H13 := Aside0.mk h13
  have H14 := Aside0.mk h14
  have H15 := Aside0.mk h15
  have H16 := Aside0.mk h16
  have H17 := Aside0.mk h17
  have H11 := Aside0.mk h11
  have H12 := Aside0.mk h12
  have H19 := Aside0.mk h19
  have H18 := Aside0.mk h18
  have H20 := Aside0.mk h20
  have H21 := Aside0.mk h21
  have H22 := Aside0.mk h22
  have H23 := Aside0.mk h23
  clear h13 h14 h15 h16 h17 h11 h12 h19 h18 h20 h21 h22 h23
  have hu24 := Try.underlying24
  go_enter Try.func6, Try.ntmps6
  go_wp2_with fail
  (with_reducible refine (ident_Of.calls k key o1 o2 o3 o4 _ H13.out).mono ?_); rintro e w1 ⟨rfl, hb⟩
  have X0 := Aside0.mk (blk_below (blk_new w (.cells #[.bool e, .int .u32 n] 24)) hb)
  have B1 := Aside0.mk (below_step (below_alloc (Below.refl _ w) _) hb)
  clear hb
  go_wp2_with fail
  (with_reducible refine (bellbuoyref05_OfKey.calls key o1 o2 o3 o4 _ H14.out).mono ?_); rintro e w2 ⟨rfl, hb⟩
  have Y0 := Aside0.mk (blk_below (blk_alloc X0.out _) hb)
  have Y1 := Aside0.mk (blk_below (blk_new w1 (.cells #[.bool o1, .int .u32 o2] 24)) hb)
  have B2 := Aside0.mk (below_step (below_alloc B1.out _) hb)
  clear hb X0 B1
  go_wp2_with fail
  (with_reducible refine (ident_Parse.calls s p1 p2 p3 _ H15.out).mono ?_); rintro e w3 ⟨rfl, hb⟩
  have Z0 := Aside0.mk (blk_below (blk_alloc Y0.out _) hb)
  have Z1 := Aside0.mk (blk_below (blk_alloc Y1.out _) hb)
  have Z2 := Aside0.mk (blk_below (blk_new w2 (.cells #[.bool o1, .int .u32 o2] 24)) hb)
  have B3 := Aside0.mk (below_step (below_alloc B2.out _) hb)
  clear hb Y0 Y1 B2
  go_wp2_with fail
  (with_reducible refine (bellbuoyref05_Parse.calls k s p1 p2 p3 _ H16.out).mono ?_); rintro e w4 ⟨rfl, hb⟩
  have X0 := Aside0.mk (blk_below (blk_alloc Z0.out _) hb)
  have X1 := Aside0.mk (blk_below (blk_alloc Z1.out _) hb)
  have X2 := Aside0.mk (blk_below (blk_alloc Z2.out _) hb)
  have X3 := Aside0.mk (blk_below (blk_new w3 (.cells #[.bool p1, .int .u32 p2] 24)) hb)
  have B4 := Aside0.mk (below_step (below_alloc B3.out _) hb)
  clear hb Z0 Z1 Z2 B3
  have K4 : Aside0 (B5 w (w4.alloc (.cells #[.bool p1, .int .u32 p2] 24)) w.heap.size w1.heap.size w2.heap.size w3.heap.size w4.heap.size e n o1 o2 p1 p2) := ⟨⟨blk_alloc X0.out _, blk_alloc X1.out _, blk_alloc X2.out _, blk_alloc X3.out _, blk_new _ _, below_alloc B4.out _⟩⟩
  clear X0 X1 X2 X3 B4
  go_wp2_with fail
  obtain ⟨c0, c1, c2, c3, c4, c5, c6, c7, c8, c9⟩ := K4.out.cells
  dsimp only [List.append]
  go_region_held3 (fun w' => w'.cell? ⟨w.heap.size, 0, none⟩ = some (.bool e) ∧ w'.cell? ⟨w.heap.size, 1, none⟩ = some (.int .u32 n) ∧ w'.cell? ⟨w1.heap.size, 0, none⟩ = some (.bool o1) ∧ w'.cell? ⟨w1.heap.size, 1, none⟩ = some (.int .u32 o2) ∧ w'.cell? ⟨w2.heap.size, 0, none⟩ = some (.bool o1) ∧ w'.cell? ⟨w2.heap.size, 1, none⟩ = some (.int .u32 o2) ∧ w'.cell? ⟨w3.heap.size, 0, none⟩ = some (.bool p1) ∧ w'.cell? ⟨w3.heap.size, 1, none⟩ = some (.int .u32 p2) ∧ w'.cell? ⟨w4.heap.size, 0, none⟩ = some (.bool p1) ∧ w'.cell? ⟨w4.heap.size, 1, none⟩ = some (.int .u32 p2)) (go_keep)
    (first
      | (go_at_call 8; (with_reducible refine (lv_walk _).mono ?_); rintro e w5 ⟨rfl, hb⟩; have K5 := Aside0.mk (K4.out.drew.below hb); clear hb; (try clear c0 c1 c2 c3 c4 c5 c6 c7 c8 c9); obtain ⟨c0, c1, c2, c3, c4, c5, c6, c7, c8, c9⟩ := K5.out.cells)
      | (go_at_call 17; (with_reducible refine (ident_Right.calls e n rt _ H17.out).mono ?_); rintro e w6 ⟨rfl, hb⟩; have K6 := Aside0.mk (K5.out.below hb); clear hb; (try clear c0 c1 c2 c3 c4 c5 c6 c7 c8 c9); obtain ⟨c0, c1, c2, c3, c4, c5, c6, c7, c8, c9⟩ := K6.out.cells)
      | (go_at_call 11; (with_reducible refine (bellbuoyref05_Right.calls e n rt _ H11.out).mono ?_); rintro e w7 ⟨rfl, hb⟩; have K7 := Aside0.mk (K6.out.below hb); clear hb; (try clear c0 c1 c2 c3 c4 c5 c6 c7 c8 c9); obtain ⟨c0, c1, c2, c3, c4, c5, c6, c7, c8, c9⟩ := K7.out.cells)
      | (go_at_call 12; (with_reducible refine (ident_Bits.calls k e n q bs _ H12.out).mono ?_); rintro e w8 ⟨v8, rfl, hR, hb⟩; obtain ⟨A8, cap8, rfl, hc8, hC8⟩ := Kd.R_reads hR; have C8 := Aside0.mk (And.intro hc8 hC8); clear hc8 hC8 hR; have K8 := Aside0.mk (K7.out.below hb); clear hb; (try clear c0 c1 c2 c3 c4 c5 c6 c7 c8 c9); obtain ⟨c0, c1, c2, c3, c4, c5, c6, c7, c8, c9⟩ := K8.out.cells)
      | (go_at_call 19; (with_reducible refine (bellbuoyref05_Bits.calls k e n q bs _ H19.out).mono ?_); rintro e w9 ⟨v9, rfl, hR, hb⟩; obtain ⟨A9, cap9, rfl, hc9, hC9⟩ := Kd.R_reads hR; have C9 := Aside0.mk (And.intro hc9 hC9); have D8 := Aside0.mk (Kd.C_below C8.out.2 hb); clear hc9 hC9 hR; have K9 := Aside0.mk (K8.out.below hb); clear hb; (try clear c0 c1 c2 c3 c4 c5 c6 c7 c8 c9); obtain ⟨c0, c1, c2, c3, c4, c5, c6, c7, c8, c9⟩ := K9.out.cells)
      | (go_at_call 18; (with_reducible refine (bellbuoyref02_Bytes.calls k A8 cap8 bs A9 cap9 bs true _ D8.out C8.out.1 C9.out.2 C9.out.1 H18.out).mono ?_); rintro e w10 ⟨rfl, ⟨m, rfl⟩⟩; have K10 := Aside0.mk (K9.out.below (pw_below_drewN (Below.refl _ _) m)); (try clear c0 c1 c2 c3 c4 c5 c6 c7 c8 c9); obtain ⟨c0, c1, c2, c3, c4, c5, c6, c7, c8, c9⟩ := K10.out.cells)
      | (go_at_call 20; (with_reducible refine (ident_Key.calls e n q kv _ H20.out).mono ?_); rintro e w11 ⟨rfl, hb⟩; have K11 := Aside0.mk (K10.out.below hb); clear hb; (try clear c0 c1 c2 c3 c4 c5 c6 c7 c8 c9); obtain ⟨c0, c1, c2, c3, c4, c5, c6, c7, c8, c9⟩ := K11.out.cells)
      | (go_at_call 21; (with_reducible refine (bellbuoyref05_Key.calls k e n q kv _ H21.out).mono ?_); rintro e w12 ⟨rfl, hb⟩; have K12 := Aside0.mk (K11.out.below hb); clear hb; (try clear c0 c1 c2 c3 c4 c5 c6 c7 c8 c9); obtain ⟨c0, c1, c2, c3, c4, c5, c6, c7, c8, c9⟩ := K12.out.cells)
      | (go_at_call 22; (with_reducible refine (ident_Text.calls k e n tv _ H22.out).mono ?_); rintro e w13 ⟨rfl, hb⟩; have K13 := Aside0.mk (K12.out.below hb); clear hb; (try clear c0 c1 c2 c3 c4 c5 c6 c7 c8 c9); obtain ⟨c0, c1, c2, c3, c4, c5, c6, c7, c8, c9⟩ := K13.out.cells)
      | (go_at_call 23; (with_reducible refine (bellbuoyref05_Text.calls k e n tv _ H23.out).mono ?_); rintro e w14 ⟨rfl, hb⟩; have K14 := Aside0.mk (K13.out.below hb); clear hb; (try clear c0 c1 c2 c3 c4 c5 c6 c7 c8 c9); obtain ⟨c0, c1, c2, c3, c4, c5, c6, c7, c8, c9⟩ := K14.out.cells))
  go_wp2_with fail
  go_ret
  exact ⟨by simp, K14.out.B⟩
end Go.Proofs.Ytcimnghmkhdolaa.P
