/- strand.Clean by the program: each member is 0 or 1 behind it. Conditions: those that each lemma names. -/
import Derived.Test.YtjhnkncmdeineaaDoorTopSlave
namespace Go.Proofs.YtjhnkncmdeineaaDoor.P
open Go.RowKit Go.Proofs.YtjhnkncmdeineaaDoorW.PrintWords Go.Proofs.YtjhnkncmdeineaaDoorW.PrintLast Go.Proofs.YtjhnkncmdeineaaDoorW.PrintMore Go.Shelf
attribute [local go_sem] Oper.semAt_some
set_option linter.unusedVariables false
set_option linter.unusedSimpArgs false
def clP (m : Nat) {len : Nat} (f : Nat → Int) (ps : List (Fin len)) : List Int := ps.foldl (fun l p => l.set p.val (f p.val)) (List.replicate m 0)
theorem clP_snoc (m : Nat) {len : Nat} (f : Nat → Int) (ps : List (Fin len)) (x : Fin len) : clP m f (ps ++ [x]) = (clP m f ps).set x.val (f x.val) := by simp [clP]
theorem clP_len (m : Nat) {len : Nat} (f : Nat → Int) (ps : List (Fin len)) : (clP m f ps).length = m := by
  unfold clP
  have : ∀ (ps : List (Fin len)) (l : List Int), (ps.foldl (fun l p => l.set p.val (f p.val)) l).length = l.length := fun ps => by
    induction ps with
    | nil => intro l; rfl
    | cons p r ih => intro l; rw [List.foldl_cons, ih, List.length_set]
  rw [this]
  simp
theorem clP_take (m : Nat) (f : Nat → Int) : ∀ k, k ≤ m → clP m f ((List.finRange m).take k) = (List.range k).map f ++ List.replicate (m - k) 0
  | 0, _ => by simp [clP]
  | k + 1, h => by
    rw [fin_succ (show k < m by omega), clP_snoc, clP_take m f k (by omega)]
    rw [List.set_append_right _ _ (by simp), List.range_succ, List.map_append, List.append_assoc]
    congr 1
    simp only [List.length_map, List.length_range, Nat.sub_self, List.map_cons, List.map_nil]
    rw [show m - k = (m - (k + 1)) + 1 by omega, List.replicate_succ, List.set_cons_zero]
    rfl
theorem clP_all (m : Nat) (f : Nat → Int) : clP m f (List.finRange m) = (List.range m).map f := by
  have h := clP_take m f m (Nat.le_refl _)
  rw [List.take_of_length_le (by simp), Nat.sub_self] at h
  simpa using h
theorem map_range (zs : List Int) : (List.range zs.length).map (fun j => tru (zs[j]?.getD 0)) = zs.map tru := by
  apply List.ext_getElem
  · simp
  · intro i h1 h2
    simp at h1
    simp [h1]
set_option maxRecDepth 100000 in
set_option maxHeartbeats 2000000 in
theorem Clean_in (a : Option Addr) (cap : Nat) (zs : List Int) (hp : 0 < zs.length) (hreach : zs.length ≤ 1000) (w : World) (hI : Bytes w.heap.size w (.slice a zs.length cap) zs) :
    CallsIn Fence.wide 3 Tryd.prog 18 #[.slice a zs.length cap] w fun e W' => e = .returned (.slice (some ⟨w.heap.size, 0, none⟩) zs.length zs.length) ∧ W'.heap[w.heap.size]? = some (.cells (u8s (zs.map tru)) 5 (0, 0)) ∧ Below w.heap.size w W' := by
  rw [← map_range, ← clP_all]
  obtain ⟨f, hf⟩ : ∃ f : Nat → Int, ∀ j, f j = tru (zs[j]?.getD 0) := ⟨_, fun _ => rfl⟩
  rw [← (funext hf : f = fun j => tru (zs[j]?.getD 0))]
  have HF := Aside0.mk hf
  clear hf
  have RC := Aside0.mk (show zs.length * 8 ≤ 140737488351232 by omega)
  have HP := Aside0.mk (And.intro hp hreach)
  clear hp hreach
  refine callsIn_of_wp_marks Tryd.func18 rfl trivial ?_ rfl
  simp only [Tryd.ntmps18, List.size_toArray, List.length_cons, List.length_nil, Nat.reduceAdd, Nat.reduceSub, Array.replicate_succ, Array.replicate_zero, List.push_toArray, List.append_toArray, List.nil_append, List.cons_append]
  gi_wp2_with (gi_at_make; refine wpListIn_make_row _ rfl _ _ 29 rfl 5 (.int .u8 0) 1 Tryd.underlying29 info5u rfl .i64 .i64 zs.length rfl rfl (by have := HP.out; omega) (by have := HP.out; omega) ?_)
  refine ⟨trivial, (places_in Fence.wide 2 trivial rfl _ _ _ _).mono ?_⟩
  rintro e w' ⟨rfl, rfl⟩
  gi_wp2
  have kA := blk_alloc (blk_alloc (blk_new w (.cells (madeCells #[.int .u8 0] zs.length) 5)) (.cells #[.slice (some ⟨w.heap.size, 0, none⟩) zs.length zs.length] 29)) (.cells #[.slice a zs.length cap] 29)
  have kB := blk_alloc (blk_new (w.alloc (.cells (madeCells #[.int .u8 0] zs.length) 5)) (.cells #[.slice (some ⟨w.heap.size, 0, none⟩) zs.length zs.length] 29)) (.cells #[.slice a zs.length cap] 29)
  have kN := blk_new ((w.alloc (.cells (madeCells #[.int .u8 0] zs.length) 5)).alloc (.cells #[.slice (some ⟨w.heap.size, 0, none⟩) zs.length zs.length] 29)) (.cells #[.slice a zs.length cap] 29)
  have B0 := below_alloc (below_alloc (below_alloc (Below.refl w.heap.size w) (.cells (madeCells #[.int .u8 0] zs.length) 5)) (.cells #[.slice (some ⟨w.heap.size, 0, none⟩) zs.length zs.length] 29)) (.cells #[.slice a zs.length cap] 29)
  have eM : u8s (clP (len := zs.length) zs.length f []) = (madeCells #[Value.int .u8 0] zs.length) := by apply Array.ext'; rw [toList_madeCells_one]; simp [u8s, clP]
  simp only [World.size_alloc] at kB kN
  have hI0 := hI.below B0
  have hsz : (((w.alloc (.cells (madeCells #[Value.int .u8 0] zs.length) 5)).alloc (.cells #[.slice (some ⟨w.heap.size, 0, none⟩) zs.length zs.length] 29)).alloc (.cells #[.slice a zs.length cap] 29)).heap.size = w.heap.size + 1 + 1 + 1 := by simp
  generalize ((w.alloc (.cells (madeCells #[Value.int .u8 0] zs.length) 5)).alloc (.cells #[.slice (some ⟨w.heap.size, 0, none⟩) zs.length zs.length] 29)).alloc (.cells #[.slice a zs.length cap] 29) = w3 at kA kB kN B0 hI0 hsz ⊢
  have I0 : PkI zs.length (clP (len := zs.length) zs.length f []) w w3 := ⟨by rw [eM]; exact kA, kB, B0⟩
  refine wpIn_rangeFunc_ownG rfl (by omega) (gf := 25) (lb := #[.pointer (some ⟨w.heap.size + 1 + 1, 0, none⟩)]) rfl trivial (enters_of Tryd.func25 (by kernel_rfl) rfl)
    (placesF_stops Fence.wide 2 trivial trivial rfl (by omega) (w.heap.size + 1 + 1) w.heap.size _ zs RC.out w3 (by omega) (by omega) ((blk_cell kN 0).trans rfl) HP.out.1 hI0 f HF.out) belowK_t (belowK_b (by omega)) (Below.refl _ _) (fun _ => rfl)
    (fun pre W => PkI zs.length (clP zs.length f pre) w W)
    (fun _ _ _ => False)
    (fun s A C row hs hg hr => ⟨grown_blk hg (fun r e => (hr r e).2) hs.ka, grown_blk hg (fun r e => (hr r e).2) hs.kb, hs.B.grown hg (Nat.le_trans (Nat.le_refl _) hs.B.size) (fun r e => by have := (hr r e).1; omega)⟩)
    (fun _ _ _ _ _ hs _ _ => hs)
    I0
    (fun x => { tmps := #[.slice a zs.length cap, undef, .slice none 0 0, .pointer (some ⟨w.heap.size + 1, 0, none⟩), .int .i64 (x.val : Int), .int .u8 (f x.val), .slice a zs.length cap, .int .i64 (zs.length : Int), .slice (some ⟨w.heap.size, 0, none⟩) zs.length zs.length, .slice a zs.length cap, .func (.func 25) #[] #[.pointer (some ⟨w.heap.size + 1 + 1, 0, none⟩)], .int .i64 (x.val : Int), .int .u8 (f x.val), undef, undef, undef, undef, undef], defers := [] }) ?assign ?body ?done ?stop
  case assign =>
    intro l x W K hK
    gi_wp2
    exact hK
  case body =>
    rintro l pre x W h _
    have c0 : W.cell? ⟨w.heap.size + 1, 0, none⟩ = some (.slice (some ⟨w.heap.size, 0, none⟩) zs.length zs.length) := (blk_cell h.kb 0).trans rfl
    have HL := clP_len zs.length f pre
    have hx := x.isLt
    have hq0 : (0 : Int) ≤ (x.val : Int) := by omega
    have hq1 : (x.val : Int) < (zs.length : Int) := by omega
    generalize hLe : clP zs.length f pre = L at h HL
    have c1 : W.cell? ⟨w.heap.size, x.val, none⟩ = some (.int .u8 (L.getD x.val 0)) := by
      rw [blk_cell h.ka, u8s]
      simp only [List.getElem?_toArray, List.getElem?_map, List.getD_eq_getElem?_getD]
      rw [List.getElem?_eq_getElem (by omega)]
      rfl
    have f1 := blk_frozen h.ka x.val
    gi_wp2
    refine ⟨(KeepsOthers.setCell _ _ _).from _, (Below.refl w.heap.size W).setCell (p := ⟨w.heap.size, x.val, none⟩) (Nat.le_refl _) _, ?_⟩
    show PkI zs.length (clP zs.length f (pre ++ [x])) w _
    rw [clP_snoc, hLe]
    exact ⟨blk_put h.ka _ _ (by simp [u8s]), (blk_far h.kb (by simp) _), h.B.setCell (p := ⟨w.heap.size, x.val, none⟩) (Nat.le_refl _) _⟩
  case done =>
    rintro D ys W hD rfl h hK
    have c0 : W.cell? ⟨w.heap.size + 1, 0, none⟩ = some (.slice (some ⟨w.heap.size, 0, none⟩) zs.length zs.length) := (blk_cell h.kb 0).trans rfl
    gi_wp2
    refine ⟨by simp, .inl ⟨_, _, rfl, run_takeDeferred hK, ?_⟩⟩
    exact ⟨_, results_tmp rfl _ _ _, rfl, ((belowK_b (n₀ := w.heap.size + 1) (w := w3) (by omega) W D _ _ hD hK rfl rfl).block w.heap.size (by omega)).trans h.ka, h.B.trans (belowK_b (w := w) (Nat.le_refl _) W D _ _ (by omega) hK rfl rfl)⟩
  case stop =>
    rintro D c pre W _ _ h _
    exact h.elim
theorem Clean_calls (a : Option Addr) (cap : Nat) (zs : List Int) (hp : 0 < zs.length) (hreach : zs.length ≤ 1000) (w : World) (hI : Bytes w.heap.size w (.slice a zs.length cap) zs) :
    Calls Tryd.prog 18 #[.slice a zs.length cap] w fun e W' => ∃ v, e = .returned v ∧ Kd.R (Kd.int .u8) 5 W' w.heap.size (fun _ => True) v (zs.map tru) ∧ Below w.heap.size w W' :=
  (callsIn_wide.1 (Clean_in a cap zs hp hreach w hI)).mono fun e W' ⟨he, hk, hb⟩ => ⟨_, he, R_cells hk (by simp) (Nat.le_refl _) hreach, hb⟩
end Go.Proofs.YtjhnkncmdeineaaDoor.P
