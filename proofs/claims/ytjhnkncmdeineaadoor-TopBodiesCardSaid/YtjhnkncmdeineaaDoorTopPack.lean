/- A string of bits as bytes, by the program. Conditions: those that each lemma names. -/
import Derived.Test.YtjhnkncmdeineaaDoorBitsPlain
import Derived.Test.YtjhnkncmdeineaaDoorPx
namespace Go.Proofs.YtjhnkncmdeineaaDoor.P
open Go.RowKit Go.Proofs.YtjhnkncmdeineaaDoorW.PrintWords Go.Proofs.YtjhnkncmdeineaaDoorW.PrintLast Go.Proofs.YtjhnkncmdeineaaDoorW.PrintMore Go.Shelf
attribute [local go_sem] Oper.semAt_some
set_option linter.unusedVariables false
set_option linter.unusedSimpArgs false
theorem info5u : (Tryd.prog.info? 5).map (fun i => (i.zero, i.size, i.bytes)) = some (some (.int .u8 0), 1, 1) := by kernel_rfl
theorem wpListIn_make_row {F : Fence} {n0 : Nat} {P : Program} (w : World) {ops : Array Oper} {rest : List Oper} {o : Oper} {a : Act} {Q : Exit → Act → World → Prop}
    (hg : o.guard = none) (l c : Operand) (t : TypeId) (hop : o.op = Op.makeSlice t l c) (e : TypeId) (z : Value) (bytes : Nat) (ht : P.underlying t = some (.slice e)) (hinfo : (P.info? e).map (fun i => (i.zero, i.size, i.bytes)) = some (some z, 1, bytes)) (hz1 : z.cells = #[z])
    (kl kc : IntKind) (n : Nat) (hl : a.eval l = .int kl (n : Int)) (hc : a.eval c = .int kc (n : Int)) (hbytes : bytes * n ≤ 281474976710656) (h63 : n ≤ 9223372036854775807)
    (hK : wpListIn F n0 P ops Q rest (a.put o.dst (.slice (some ⟨w.heap.size, 0, none⟩) n n)) (w.alloc (.cells (madeCells #[z] n) e))) :
    wpListIn F n0 P ops Q (o :: rest) a w := by
  refine wpListIn_plain hg fun K hK' => ?_
  have hrun := run_make_row' (P := P) t e z bytes ht hinfo hz1 kl kc n hbytes h63 w
  unfold Oper.wpIn
  refine ⟨by simp [Oper.about, hop], ?_⟩
  rw [Oper.semAt_plain F _ _ (by rw [hop]; intro c hc'; cases hc')]
  simp [execOp, hop, hl, hc, hrun, Result.andThen]
  exact hK' _ _ hK
def u8s (l : List Int) : Array Value := (l.map (fun x => Value.int .u8 x)).toArray
theorem fin_succ {len k : Nat} (h : k < len) : (List.finRange len).take (k + 1) = (List.finRange len).take k ++ [⟨k, h⟩] := by
  rw [List.take_add_one, List.getElem?_eq_getElem (by simpa using h)]
  simp
theorem fin_len {len k : Nat} (h : k ≤ len) : ((List.finRange len).take k).length = k := by simp; omega
set_option maxRecDepth 100000 in
set_option maxHeartbeats 2000000 in
theorem placesF_in (F : Fence) (n : Nat) (h72 : F.fn 25) (h73 : F.fn 26) (hro : F.round = none) (hn : 1 ≤ n) (l Bs n₀ b off len cap : Nat) (zs : List Int) (hreach : len * 8 ≤ 140737488351232) (hb : b < n₀) (J Jx : List (Fin len) → World → Prop)
    (hY : ∀ pre x W, J pre W → pre.length < len → YieldAt F (n - 1) Tryd.prog l #[.int .i64 (x.val : Int), .int .u8 (tru (zs[x.val]?.getD 0))] W fun e W' =>
      (e = .returned (.bool true) ∧ J (pre ++ [x]) W' ∧ Below n₀ W W') ∨ (e = .returned (.bool false) ∧ Jx (pre ++ [x]) W'))
    (W : World) (hBs : W.cell? ⟨Bs, 0, none⟩ = some (.slice (some ⟨b, off, none⟩) len cap)) (hc : ∀ j, j < len → W.cell? ⟨b, off + j, none⟩ = some (.int .u8 (zs[j]?.getD 0))) (h0 : J [] W) :
    CallsIn F n Tryd.prog 25 #[.func (.yield l) #[] #[], .pointer (some ⟨Bs, 0, none⟩)] W fun e W' => (∃ v, e = .returned v) ∧
      ((∃ ys, ys = List.finRange len ∧ J ys W') ∨ (∃ pre, (∃ k, k ≤ len ∧ pre = (List.finRange len).take k) ∧ Jx pre W')) := by
  refine callsIn_of_wp Tryd.func25 rfl h72 ?_ hro
  simp only [Tryd.ntmps25, List.size_toArray, List.length_cons, List.length_nil, Nat.reduceAdd, Nat.reduceSub, Array.replicate_succ, Array.replicate_zero, List.push_toArray, List.append_toArray, List.nil_append, List.cons_append]
  gi_wp2
  gi_loopw [7] (fun i wr => ∃ k : Nat, k ≤ len ∧ i = .int .i64 k ∧ J ((List.finRange len).take k) wr ∧ Below n₀ W wr)
    (fun i _ => len - (intOf i).toNat)
  case atStart => exact ⟨0, Nat.zero_le _, rfl, h0, Below.refl _ _⟩
  case round =>
    obtain ⟨k, hk, rfl, hJs, hnx⟩ := hrel
    have hcx : k < len → wr.cell? ⟨b, off + k, none⟩ = some (.int .u8 (zs[k]?.getD 0)) := fun h => (hnx.cell (p := ⟨b, off + k, none⟩) hb).trans (hc k h)
    by_cases hlt : k < len
    · obtain ⟨fn, tmps, assign, body, hy, hR⟩ := hY _ ⟨k, hlt⟩ wr hJs (by rw [fin_len hk]; exact hlt)
      dsimp only at hy
      have hcx' := hcx hlt
      gi_wp2_with (gi_at_call 26; refine (truth_in F _ h73 hro _ _).mono ?_; rintro e w' ⟨rfl, rfl⟩)
      refine hR.mono ?_
      rintro e W3 (⟨rfl, hJ3, hk3⟩ | ⟨rfl, hJx3⟩)
      · gi_wp2
        go_roundw
        case rel => exact ⟨k + 1, by omega, by simp, by rw [fin_succ hlt]; exact hJ3, hnx.trans hk3⟩
        case measure => simp [intOf]; omega
      · gi_wp2
        refine bodyPost_ret (results_none rfl _ _ _) rfl ?_
        exact ⟨⟨_, rfl⟩, .inr ⟨_, ⟨k + 1, by omega, (fin_succ hlt).symm⟩, hJx3⟩⟩
    · obtain rfl : k = len := by omega
      rw [List.take_of_length_le (by simp)] at hJs
      gi_wp2
      go_end0
      exact ⟨⟨_, rfl⟩, .inl ⟨_, rfl, hJs⟩⟩
theorem placesF_stops (F : Fence) (n : Nat) (h72 : F.fn 25) (h73 : F.fn 26) (hro : F.round = none) (hn : 1 ≤ n) (Bs n₀ : Nat) (sv : Value) (zs : List Int) (hreach : zs.length * 8 ≤ 140737488351232) (w : World) (hBs : Bs < w.heap.size) (hn₀ : n₀ ≤ w.heap.size)
    (hc : w.cell? ⟨Bs, 0, none⟩ = some sv) (hp : 0 < zs.length) (hI : Bytes n₀ w sv zs) (f : Nat → Int) (hf : ∀ j, f j = tru (zs[j]?.getD 0)) :
    SeqStopsK F n Tryd.prog 25 #[.pointer (some ⟨Bs, 0, none⟩)] (fun x : Fin zs.length => #[Value.int .i64 (x.val : Int), Value.int .u8 (f x.val)]) (Below n₀) (fun ys => ys = List.finRange zs.length)
      (fun pre => ∃ k, k ≤ zs.length ∧ pre = (List.finRange zs.length).take k) zs.length w := by
  obtain rfl : f = fun j => tru (zs[j]?.getD 0) := funext hf
  intro l J Jx W hW _ _ hY h0
  have hc' := (hW.cell (p := ⟨Bs, 0, none⟩) hBs).trans hc
  rcases hI.below (hW.mono hn₀) with ⟨rfl, e⟩ | ⟨b, off, cap, rfl, hb, hcs⟩
  · rw [e] at hp
    exact absurd hp (by decide)
  · exact placesF_in F n h72 h73 hro hn l Bs n₀ b off zs.length cap zs hreach hb J Jx hY W hc' hcs h0
/-- One bit into its byte. -/
def pkF (l : List Int) (i : Nat) (x : Int) : List Int := l.set (i / 8) (Go.bits .or .u8 (l[i / 8]?.getD 0) (x * 2 ^ min (IntKind.u64.wrap (7 - Go.bits .and .u64 (i : Int) 7)).toNat 8 % 256))
def pkP (m : Nat) {len : Nat} (f : Nat → Int) (ps : List (Fin len)) : List Int := ps.foldl (fun l p => pkF l p.val (f p.val)) (List.replicate m 0)
theorem pkP_snoc (m : Nat) {len : Nat} (f : Nat → Int) (ps : List (Fin len)) (x : Fin len) : pkP m f (ps ++ [x]) = pkF (pkP m f ps) x.val (f x.val) := by simp [pkP]
theorem pkF_len (l : List Int) (i : Nat) (x : Int) : (pkF l i x).length = l.length := by simp [pkF]
theorem pkP_len (m : Nat) {len : Nat} (f : Nat → Int) (ps : List (Fin len)) : (pkP m f ps).length = m := by
  unfold pkP
  have : ∀ (ps : List (Fin len)) (l : List Int), (ps.foldl (fun l p => pkF l p.val (f p.val)) l).length = l.length := fun ps => by
    induction ps with
    | nil => intro l; rfl
    | cons p r ih => intro l; rw [List.foldl_cons, ih, pkF_len]
  rw [this]
  simp
structure PkI (m : Nat) (l : List Int) (w W : World) : Prop where
  ka : W.heap[w.heap.size]? = some (.cells (u8s l) 5 (0, 0))
  kb : W.heap[w.heap.size + 1]? = some (.cells #[.slice (some ⟨w.heap.size, 0, none⟩) m m] 29 (0, 0))
  B : Below w.heap.size w W
theorem grown_blk {A B : World} {row : Option Nat} {k : Nat} {cs : Array Value} {t : TypeId} {f : Nat × Nat} (hg : A.grownBy B row) (hr : ∀ r, row = some r → ∃ o : Obj, A.heap[r]? = some o ∧ o.isCells = false) (h : A.heap[k]? = some (.cells cs t f)) : B.heap[k]? = some (.cells cs t f) :=
  (hg.block k (Array.getElem?_eq_some_iff.1 h).1 (fun e => by
    obtain ⟨o, ho, hc⟩ := hr k e.symm
    rw [h] at ho
    cases ho
    cases hc)).trans h
