/- crc.Seal by the program: the string's members as bits, and 15 more. Conditions: those that each lemma names. -/
import Derived.Test.YtjhnkncmdeineaaDoorBodSum
namespace Go.Proofs.YtjhnkncmdeineaaDoor.P
open Go.RowKit Go.Proofs.YtjhnkncmdeineaaDoorW.PrintWords Go.Proofs.YtjhnkncmdeineaaDoorW.PrintLast Go.Proofs.YtjhnkncmdeineaaDoorW.PrintMore Go.Shelf
set_option linter.unusedVariables false
set_option linter.unusedSimpArgs false
theorem Bytes.step {w W : World} {sv : Value} {zs : List Int} (h : Bytes w.heap.size w sv zs) (hb : Below w.heap.size w W) : Bytes W.heap.size W sv zs := by
  rcases h.below hb with e | ⟨b, off, cap, e, hb2, hc⟩
  · exact .inl e
  · exact .inr ⟨b, off, cap, e, Nat.lt_of_lt_of_le hb2 hb.size, hc⟩
theorem crcBits_eq (s : Int) (s0 : 0 ≤ s) (s1 : s < 65536) : crc_Bits.f 70 s = some (bitL s 15) := by
  unfold crc_Bits.f
  rw [u64w, Int.emod_eq_of_lt s0 (by omega)]
  rw [show strand_Of.f 70 s 15 = some (bitL s 15) from Of_eq 15 (by decide) (by decide) s s0 (by omega) 70 (by decide)]
  rfl
set_option maxRecDepth 100000 in
set_option maxHeartbeats 4000000 in
theorem Seal_calls (a : Option Addr) (cap : Nat) (zs : List Int) (hp : 0 < zs.length) (hreach : zs.length ≤ 200) (w : World) (hI : Bytes w.heap.size w (.slice a zs.length cap) zs) (hd : Div w) :
    Calls Tryd.prog 12 #[.slice a zs.length cap] w fun e W' => ∃ v, e = .returned v ∧ (∃ cs : List Int, cs.length = 15 ∧ Kd.R (Kd.int .u8) 5 W' w.heap.size (fun _ => True) v (zs.map tru ++ cs)) ∧ Below w.heap.size w W' := by
  have HP := Aside0.mk (And.intro hp hreach)
  have HI := Aside0.mk hI
  have HD := Aside0.mk hd
  have CC := Aside0.mk (fun w hI => Clean_calls a cap zs hp (by omega) w hI)
  have SC := Aside0.mk (fun w hI hd => Sum_calls a cap zs hp hreach w hI hd)
  clear hp hreach hI hd
  go_enter Tryd.func12, Tryd.ntmps12
  go_wp2_with fail
  (with_reducible refine (CC.out _ HI.out).mono ?_)
  rintro e W1 ⟨v1, rfl, hR, hb⟩
  have HR := Aside0.mk hR
  have B := Aside0.mk hb
  have nI := Aside0.mk ((Bytes.step HI.out hb))
  have nD := Aside0.mk (HD.out.below hb)
  clear hR hb CC HI HD
  go_wp2_with fail
  (with_reducible refine (SC.out _ nI.out nD.out).mono ?_)
  rintro e W2 ⟨⟨s, s0, s1, rfl⟩, hb⟩
  have nR := Aside0.mk (Kd.R_below HR.out hb)
  have nB := Aside0.mk (below_step B.out hb)
  have BC := Aside0.mk (fun w => crc_Bits.calls 70 s (bitL s 15) w (crcBits_eq s s0 s1))
  clear hb HR B SC nI nD s0 s1
  go_wp2_with fail
  (with_reducible refine (BC.out _).mono ?_)
  rintro e W3 ⟨v3, rfl, hR3, hb⟩
  obtain ⟨A1, c1, ev, hc1, hC1⟩ := Kd.R_reads hR3
  subst ev
  have RY := Aside0.mk hC1
  have HR := Aside0.mk (Kd.R_below nR.out hb)
  have B := Aside0.mk (below_step nB.out hb)
  have LB := Aside0.mk (show (zs.map tru).length + (bitL s 15).length ≤ 1000 by rw [List.length_map, bitL_len]; have := HP.out; omega)
  clear hb hR3 hC1 hc1 nR nB BC
  go_wp2_with (first | ((with_reducible refine gate_builtin (b := .append) (xs := #[.tmp 4, .tmp 7]) rfl ?_); at_builtin; refine Kd.R_append_row (fun x => Value.int .u8 x) (0 : Int) (h1 := fun _ => rfl) (w0 := w) w.heap.size rfl (.tmp 4) (.tmp 7) 29 5 (.int .u8 0) 1 rfl Tryd.underlying29 info5u rfl (by decide) _ (zs.map tru) (bitL s 15) A1 (bitL s 15).length c1 (fun _ => True) rfl rfl (fun _ _ => trivial) HR.out RY.out B.out B.out.size (by have := LB.out; omega) ?_; intro v1 w1 hR hb hg hat; have nR := Aside0.mk (show Kd.R (Kd.int .u8) 5 w1 w.heap.size (fun _ => True) v1 (zs.map tru ++ bitL s 15) from hR); have nB := Aside0.mk hb; clear hR hb hg hat HR B RY))
  go_ret
  exact ⟨_, rfl, ⟨_, bitL_len _ _, nR.out⟩, nB.out⟩
end Go.Proofs.YtjhnkncmdeineaaDoor.P
