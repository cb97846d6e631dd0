/- An epoch is not later than now, the next one is, and both are whole lengths apart: for every two numbers of 64 bits. No condition. -/
import Derived.Test.YtbjepiglagnpjaaQuantLib
namespace Go.Proofs.Ytbjepiglagnpjaa.Pure
open Go.RowKit Go.Proofs.Ytbjepiglagnpjaa.P Go.Proofs.YtbjepiglagnpjaaW.PrintWords Go.Proofs.YtbjepiglagnpjaaW.PrintLast

theorem QuantEpochs : bellbuoylaw22_QuantEpochs.Pure := by
  intro a0 a2 _ _
  obtain ⟨t, ht, t0, t1⟩ := near_eq a0
  obtain ⟨m, hm, m0, m1⟩ := len_eq a2
  have Tt : Tm t := ⟨by omega, by omega⟩
  have Lm : Ln m := ⟨m0, m1⟩
  have e := Int.mul_ediv_add_emod t m
  have r0 := Int.emod_nonneg t (b := m) (by omega)
  have r1 := Int.emod_lt_of_pos t (b := m) (by omega)
  have hE : (t - t % m) / m = t / m := by
    refine ((Int.ediv_emod_unique (a := t - t % m) (r := 0) (q := t / m) (b := m) (by omega)).2 ⟨by omega, by omega, by omega⟩).1
  unfold bellbuoylaw22_QuantEpochs.f quant_Next.f
  rw [ht]
  simp only [Option.bind_some, hm]
  rw [Epoch_eq t m Tt Lm]
  simp only [Option.bind_some, if_true]
  unfold bellbuoyref01_Mod.f
  rw [refDiv_eq _ m (by omega) (by omega) (by omega) (by omega), hE]
  simp only [Option.bind_some, if_true, live_eq]
  rw [i64w (t - t % m + m) (by omega) (by omega), if_pos (by omega), if_pos (by omega), i64w (t - t % m + m - (t - t % m)) (by omega) (by omega), if_pos (by omega)]
  rw [show m * (t / m) = t - t % m by omega, i64w (t - t % m) (by omega) (by omega), i64w _ (by omega) (by omega)]
  simp

end Go.Proofs.Ytbjepiglagnpjaa.Pure
