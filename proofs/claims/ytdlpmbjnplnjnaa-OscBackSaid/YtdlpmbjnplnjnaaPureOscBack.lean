/- A stamp is expanded to its count, if that lies less than a turn behind now: for every now, distance and width. No condition. -/
import Derived.Test.YtdlpmbjnplnjnaaOscLib
namespace Go.Proofs.Ytdlpmbjnplnjnaa.Pure
open Go.RowKit Go.Proofs.Ytdlpmbjnplnjnaa.P Go.Proofs.YtdlpmbjnplnjnaaW.PrintWords Go.Proofs.YtdlpmbjnplnjnaaW.PrintLast

theorem OscBack : bellbuoylaw16_OscBack.Pure := by
  intro a0 a1 a2 h0 h1 h2
  have h1 := wfu h1
  have h2 := wf8 h2
  have hw : wrap64 (Int.tmod (wrap64 a2) 62 + 1) = ((a2.toNat % 62 + 1 : Nat) : Int) := by
    rw [wr64 a2 (by omega) (by omega), Int.tmod_eq_emod_of_nonneg h2.1, wr64 _ (by omega) (by omega)]
    omega
  obtain ⟨w, hw0, hw1, hw2⟩ : ∃ w : Nat, ((a2.toNat % 62 + 1 : Nat) : Int) = (w : Int) ∧ 1 ≤ w ∧ w ≤ 62 := ⟨_, rfl, by omega, by omega⟩
  have hT := pow_facts w hw1 hw2
  refine ⟨1, ?_⟩
  unfold bellbuoylaw16_OscBack.f
  rw [hw, hw0, if_pos (by rw [u64w]; omega), shl_u64 w hw2, mask62]
  have hu : IntKind.u64.wrap ((2 : Int) ^ w - 1) = 2 ^ w - 1 := by rw [u64w]; omega
  rw [hu, mask_u64 a1 w (by omega) h1.1 (by omega)]
  have d0 := Int.emod_nonneg a1 (b := 2 ^ w) (by omega)
  have d1 := Int.emod_lt_of_pos a1 (b := 2 ^ w) (by omega)
  generalize hd : a1 % 2 ^ w = d at *
  generalize hn : a0 % 4611686018427387904 = now
  have n0 : 0 ≤ now ∧ now < 4611686018427387904 := by omega
  rw [wr64 d (by omega) (by omega)]
  by_cases hc : d > now
  · rw [if_pos hc]; rfl
  · have s0 := Int.emod_nonneg (now - d) (b := 2 ^ w) (by omega)
    have s1 := Int.emod_lt_of_pos (now - d) (b := 2 ^ w) (by omega)
    rw [if_neg hc, wr64 (now - d) (by omega) (by omega), Stamp_eq _ w hw1 hw2]
    simp only [Option.bind_some]
    rw [Expand_eq now _ w hw1 hw2 n0.1 (by omega) s0 s1 0, expandV, bk_back now d w hw1 hw2 d0 d1, if_neg (by omega)]
    simp [bellbuoylaw16_live.f]

end Go.Proofs.Ytdlpmbjnplnjnaa.Pure
