/- What a stamp is expanded to has it, is not above now, and lies less than a turn behind: for every now, stamp and width. No condition. -/
import Derived.Test.YtdlpmbjnplnjnaaOscLib
namespace Go.Proofs.Ytdlpmbjnplnjnaa.Pure
open Go.RowKit Go.Proofs.Ytdlpmbjnplnjnaa.P Go.Proofs.YtdlpmbjnplnjnaaW.PrintWords Go.Proofs.YtdlpmbjnplnjnaaW.PrintLast

theorem OscLatest : bellbuoylaw16_OscLatest.Pure := by
  intro now s a2 hn hs ha
  have hn := wfi hn
  have hs := wfu hs
  refine ⟨1, ?_⟩
  unfold bellbuoylaw16_OscLatest.f
  by_cases hno : a2 < 1 ∨ 62 < a2 ∨ 2 ^ a2.toNat ≤ s ∨ now < 0
  · rw [Expand_no now s a2 hno 0]
    simp [bellbuoylaw16_live.f]
  · obtain ⟨w, rfl⟩ : ∃ w : Nat, a2 = w := ⟨a2.toNat, by omega⟩
    rw [Int.toNat_natCast] at hno
    have hT := pow_facts w (by omega) (by omega)
    rw [Expand_eq now s w (by omega) (by omega) (by omega) hn.2 hs.1 (by omega) 0, expandV]
    by_cases hb : now < bk now s w
    · rw [if_pos hb]
      simp [bellbuoylaw16_live.f]
    · rw [if_neg hb]
      have m0 : 0 ≤ bk now s w := Int.emod_nonneg _ (by omega)
      have m1 : bk now s w < 2 ^ w := Int.emod_lt_of_pos _ (by omega)
      have hm := bk_mod now s w (by omega) (by omega) hs.1 (by omega)
      simp only [Option.bind_some, if_true, bellbuoylaw16_live.f]
      rw [if_pos (by omega), if_pos (by omega), if_pos (by rw [u64w]; omega)]
      have hsh : shr .i64 (wrap64 (now - (now - bk now s w))) (IntKind.u64.wrap (w : Int)) = 0 := by
        have h : (IntKind.u64.wrap (w : Int)).toNat = w := by rw [u64w]; omega
        unfold shr
        rw [h, Nat.min_eq_left (by show w ≤ 64; omega), wr64 _ (by omega) (by omega)]
        exact Int.ediv_eq_zero_of_lt (by omega) (by omega)
      rw [if_pos hsh, Stamp_eq _ w (by omega) (by omega)]
      simp only [Option.bind_some]
      rw [hm]
      simp

end Go.Proofs.Ytdlpmbjnplnjnaa.Pure
