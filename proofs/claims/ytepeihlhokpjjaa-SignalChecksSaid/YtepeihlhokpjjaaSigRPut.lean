/- What is laid there, by the document. Conditions: those that each lemma names. -/
import Derived.Test.YtepeihlhokpjjaaSigRGet
namespace Go.Proofs.Ytepeihlhokpjjaa.P
open Go.RowKit Go.Proofs.YtepeihlhokpjjaaW.PrintWords Go.Proofs.YtepeihlhokpjjaaW.PrintLast Go.Proofs.YtepeihlhokpjjaaW.PrintMore
set_option linter.unusedVariables false
set_option linter.unusedSimpArgs false
theorem RRight_walk (s : Sg) (w : World) : Calls Try.prog 18 #[s.g] w fun e w' => e = .returned (.bool (!badS s)) ∧ Below w.heap.size w w' := bellbuoyref37_Right.calls 198 _ _ _ _ _ _ _ w (RRight_eq s)
theorem Rin_walk (s : Sg) (raw : Int) (w : World) : Calls Try.prog 34 #[s.g, .int .i64 raw] w fun e w' => e = .returned (.bool (fitsV s raw)) ∧ Below w.heap.size w w' := bellbuoyref37_in.calls 198 _ _ _ _ _ _ _ _ w (Rin_eq s raw)
theorem and_tab : ∀ x : Fin 256, ∀ r : Fin 8, Go.bits .and .u8 (x.1 : Int) (oneU (r.1 : Int)) = (x.1 : Int) / 2 ^ r.1 % 2 * 2 ^ r.1 ∧ oneU (r.1 : Int) = 2 ^ r.1 := by decide +kernel
theorem mod_div_bit (raw : Int) (i : Nat) (hi : i < 64) : raw % 18446744073709551616 / 2 ^ i % 2 = raw / 2 ^ i % 2 := by
  obtain ⟨P, hP⟩ : ∃ P : Int, 2 ^ (63 - i) = P := ⟨_, rfl⟩
  have hM : (2 : Int) ^ i * (2 * P) = 18446744073709551616 := by
    rw [← hP, ← Int.mul_assoc, ← Int.pow_succ, ← Int.pow_add, show i + 1 + (63 - i) = 64 by omega]
    decide
  have hpos : (0 : Int) < 2 ^ i := Int.pow_pos (by omega)
  have e : raw = raw % 18446744073709551616 + 2 ^ i * (2 * P * (raw / 18446744073709551616)) := by
    rw [← Int.mul_assoc, hM]
    omega
  conv => rhs; rw [e]
  rw [Int.add_mul_ediv_left _ _ (by omega), Int.mul_assoc]
  omega
/-- The bit of a number, by the document. -/
def rbit (raw : Int) (i : Nat) : Bool := Go.bits .and .u64 (IntKind.u64.wrap raw / 2 ^ min (IntKind.u64.wrap (i : Int)).toNat 64) 1 == 1
theorem rbit_eq (raw : Int) (i : Nat) (hi : i < 64) : rbit raw i = rawBit raw (i : Int) := by
  have h1 := rawB_eq raw i hi
  unfold rbit
  have hm := mod64 raw
  have e1 : min (IntKind.u64.wrap (i : Int)).toNat 64 = i := by rw [mod64]; omega
  have hd : IntKind.u64.wrap raw / 2 ^ i % 2 = raw / 2 ^ i % 2 := by rw [hm, mod_div_bit raw i hi]
  have h0 : 0 ≤ IntKind.u64.wrap raw / 2 ^ i := Int.ediv_nonneg (by rw [hm]; omega) (Int.le_of_lt (Int.pow_pos (by omega)))
  have hlt : IntKind.u64.wrap raw / 2 ^ i < 18446744073709551616 := by
    have := Int.ediv_le_self (2 ^ i) (show 0 ≤ IntKind.u64.wrap raw by rw [hm]; omega)
    rw [hm] at this ⊢
    omega
  rw [e1, and_one _ h0 hlt, hd, ← h1]
  unfold rawB
  cases rawBit raw (i : Int) <;> rfl
theorem putS_forms {d : List Int} (h : Byts d) {a : Int} (a0 : 0 ≤ a) (a1 : a < 64) (raw : Int) {i : Nat} (hi : i < 64) {b1 b2 : Bool} (h1 : (Go.bits .and .u8 (rd d (Int.tdiv a 8)) (bitU a) != 0) = b1) (h2 : rbit raw i = b2) :
    putS raw d a (i : Int) = if b1 = true then (if b2 = true then (d.set (Int.tdiv a 8).toNat ((rd d (Int.tdiv a 8) - bitU a) % 256)).set (Int.tdiv a 8).toNat (rd d (Int.tdiv a 8) % 256) else d.set (Int.tdiv a 8).toNat ((rd d (Int.tdiv a 8) - bitU a) % 256)) else (if b2 = true then d.set (Int.tdiv a 8).toNat ((rd d (Int.tdiv a 8) + bitU a) % 256) else d) := by
  rw [rbit_eq raw i hi] at h2
  rw [putS_eq h a0 a1, h2]
  rw [Int.tdiv_eq_ediv_of_nonneg a0] at h1 ⊢
  have hb := rd_byte h (q := a / 8) (by omega) (by omega)
  have hq : (a / 8).toNat < d.length := by rw [h.1]; omega
  have hself : d.set (a / 8).toNat (rd d (a / 8)) = d := by
    have : rd d (a / 8) = d[(a / 8).toNat] := by simp [rd, hq]
    rw [this]
    exact List.set_getElem_self hq
  obtain ⟨x, hx⟩ : ∃ x : Fin 256, rd d (a / 8) = (x.1 : Int) := ⟨⟨(rd d (a / 8)).toNat, by omega⟩, by show _ = (((rd d (a / 8)).toNat : Nat) : Int); omega⟩
  obtain ⟨r, hr⟩ : ∃ r : Fin 8, a % 8 = (r.1 : Int) := ⟨⟨(a % 8).toNat, by omega⟩, by show _ = (((a % 8).toNat : Nat) : Int); omega⟩
  have hU : bitU a = oneU (r.1 : Int) := by
    unfold bitU oneU
    rw [Int.tmod_eq_emod_of_nonneg a0, hr]
  have t := and_tab x r
  have bt := (bit_tab x r).1
  rw [hx] at hself hb
  rw [hU, hx, t.1] at h1
  rw [hU, hx, hr, Int.toNat_natCast, t.2]
  have hP : (0 : Int) < 2 ^ r.1 := Int.pow_pos (by omega)
  rcases (by omega : (x.1 : Int) / 2 ^ r.1 % 2 = 0 ∨ (x.1 : Int) / 2 ^ r.1 % 2 = 1) with e | e
  · rw [e, Int.zero_mul] at h1
    rw [e, Int.zero_mul, Int.sub_zero] at bt
    have hb1 : b1 = false := by rw [← h1]; rfl
    subst hb1
    unfold layB
    rw [e, Int.zero_mul, Int.sub_zero]
    cases b2
    · simp only [Bool.false_eq_true, if_false, Int.add_zero]
      exact hself
    · simp only [Bool.false_eq_true, if_false, if_true]
      rw [Int.emod_eq_of_lt (by omega) (by omega)]
  · rw [e, Int.one_mul] at h1
    rw [e, Int.one_mul] at bt
    have hb1 : b1 = true := by
      rw [← h1, bne_iff_ne]
      omega
    subst hb1
    unfold layB
    rw [e, Int.one_mul]
    cases b2
    · simp only [Bool.false_eq_true, if_false, if_true, Int.add_zero]
      rw [Int.emod_eq_of_lt (by omega) (by omega)]
    · simp only [if_true]
      rw [List.set_set, Int.emod_eq_of_lt (by omega) (by omega), Int.sub_add_cancel]
set_option maxHeartbeats 8000000 in
set_option maxRecDepth 100000 in
theorem RPut_walk (d : List Int) (hd : Byts d) (s : Sg) (raw : Int) (w : World) : Calls Try.prog 9 #[.agg (bytesA d), s.g, .int .i64 raw] w fun e w' => e = .returned (.tuple #[.agg (bytesA (putV d s raw).1), .int .i64 (putV d s raw).2]) ∧ Below w.heap.size w w' := by
  have hu23 := Try.underlying23
  have hu24 := Try.underlying24
  have hu35 := Try.underlying35
  have PC := Aside0.mk (RPlaces_walk s)
  have RC := Aside0.mk (RRight_walk s)
  have FC := Aside0.mk (fun w => Rin_walk s raw w)
  have PR := Aside0.mk (placesV_range s)
  have PL := Aside0.mk (placesV_len s)
  have D8 := Aside0.mk hd
  clear hd
  have PV : Aside0 (putV d s raw = if badS s = true then (zeros8, 10) else if fitsV s raw = true then (putL raw (placesV s) 0 d, 0) else (zeros8, 1)) := ⟨rfl⟩
  generalize putV d s raw = pv at PV ⊢
  generalize badS s = bd at RC PV
  generalize fitsV s raw = fv at FC PV
  generalize placesV s = l at PC PR PL PV
  have Z := Aside0.mk (Pb.made d s w)
  go_enter Try.func9, Try.ntmps9
  go_wp2_with fail
  (with_reducible refine (RC.out _).mono ?_)
  rintro e W ⟨rfl, hb⟩
  have Z2 := Aside0.mk (Z.out.below hb)
  clear Z hb
  have Z := Z2
  clear Z2
  obtain ⟨f0, f1, f2, f3, f4, f5, f6, f7⟩ := oct_frozen Z.out.kr
  obtain ⟨r0, r1, r2, r3, r4, r5, r6, r7⟩ := oct_cells Z.out.kr
  rcases bd with _ | _
  · obtain ⟨c0, c1, c2, c3, c4, c5⟩ := sg_cells Z.out.ks
    go_wp2_with fail
    (with_reducible refine (FC.out _).mono ?_)
    rintro e W2 ⟨rfl, hb⟩
    have Z2 := Aside0.mk (Z.out.below hb)
    clear Z hb f0 f1 f2 f3 f4 f5 f6 f7 r0 r1 r2 r3 r4 r5 r6 r7 c0 c1 c2 c3 c4 c5
    have Z := Z2
    clear Z2
    obtain ⟨f0, f1, f2, f3, f4, f5, f6, f7⟩ := oct_frozen Z.out.kr
    obtain ⟨r0, r1, r2, r3, r4, r5, r6, r7⟩ := oct_cells Z.out.kr
    obtain ⟨c0, c1, c2, c3, c4, c5⟩ := sg_cells Z.out.ks
    rcases fv with _ | _
    · go_wp2
      (try simp only [Exit.inBlock, Exit.then])
      refine bodyPost_ret (results_ct rfl _ _ (w.heap.size + 1 + 1) 24 (oct 0 0 0 0 0 0 0 0) (0, 0) _ rfl (setOct_blk 0 0 0 0 0 0 0 0 Z.out.kr) Try.underlying24 rfl (by kernel_rfl)) rfl ?_
      exact ⟨by rw [PV.out]; rfl, setOct_below _ _ _ _ _ _ _ _ Z.out.B Z.out.l3⟩
    · clear f0 f1 f2 f3 f4 f5 f6 f7 r0 r1 r2 r3 r4 r5 r6 r7
      go_wp2_with fail
      (with_reducible refine (PC.out _).mono ?_)
      rintro e W ⟨v, rfl, hR, hb⟩
      have Z2 := Aside0.mk (Z.out.below hb)
      have HR0 := Aside0.mk (Kd.R_types (Kd.R_lower hR Z.out.B.size) Z2.out.kd (by intro q hq; simp [Kd.int, Kd.scalar] at hq; subst hq; decide))
      clear Z hb hR c0 c1 c2 c3 c4 c5
      have Z := Z2
      clear Z2
      obtain ⟨A, cp, ev⟩ := Kd.R_slice HR0.out
      subst ev
      obtain ⟨D, hD⟩ : ∃ D, putL raw l 0 d = D := ⟨_, rfl⟩
      rw [hD] at PV
      have H0 : Aside0 (Byts d ∧ putL raw (l.drop 0) 0 d = D) := ⟨D8.out, hD⟩
      clear hD
      go_wp2
      go_loopg [9] (l.length + 1) (fun kq v9 w' => ∃ (k : Nat) (dc : List Int), v9 = .int .i64 (k : Int) ∧ Aside0 (k ≤ l.length ∧ l.length < k + kq) ∧ Aside0 (Byts dc ∧ putL raw (l.drop k) k dc = D) ∧ Aside0 (Pb dc s w.heap.size (w.heap.size + 1) (w.heap.size + 1 + 1) w w') ∧ Aside0 (Kd.R (Kd.int .i64) 3 w' w.heap.size (fun k => True ∧ k ≠ w.heap.size) (.slice A l.length cp) l))
      case atStart => exact ⟨0, d, rfl, ⟨by omega⟩, H0, Z, HR0⟩
      case round =>
        clear H0 Z HR0
        obtain ⟨k, dc, rfl, HK, HL, Z, HR⟩ := hrel
        cases gk with
        | zero => exact absurd HK.out (by omega)
        | succ k1 =>
          by_cases hlt : k < l.length
          · have u1 : decide ((k : Int) < (l.length : Int)) = true := decide_eq_true (by omega)
            have u1b : decide (k < l.length) = true := decide_eq_true hlt
            have p1 : (0 ≤ (k : Int)) = True := eq_true (by omega)
            have q1 : ((k : Int) < (l.length : Int)) = True := eq_true (by omega)
            obtain ⟨ad, ea, hx⟩ := Kd.at_int (Kd.R_reads' HR.out).2.2 (k : Int) (by omega) (by omega)
            cases ea
            rw [Int.toNat_natCast] at hx
            have hrg := PR.out _ (rd_mem hlt)
            have HL2 : Aside0 (putL raw (l.drop (k + 1)) (k + 1) (putS raw dc (rd l (k : Int)) (k : Int)) = D) := ⟨by
              have := HL.out.2
              rw [drop_rd hlt] at this
              exact this⟩
            generalize rd l (k : Int) = a at hx hrg HL2
            have t1 : 0 ≤ Int.tdiv a 8 ∧ Int.tdiv a 8 < 8 := by rw [Int.tdiv_eq_ediv_of_nonneg hrg.1]; omega
            have hby := bytesA_at Z.out.kd (Int.tdiv a 8) t1.1 (by rw [HL.out.1.1]; exact t1.2)
            have hfr := blk_frozen Z.out.kd (Int.tdiv a 8).toNat
            have p2 : (0 ≤ Int.tdiv a 8) = True := eq_true t1.1
            have q2 : (Int.tdiv a 8 < 8) = True := eq_true t1.2
            have e8 : wrap64 (Int.tdiv a 8) = Int.tdiv a 8 := wr_small _ (by omega) (by omega)
            have k1' : wrap64 ((k : Int) + 1) = ((k + 1 : Nat) : Int) := by rw [wr_small _ (by omega) (by have := PL.out; omega)]; rfl
            have HRG := Aside0.mk hrg
            clear t1 hrg
            go_wp2
            go_quiet (fail)
            have hbn := pw_below_drewN (Below.refl wr.heap.size wr) nq
            have Z5 := Aside0.mk (Z.out.below hbn)
            have HR5 := Aside0.mk (Kd.R_below HR.out hbn)
            clear Z HR hbn hby hfr hx
            generalize wr.drewN nq = W5 at Z5 HR5 ⊢
            have hby := bytesA_at Z5.out.kd (Int.tdiv a 8) (of_eq_true p2) (by rw [HL.out.1.1]; exact of_eq_true q2)
            have hfr := blk_frozen Z5.out.kd (Int.tdiv a 8).toNat
            rw [show (2 : Int) ^ min (IntKind.u64.wrap (Int.tmod a 8)).toNat 8 % 256 = bitU a from rfl]
            obtain ⟨b1, hb1⟩ : ∃ b1, (Go.bits .and .u8 (rd dc (Int.tdiv a 8)) (bitU a) != 0) = b1 := ⟨_, rfl⟩
            obtain ⟨b2, hb2⟩ : ∃ b2, (Go.bits .and .u64 (IntKind.u64.wrap raw / 2 ^ min (IntKind.u64.wrap (k : Int)).toNat 64) 1 == 1) = b2 := ⟨_, rfl⟩
            have KL := Aside0.mk hlt
            have PF := Aside0.mk (putS_forms HL.out.1 HRG.out.1 HRG.out.2 raw (i := k) (by have := PL.out; omega) hb1 hb2)
            have PB := Aside0.mk (putS_byts HL.out.1 HRG.out.1 HRG.out.2 raw (k : Int))
            clear hlt
            generalize bitU a = bt at hb1 PF ⊢
            cases b1
            · cases b2
              · have HN : Aside0 (Byts dc) := ⟨HL.out.1⟩
                go_wp2
                go_roundg k1
                case rel => exact ⟨k + 1, _, by first | rfl | rw [k1'], ⟨by have := HK.out; have := KL.out; omega⟩, ⟨HN.out, by rw [← HL2.out, PF.out]; rfl⟩, ⟨Z5.out⟩, ⟨HR5.out⟩⟩
                case measure => omega
              · have HN : Aside0 (Byts (dc.set (Int.tdiv a 8).toNat ((rd dc (Int.tdiv a 8) + bt) % 256))) := ⟨by have := PB.out; rw [PF.out] at this; exact this⟩
                go_wp2
                go_roundg k1
                case rel => exact ⟨k + 1, _, by first | rfl | rw [k1'], ⟨by have := HK.out; have := KL.out; omega⟩, ⟨HN.out, by rw [← HL2.out, PF.out]; rfl⟩, ⟨Z5.out.put _ _⟩, ⟨Kd.R_far HR5.out (fun k h => h.2) _⟩⟩
                case measure => omega
            · cases b2
              · have HN : Aside0 (Byts (dc.set (Int.tdiv a 8).toNat ((rd dc (Int.tdiv a 8) - bt) % 256))) := ⟨by have := PB.out; rw [PF.out] at this; exact this⟩
                go_wp2
                go_roundg k1
                case rel => exact ⟨k + 1, _, by first | rfl | rw [k1'], ⟨by have := HK.out; have := KL.out; omega⟩, ⟨HN.out, by rw [← HL2.out, PF.out]; rfl⟩, ⟨Z5.out.put _ _⟩, ⟨Kd.R_far HR5.out (fun k h => h.2) _⟩⟩
                case measure => omega
              · have HN : Aside0 (Byts ((dc.set (Int.tdiv a 8).toNat ((rd dc (Int.tdiv a 8) - bt) % 256)).set (Int.tdiv a 8).toNat (rd dc (Int.tdiv a 8) % 256))) := ⟨by have := PB.out; rw [PF.out] at this; exact this⟩
                go_wp2
                go_roundg k1
                case rel => exact ⟨k + 1, _, by first | rfl | rw [k1'], ⟨by have := HK.out; have := KL.out; omega⟩, ⟨HN.out, by rw [← HL2.out, PF.out]; rfl⟩, ⟨(Z5.out.put _ _).put _ _⟩, ⟨Kd.R_far (Kd.R_far HR5.out (fun k h => h.2) _) (fun k h => h.2) _⟩⟩
                case measure => omega
          · have u1 : decide ((k : Int) < (l.length : Int)) = false := decide_eq_false (by omega)
            have u1b : decide (k < l.length) = false := decide_eq_false hlt
            have EN : Aside0 (dc = D) := ⟨by
              have := HL.out.2
              rw [show k = l.length by have := HK.out; omega, List.drop_length] at this
              exact this⟩
            obtain ⟨x0, x1, x2, x3, x4, x5, x6, x7, e8⟩ := eight HL.out.1.1
            subst e8
            have KD : Aside0 (wr.heap[w.heap.size]? = some (.cells (oct x0 x1 x2 x3 x4 x5 x6 x7) 24 (0, 0))) := ⟨Z.out.kd⟩
            obtain ⟨f0, f1, f2, f3, f4, f5, f6, f7⟩ := oct_frozen Z.out.kr
            obtain ⟨r0, r1, r2, r3, r4, r5, r6, r7⟩ := oct_cells Z.out.kr
            obtain ⟨d0, d1, d2, d3, d4, d5, d6, d7⟩ := oct_cells KD.out
            clear hlt HL
            go_wp2
            (try simp only [Exit.inBlock, Exit.then])
            refine bodyPost_ret (results_ct rfl _ _ (w.heap.size + 1 + 1) 24 (oct x0 x1 x2 x3 x4 x5 x6 x7) (0, 0) _ rfl (setOct_blk x0 x1 x2 x3 x4 x5 x6 x7 Z.out.kr) Try.underlying24 rfl (by kernel_rfl)) rfl ?_
            exact ⟨by rw [PV.out, ← EN.out]; rfl, setOct_below _ _ _ _ _ _ _ _ Z.out.B Z.out.l3⟩
  · go_wp2
    (try simp only [Exit.inBlock, Exit.then])
    refine bodyPost_ret (results_ct rfl _ _ (w.heap.size + 1 + 1) 24 (oct 0 0 0 0 0 0 0 0) (0, 0) _ rfl (setOct_blk 0 0 0 0 0 0 0 0 Z.out.kr) Try.underlying24 rfl (by kernel_rfl)) rfl ?_
    exact ⟨by rw [PV.out]; rfl, setOct_below _ _ _ _ _ _ _ _ Z.out.B Z.out.l3⟩
end Go.Proofs.Ytepeihlhokpjjaa.P
