/- What stands there, by the document. Conditions: those that each lemma names. -/
import Derived.Test.YtepeihlhokpjjaaSigRWorth
namespace Go.Proofs.Ytepeihlhokpjjaa.P
open Go.RowKit Go.Proofs.YtepeihlhokpjjaaW.PrintWords Go.Proofs.YtepeihlhokpjjaaW.PrintLast Go.Proofs.YtepeihlhokpjjaaW.PrintMore
set_option linter.unusedVariables false
set_option linter.unusedSimpArgs false
theorem RPlaces_walk (s : Sg) (w : World) : Calls Try.prog 21 #[s.g] w fun e w' => ∃ v, e = .returned v ∧ Kd.R (Kd.int .i64) 3 w' w.heap.size (fun _ => True) v (placesV s) ∧ Below w.heap.size w w' := bellbuoyref37_Places.calls 198 _ _ _ _ _ _ _ w (RPlaces_eq s)
def stepR (d : List Int) (n a : Int) : Int := IntKind.u64.wrap (IntKind.u64.wrap (n * 2) + IntKind.u64.wrap (Go.bits .and .u8 (rd d (Int.tdiv a 8) / 2 ^ min (IntKind.u64.wrap (Int.tmod a 8)).toNat 8) 1))
def rgN (d l : List Int) : Nat → Int → Int
  | 0, n => n
  | m + 1, n => rgN d l m (stepR d n (rd l (m : Int)))
theorem stepR_eq {d : List Int} (h : Byts d) {a : Int} (a0 : 0 ≤ a) (a1 : a < 64) {n : Int} (n0 : 0 ≤ n) (n1 : n < 9223372036854775808) : stepR d n a = n * 2 + bitAt d a := by
  unfold stepR
  rw [Int.tdiv_eq_ediv_of_nonneg a0, Int.tmod_eq_emod_of_nonneg a0]
  have hb := rd_byte h (q := a / 8) (by omega) (by omega)
  have hbit := bitAt_01 d a
  unfold bitAt at hbit ⊢
  obtain ⟨x, hx⟩ : ∃ x : Fin 256, rd d (a / 8) = (x.1 : Int) := ⟨⟨(rd d (a / 8)).toNat, by omega⟩, by show _ = (((rd d (a / 8)).toNat : Nat) : Int); omega⟩
  obtain ⟨r, hr⟩ : ∃ r : Fin 8, a % 8 = (r.1 : Int) := ⟨⟨(a % 8).toNat, by omega⟩, by show _ = (((a % 8).toNat : Nat) : Int); omega⟩
  rw [hx, hr, Int.toNat_natCast] at hbit
  rw [hx, hr, and8 x r, Int.toNat_natCast, mod64, mod64, mod64]
  generalize (x.1 : Int) / 2 ^ r.1 % 2 = b at hbit ⊢
  omega
theorem valL_snoc (f : Int → Int) : ∀ (l : List Int) (a : Int), valL f (l ++ [a]) = valL f l + 2 ^ l.length * f a
  | [], a => by simp [valL]
  | b :: r, a => by
    show f b + 2 * valL f (r ++ [a]) = f b + 2 * valL f r + 2 ^ (r.length + 1) * f a
    rw [valL_snoc f r a, Int.pow_succ, Int.mul_add, Int.mul_comm (2 ^ r.length) 2, Int.mul_assoc]
    omega
theorem rgN_eq {d : List Int} (h : Byts d) (l : List Int) (hl : ∀ a ∈ l, 0 ≤ a ∧ a < 64) : ∀ (m j : Nat) (n : Int), m ≤ l.length → j + m ≤ 64 → 0 ≤ n → n < 2 ^ j → rgN d l m n = n * 2 ^ m + valL (bitAt d) (l.take m)
  | 0, j, n, _, _, _, _ => by simp [rgN, valL]
  | m + 1, j, n, hm, hj, h0, h1 => by
    have hlt : m < l.length := by omega
    have ha := hl _ (rd_mem hlt)
    have hp := pow_bound (i := j) (by omega)
    have hb := bitAt_01 d (rd l (m : Int))
    show rgN d l m (stepR d n (rd l (m : Int))) = _
    rw [stepR_eq h ha.1 ha.2 h0 (by omega)]
    rw [rgN_eq h l hl m (j + 1) _ (by omega) (by omega) (by omega) (by rw [Int.pow_succ]; omega)]
    have et : l.take (m + 1) = l.take m ++ [rd l (m : Int)] := by
      rw [List.take_add_one, List.getElem?_eq_getElem hlt]
      have : rd l (m : Int) = l[m] := by simp [rd, hlt]
      rw [this]
      rfl
    rw [et, valL_snoc, List.length_take, Nat.min_eq_left (by omega), Int.add_mul, Int.pow_succ, Int.mul_assoc, Int.mul_comm 2 (2 ^ m), Int.mul_comm (bitAt d _) (2 ^ m)]
    omega
def rgetV (sg : Bool) (len : Nat) (z : Int) : Int := if sg = true ∧ 0 < len ∧ len < 64 ∧ (z / 2 ^ min (IntKind.u64.wrap ((len : Int) - 1)).toNat 64 == 1) = true then wrap64 (IntKind.u64.wrap (z - IntKind.u64.wrap (2 ^ min (IntKind.u64.wrap (len : Int)).toNat 64))) else wrap64 z
theorem rget_eq {sg : Bool} {len : Nat} {z : Int} (h64 : len ≤ 64) (hs : sg = false → len ≤ 63) (h0 : 0 ≤ z) (h1 : z < 2 ^ len) : rgetV sg len z = sgnV sg len z := by
  unfold rgetV sgnV
  by_cases hb : sg = true ∧ 0 < len
  · obtain ⟨m, hm⟩ : ∃ m, len = m + 1 := ⟨len - 1, by omega⟩
    have em : min (IntKind.u64.wrap ((len : Int) - 1)).toNat 64 = m := by rw [mod64]; omega
    rw [em]
    have hP : (0 : Int) < 2 ^ m := Int.pow_pos (by omega)
    have e2 : (2 : Int) ^ len = 2 ^ m * 2 := by rw [hm, Int.pow_succ]
    rw [e2] at h1 ⊢
    have hd : z / 2 ^ m = if 2 ^ m ≤ z then 1 else 0 := by
      split
      · next hz =>
        have e3 : z = (z - 2 ^ m) + 1 * 2 ^ m := by omega
        rw [e3, Int.add_mul_ediv_right _ _ (by omega), Int.ediv_eq_zero_of_lt (by omega) (by omega)]
        rfl
      · exact Int.ediv_eq_zero_of_lt h0 (by omega)
    by_cases hl : len < 64
    · have ew : min (IntKind.u64.wrap (len : Int)).toNat 64 = len := by rw [mod64]; omega
      rw [ew, e2, mod64, mod64]
      have hp := pow_bound (i := len) hl
      rw [e2] at hp
      by_cases hz : 2 ^ m ≤ z
      · rw [if_pos ⟨hb.1, hb.2, hl, by rw [hd, if_pos hz]; rfl⟩, if_pos ⟨hb.1, hb.2, by omega⟩]
        generalize (2 : Int) ^ m = P at *
        unfold wrap64
        omega
      · rw [if_neg (fun q => by have := q.2.2.2; rw [hd, if_neg hz] at this; cases this), if_neg (fun q => by omega)]
        exact wr64 _ (by omega) (by omega)
    · have e64 : m = 63 := by omega
      rw [if_neg (fun q => hl q.2.2.1)]
      subst e64
      rw [show (2 : Int) ^ 63 = 9223372036854775808 from by decide] at *
      by_cases hz : (9223372036854775808 : Int) * 2 ≤ 2 * z
      · rw [if_pos ⟨hb.1, hb.2, hz⟩]
        unfold wrap64
        omega
      · rw [if_neg (fun q => hz q.2.2)]
        unfold wrap64
        omega
  · rw [if_neg (fun q => hb ⟨q.1, q.2.1⟩), if_neg (fun q => hb ⟨q.1, q.2.1⟩)]
    have h63 : len ≤ 63 := by
      cases sg
      · exact hs rfl
      · by_cases hl : 0 < len
        · exact absurd ⟨rfl, hl⟩ hb
        · omega
    have hp : (2 : Int) ^ len ≤ 9223372036854775808 := by
      have h1 : (2 : Nat) ^ len ≤ 2 ^ 63 := Nat.pow_le_pow_right (by decide) h63
      have h3 : (((2 : Nat) ^ len : Nat) : Int) ≤ ((2 ^ 63 : Nat) : Int) := Int.ofNat_le.2 h1
      simpa using h3
    exact wr64 _ (by omega) (by omega)
theorem getV_ref {d : List Int} (h : Byts d) (s : Sg) : getV d s = rgetV s.sgn (placesV s).length (rgN d (placesV s) (placesV s).length 0) := by
  rw [rgN_eq h _ (placesV_range s) (placesV s).length 0 0 (Nat.le_refl _) (by have := placesV_len s; omega) (Int.le_refl _) (by decide), Int.zero_mul, Int.zero_add, List.take_length]
  have hr := valL_range (bitAt_01 d) (placesV s)
  rw [rget_eq (placesV_len s) ?_ hr.1 hr.2, getV_eq h]
  intro hs
  cases hb : badS s
  · have := placesV_good hb
    have g := (good_ln hb).2.2.1 hs
    omega
  · rw [placesV_nil.2 hb]
    exact Nat.zero_le _
set_option maxHeartbeats 4000000 in
set_option maxRecDepth 100000 in
theorem RGet_walk (d : List Int) (hd : Byts d) (s : Sg) (w : World) : Calls Try.prog 23 #[.agg (bytesA d), s.g] w fun e w' => e = .returned (.int .i64 (getV d s)) ∧ Below w.heap.size w w' := by
  have hu23 := Try.underlying23
  have hu24 := Try.underlying24
  have hu35 := Try.underlying35
  have PC := Aside0.mk (RPlaces_walk s)
  have PR := Aside0.mk (placesV_range s)
  have PL := Aside0.mk (placesV_len s)
  have GV := Aside0.mk (getV_ref hd s)
  generalize getV d s = r at GV ⊢
  generalize placesV s = l at PC PR PL GV
  have D8 := Aside0.mk hd.1
  clear hd
  have Z := Aside0.mk (Gb.made d s w)
  go_enter Try.func23, Try.ntmps23
  go_wp2_with fail
  (with_reducible refine (PC.out _).mono ?_)
  rintro e W ⟨v, rfl, hR, hb⟩
  obtain ⟨A, cp, ev, hl, hC0⟩ := Kd.R_reads hR
  subst ev
  have Z2 := Aside0.mk (Z.out.below hb)
  have HC := Aside0.mk hC0
  clear Z hb hR hC0
  have Z := Z2
  clear Z2
  obtain ⟨N, hN⟩ : ∃ N, rgN d l l.length 0 = N := ⟨_, rfl⟩
  have H0 : Aside0 (rgN d l l.length 0 = N) := ⟨hN⟩
  rw [hN] at GV
  clear hN
  have e0 : wrap64 ((l.length : Int) - 1) = (l.length : Int) - 1 := wr_small _ (by have := PL.out; omega) (by have := PL.out; omega)
  go_wp2
  go_loopg [6, 7] (l.length + 1) (fun kq v6 v7 w' => ∃ (m : Nat) (n : Int), v6 = .int .u64 n ∧ v7 = .int .i64 ((m : Int) - 1) ∧ Aside0 (m ≤ l.length ∧ m < kq) ∧ Aside0 (rgN d l m n = N) ∧ Aside0 (Gb d s w.heap.size (w.heap.size + 1) w w') ∧ Aside0 ((Kd.int .i64).C w' A l.length l))
  case atStart => exact ⟨l.length, 0, rfl, by first | rfl | rw [e0], ⟨by omega⟩, H0, Z, HC⟩
  case round =>
    clear H0 Z HC
    obtain ⟨m, n, rfl, rfl, HK, HL, Z, HC⟩ := hrel
    cases gk with
    | zero => exact absurd HK.out (by omega)
    | succ k1 =>
      cases m with
      | zero =>
        have em : (((0 : Nat) : Int) - 1) = -1 := by omega
        rw [em]
        have EN : Aside0 (n = N) := ⟨HL.out⟩
        have c3 : wr.cell? ⟨w.heap.size + 1, 3, none⟩ = some (.bool s.sgn) := (blk_cell Z.out.ks 3).trans rfl
        clear HL em
        have e9 : wrap64 ((l.length : Int) - 1) = (l.length : Int) - 1 := wr_small _ (by have := PL.out; omega) (by have := PL.out; omega)
        have GN : Aside0 (r = rgetV s.sgn l.length n) := ⟨by rw [EN.out]; exact GV.out⟩
        by_cases hs : s.sgn = true
        · rw [hs] at c3 GN
          by_cases hp : (l.length : Int) > 0
          · have u2 : decide ((l.length : Int) > 0) = true := decide_eq_true hp
            have u2b : decide (l.length > 0) = true := decide_eq_true (by omega)
            by_cases hq : (l.length : Int) < 64
            · have u3 : decide ((l.length : Int) < 64) = true := decide_eq_true hq
              have u3b : decide (l.length < 64) = true := decide_eq_true (by omega)
              by_cases ht : (n / 2 ^ min (IntKind.u64.wrap ((l.length : Int) - 1)).toNat 64 == 1) = true
              · have ER : Aside0 (r = _) := ⟨GN.out.trans (if_pos ⟨rfl, by omega, by omega, ht⟩)⟩
                clear hs hp hq
                go_wp2
                go_ret
                exact ⟨by rw [ER.out]; rfl, Z.out.B⟩
              · have ER : Aside0 (r = _) := ⟨GN.out.trans (if_neg (fun q => ht q.2.2.2))⟩
                have ht2 : (n / 2 ^ min (IntKind.u64.wrap ((l.length : Int) - 1)).toNat 64 == 1) = false := by simpa using ht
                clear hs hp hq ht
                go_wp2
                go_ret
                exact ⟨by rw [ER.out]; rfl, Z.out.B⟩
            · have u3 : decide ((l.length : Int) < 64) = false := decide_eq_false hq
              have u3b : decide (l.length < 64) = false := decide_eq_false (by omega)
              have ER : Aside0 (r = _) := ⟨GN.out.trans (if_neg (fun q => hq (by omega)))⟩
              clear hs hp hq
              go_wp2
              go_ret
              exact ⟨by rw [ER.out]; rfl, Z.out.B⟩
          · have u2 : decide ((l.length : Int) > 0) = false := decide_eq_false hp
            have u2b : decide (l.length > 0) = false := decide_eq_false (by omega)
            have ER : Aside0 (r = _) := ⟨GN.out.trans (if_neg (fun q => hp (by omega)))⟩
            clear hs hp
            go_wp2
            go_ret
            exact ⟨by rw [ER.out]; rfl, Z.out.B⟩
        · have hs2 : s.sgn = false := by simpa using hs
          have ER : Aside0 (r = _) := ⟨GN.out.trans (if_neg (fun q => hs q.1))⟩
          rw [hs2] at c3
          clear hs hs2
          go_wp2
          go_ret
          exact ⟨by rw [ER.out]; rfl, Z.out.B⟩
      | succ m =>
        have em : (((m + 1 : Nat) : Int) - 1) = (m : Int) := by omega
        rw [em]
        have u1 : decide ((m : Int) ≥ 0) = true := decide_eq_true (by omega)
        have p1 : (0 ≤ (m : Int)) = True := eq_true (by omega)
        have q1 : ((m : Int) < (l.length : Int)) = True := eq_true (by have := HK.out; omega)
        obtain ⟨ad, ea, hx⟩ := Kd.at_int HC.out (m : Int) (by omega) (by have := HK.out; omega)
        cases ea
        rw [Int.toNat_natCast] at hx
        have hrg := PR.out _ (rd_mem (l := l) (k := m) (by have := HK.out; omega))
        have HL2 : Aside0 (rgN d l m (stepR d n (rd l (m : Int))) = N) := ⟨HL.out⟩
        generalize rd l (m : Int) = a at hx hrg HL2
        have t1 : 0 ≤ Int.tdiv a 8 ∧ Int.tdiv a 8 < 8 := by rw [Int.tdiv_eq_ediv_of_nonneg hrg.1]; omega
        have hby := bytesA_at Z.out.kd (Int.tdiv a 8) t1.1 (by rw [D8.out]; exact t1.2)
        have p2 : (0 ≤ Int.tdiv a 8) = True := eq_true t1.1
        have q2 : (Int.tdiv a 8 < 8) = True := eq_true t1.2
        have e8 : wrap64 (Int.tdiv a 8) = Int.tdiv a 8 := wr_small _ (by omega) (by omega)
        have k1' : wrap64 ((m : Int) - 1) = (m : Int) - 1 := wr_small _ (by omega) (by have := PL.out; have := HK.out; omega)
        clear t1 hrg em
        go_wp2
        go_quiet (fail)
        go_wp2
        go_roundg k1
        case rel => exact ⟨m, _, rfl, by rw [k1'], ⟨by have := HK.out; omega⟩, HL2, ⟨Z.out.below (pw_below_drewN (Below.refl _ _) _)⟩, ⟨Kd.C_below HC.out (pw_below_drewN (Below.refl _ _) _)⟩⟩
        case measure => omega
end Go.Proofs.Ytepeihlhokpjjaa.P
