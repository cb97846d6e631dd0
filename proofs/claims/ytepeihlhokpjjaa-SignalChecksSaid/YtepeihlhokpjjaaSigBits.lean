/- A frame's bits: what is got, and what is put, as sums of bits. Conditions: those that each lemma names. -/
import Derived.Test.YtepeihlhokpjjaaSigUnpack
namespace Go.Proofs.Ytepeihlhokpjjaa.P
open Go.RowKit Go.Proofs.YtepeihlhokpjjaaW.PrintWords Go.Proofs.YtepeihlhokpjjaaW.PrintLast Go.Proofs.YtepeihlhokpjjaaW.PrintMore
set_option linter.unusedVariables false
set_option linter.unusedSimpArgs false
/-- Eight bytes. -/
def Byts (d : List Int) : Prop := d.length = 8 ∧ ∀ x ∈ d, 0 ≤ x ∧ x ≤ 255
def bitAt (d : List Int) (a : Int) : Int := (rd d (a / 8) / 2 ^ (a % 8).toNat) % 2
def valL (f : Int → Int) : List Int → Int
  | [] => 0
  | a :: r => f a + 2 * valL f r
theorem bitAt_01 (d : List Int) (a : Int) : 0 ≤ bitAt d a ∧ bitAt d a ≤ 1 := by
  unfold bitAt
  omega
theorem valL_range {f : Int → Int} (hf : ∀ a, 0 ≤ f a ∧ f a ≤ 1) : ∀ l : List Int, 0 ≤ valL f l ∧ valL f l < 2 ^ l.length
  | [] => by simp [valL]
  | a :: r => by
    have h := valL_range hf r
    have h1 := hf a
    show 0 ≤ f a + 2 * valL f r ∧ f a + 2 * valL f r < 2 ^ (r.length + 1)
    rw [Int.pow_succ]
    omega
theorem valL_congr {f g : Int → Int} : ∀ {l : List Int}, (∀ a ∈ l, f a = g a) → valL f l = valL g l
  | [], _ => rfl
  | a :: r, h => by
    show f a + 2 * valL f r = g a + 2 * valL g r
    rw [h a List.mem_cons_self, valL_congr (fun b hb => h b (List.mem_cons_of_mem _ hb))]
theorem rd_byte {d : List Int} (h : Byts d) {q : Int} (h0 : 0 ≤ q) (h1 : q < 8) : 0 ≤ rd d q ∧ rd d q ≤ 255 := by
  have hq : q.toNat < d.length := by rw [h.1]; omega
  have : rd d q = d[q.toNat] := by simp [rd, hq]
  rw [this]
  exact h.2 _ (List.getElem_mem hq)
theorem wrap_bv (z : Int) : wrap64 z = (BitVec.ofInt 64 z).toInt := by
  rw [BitVec.toInt_ofInt]
  unfold wrap64 Int.bmod
  simp only [Nat.reducePow]
  omega
theorem bv_wrap (z : Int) : BitVec.ofInt 64 (wrap64 z) = BitVec.ofInt 64 z := by rw [wrap_bv, BitVec.ofInt_toInt]
theorem bv_nat {z : Int} (h0 : 0 ≤ z) (h1 : z < 18446744073709551616) : (BitVec.ofInt 64 z).toNat = z.toNat := by
  rw [BitVec.toNat_ofInt]
  have : z % ((2 ^ 64 : Nat) : Int) = z := Int.emod_eq_of_lt h0 (by simpa using h1)
  rw [this]
theorem pow_bound {i : Nat} (h : i < 64) : (2 : Int) ^ i * 2 ≤ 18446744073709551616 := by
  have h1 : (2 : Nat) ^ (i + 1) ≤ 2 ^ 64 := Nat.pow_le_pow_right (by decide) (by omega)
  have h3 : (((2 : Nat) ^ (i + 1) : Nat) : Int) ≤ ((2 ^ 64 : Nat) : Int) := Int.ofNat_le.2 h1
  have h4 : (2 : Int) ^ (i + 1) ≤ 18446744073709551616 := by simpa using h3
  rwa [Int.pow_succ] at h4
theorem or_add {z b : Int} {i : Nat} (h0 : 0 ≤ z) (h1 : z < 2 ^ i) (hi : i < 64) (b0 : 0 ≤ b) (b1 : b ≤ 1) : Go.bits .or .i64 (wrap64 z) (wrap64 (b * 2 ^ i)) = wrap64 (z + b * 2 ^ i) := by
  have e : Go.bits .or .i64 (wrap64 z) (wrap64 (b * 2 ^ i)) = (BitVec.ofInt 64 (wrap64 z) ||| BitVec.ofInt 64 (wrap64 (b * 2 ^ i))).toInt := toInt_of _
  rw [e, bv_wrap, bv_wrap, wrap_bv]
  congr 1
  have hp := pow_bound hi
  have hb : 0 ≤ b * 2 ^ i ∧ b * 2 ^ i ≤ 2 ^ i := by
    rcases (by omega : b = 0 ∨ b = 1) with rfl | rfl
    · simp
      omega
    · simp
      omega
  apply BitVec.eq_of_toNat_eq
  rw [BitVec.toNat_or, bv_nat h0 (by omega), bv_nat hb.1 (by omega), bv_nat (by omega) (by omega)]
  have hz : z.toNat < 2 ^ i := by
    have : ((z.toNat : Nat) : Int) < ((2 ^ i : Nat) : Int) := by
      rw [Int.toNat_of_nonneg h0]
      simpa using h1
    exact Int.ofNat_lt.1 this
  rcases (by omega : b = 0 ∨ b = 1) with rfl | rfl
  · simp
  · have e1 : ((1 : Int) * 2 ^ i).toNat = 2 ^ i := by
      have : (1 : Int) * 2 ^ i = ((2 ^ i : Nat) : Int) := by simp
      rw [this, Int.toNat_natCast]
    have e2 : (z + 1 * 2 ^ i).toNat = z.toNat + 2 ^ i := by
      rw [Int.toNat_add h0 (by simpa using (by omega : (0 : Int) ≤ 2 ^ i)), e1]
    rw [e1, e2, Nat.or_comm]
    have := Nat.two_pow_add_eq_or_of_lt hz 1
    rw [Nat.mul_one] at this
    rw [← this, Nat.add_comm]
theorem and8 : ∀ x : Fin 256, ∀ r : Fin 8, Go.bits .and .u8 ((x.1 : Int) / 2 ^ min (IntKind.u64.wrap (r.1 : Int)).toNat 8) 1 = ((x.1 : Int) / 2 ^ r.1) % 2 := by decide +kernel
theorem getS_eq {d : List Int} (h : Byts d) {a : Int} (a0 : 0 ≤ a) (a1 : a < 64) (i : Nat) (hi : i < 64) (n : Int) : getS d a (i : Int) n = Go.bits .or .i64 n (wrap64 (bitAt d a * 2 ^ i)) := by
  unfold getS bitAt
  rw [Int.tdiv_eq_ediv_of_nonneg a0, Int.tmod_eq_emod_of_nonneg a0]
  have hb := rd_byte h (q := a / 8) (by omega) (by omega)
  obtain ⟨x, hx⟩ : ∃ x : Fin 256, rd d (a / 8) = (x.1 : Int) := ⟨⟨(rd d (a / 8)).toNat, by omega⟩, by show _ = (((rd d (a / 8)).toNat : Nat) : Int); omega⟩
  obtain ⟨r, hr⟩ : ∃ r : Fin 8, a % 8 = (r.1 : Int) := ⟨⟨(a % 8).toNat, by omega⟩, by show _ = (((a % 8).toNat : Nat) : Int); omega⟩
  rw [hx, hr, and8 x r, Int.toNat_natCast]
  have e1 : min (IntKind.u64.wrap (i : Int)).toNat 64 = i := by rw [mod64]; omega
  have e2 : wrap64 ((x.1 : Int) / 2 ^ r.1 % 2) = (x.1 : Int) / 2 ^ r.1 % 2 := wr_small _ (by omega) (by omega)
  rw [e1, e2]
/-- What is got is the sum of its bits. -/
theorem getL_eq {d : List Int} (h : Byts d) : ∀ (l : List Int) (i : Nat) (z : Int), (∀ a ∈ l, 0 ≤ a ∧ a < 64) → i + l.length ≤ 64 → 0 ≤ z → z < 2 ^ i → getL d l i (wrap64 z) = wrap64 (z + 2 ^ i * valL (bitAt d) l)
  | [], i, z, _, _, _, _ => by simp [getL, valL]
  | a :: r, i, z, ha, hi, h0, h1 => by
    have hlen : i + (r.length + 1) ≤ 64 := hi
    show getL d r (i + 1) (getS d a (i : Int) (wrap64 z)) = _
    have hb := bitAt_01 d a
    have hp := pow_bound (i := i) (by omega)
    have ha0 := ha a List.mem_cons_self
    have hpos : (0 : Int) < 2 ^ i := Int.pow_pos (by omega)
    have hm : 0 ≤ bitAt d a * 2 ^ i ∧ bitAt d a * 2 ^ i ≤ 2 ^ i := by
      rcases (by omega : bitAt d a = 0 ∨ bitAt d a = 1) with e | e <;> rw [e] <;> constructor <;> simp <;> omega
    rw [getS_eq h ha0.1 ha0.2 i (by omega), or_add h0 h1 (by omega) hb.1 hb.2]
    rw [getL_eq h r (i + 1) _ (fun b hb => ha b (List.mem_cons_of_mem _ hb)) (by omega) (by omega) (by rw [Int.pow_succ]; omega)]
    congr 1
    show z + bitAt d a * 2 ^ i + 2 ^ (i + 1) * valL (bitAt d) r = z + 2 ^ i * (bitAt d a + 2 * valL (bitAt d) r)
    rw [Int.pow_succ, Int.mul_add, Int.mul_assoc, Int.mul_comm (bitAt d a), Int.add_assoc]
theorem getN_eq {d : List Int} (h : Byts d) {l : List Int} (hl : ∀ a ∈ l, 0 ≤ a ∧ a < 64) (hn : l.length ≤ 64) : getN d l = wrap64 (valL (bitAt d) l) := by
  have := getL_eq h l 0 0 hl (by omega) (Int.le_refl _) (by decide)
  rw [show wrap64 0 = 0 from wr_small 0 (by omega) (by omega)] at this
  unfold getN
  rw [this]
  congr 1
  simp
theorem wrap_add (x c : Int) : wrap64 (x + 18446744073709551616 * c) = wrap64 x := by
  unfold wrap64
  omega
/-- A number of so many bits, as a number with a sign. -/
def sgnV (sg : Bool) (len : Nat) (z : Int) : Int := if sg = true ∧ 0 < len ∧ 2 ^ len ≤ 2 * z then z - 2 ^ len else z
theorem shl_sar {z : Int} {len : Nat} (hl : 0 < len) (h64 : len ≤ 64) (h0 : 0 ≤ z) (h1 : z < 2 ^ len) : wrap64 (wrap64 z * 2 ^ (64 - len)) / 2 ^ (64 - len) = sgnV true len z := by
  obtain ⟨P, hP⟩ : ∃ P : Int, 2 ^ (64 - len) = P := ⟨_, rfl⟩
  obtain ⟨L, hL⟩ : ∃ L : Int, 2 ^ len = L := ⟨_, rfl⟩
  have hLP : L * P = 18446744073709551616 := by
    rw [← hL, ← hP, ← Int.pow_add, show len + (64 - len) = 64 by omega]
    decide
  have P0 : 0 < P := by rw [← hP]; exact Int.pow_pos (by omega)
  have L0 : 0 < L := by rw [← hL]; exact Int.pow_pos (by omega)
  rw [hP]
  rw [hL] at h1
  have hz64 : z < 18446744073709551616 := by
    have := Int.mul_le_mul_of_nonneg_left (by omega : 1 ≤ P) (by omega : 0 ≤ L)
    rw [Int.mul_one] at this
    omega
  have e1 : wrap64 (wrap64 z * P) = wrap64 (z * P) := by
    have hc : wrap64 z = z ∨ wrap64 z = z - 18446744073709551616 := by unfold wrap64; omega
    rcases hc with hc | hc <;> rw [hc]
    rw [Int.sub_mul, show z * P - 18446744073709551616 * P = z * P + 18446744073709551616 * (-P) by omega, wrap_add]
  rw [e1]
  have m0 : 0 ≤ z * P := Int.mul_nonneg h0 (by omega)
  unfold sgnV
  rw [hL]
  by_cases hs : L ≤ 2 * z
  · rw [if_pos ⟨rfl, hl, hs⟩]
    have h2 : L * P ≤ 2 * z * P := Int.mul_le_mul_of_nonneg_right hs (by omega)
    rw [Int.mul_assoc] at h2
    have h3 : z * P < L * P := Int.mul_lt_mul_of_pos_right h1 P0
    have e2 : wrap64 (z * P) = (z - L) * P := by
      rw [Int.sub_mul, hLP]
      generalize z * P = m at *
      unfold wrap64
      omega
    rw [e2, Int.mul_ediv_cancel _ (by omega)]
  · rw [if_neg (fun h => hs h.2.2)]
    have h2 : (2 * z) * P < L * P := Int.mul_lt_mul_of_pos_right (by omega) P0
    rw [Int.mul_assoc] at h2
    have e2 : wrap64 (z * P) = z * P := by
      generalize z * P = m at *
      unfold wrap64
      omega
    rw [e2, Int.mul_ediv_cancel _ (by omega)]
theorem placesV_good {s : Sg} (h : badS s = false) : ((placesV s).length : Int) = s.ln := by
  have g := good_ln h
  unfold placesV
  rw [if_neg (by rw [h]; simp)]
  split
  · rw [List.length_reverse]
    exact g.2.2.2.2
  · exact g.2.2.2.2
theorem getV_eq {d : List Int} (h : Byts d) (s : Sg) : getV d s = sgnV s.sgn (placesV s).length (valL (bitAt d) (placesV s)) := by
  have hr := valL_range (bitAt_01 d) (placesV s)
  have hn := getN_eq h (placesV_range s) (placesV_len s)
  unfold getV
  dsimp only
  rw [hn]
  by_cases hs : s.sgn = true
  · by_cases hl : ((placesV s).length : Int) > 0
    · rw [if_pos ⟨hs, hl⟩, hs]
      have hle := placesV_len s
      have e : min (IntKind.u64.wrap (64 - ((placesV s).length : Int))).toNat 64 = 64 - (placesV s).length := by rw [mod64]; omega
      rw [e]
      exact shl_sar (by omega) hle hr.1 hr.2
    · rw [if_neg (fun q => hl q.2)]
      unfold sgnV
      rw [if_neg (fun q => hl (by omega))]
      have e : placesV s = [] := List.eq_nil_of_length_eq_zero (by omega)
      rw [e]
      exact wr_small 0 (by omega) (by omega)
  · rw [if_neg (fun q => hs q.1)]
    unfold sgnV
    rw [if_neg (fun q => hs q.1)]
    have h63 : (placesV s).length ≤ 63 := by
      cases hb : badS s
      · have := placesV_good hb
        have g := (good_ln hb).2.2.1 (by simpa using hs)
        omega
      · rw [placesV_nil.2 hb]
        exact Nat.zero_le _
    have hp : (2 : Int) ^ (placesV s).length ≤ 9223372036854775808 := by
      have h1 : (2 : Nat) ^ (placesV s).length ≤ 2 ^ 63 := Nat.pow_le_pow_right (by decide) h63
      have h3 : (((2 : Nat) ^ (placesV s).length : Nat) : Int) ≤ ((2 ^ 63 : Nat) : Int) := Int.ofNat_le.2 h1
      simpa using h3
    exact wr64 _ (by omega) (by omega)
def oneU (r : Int) : Int := 2 ^ min (IntKind.u64.wrap r).toNat 8 % 256
theorem byte_tab : ∀ x : Fin 256, ∀ r : Fin 8, Go.bits .andNot .u8 (x.1 : Int) (oneU (r.1 : Int)) = (x.1 : Int) - ((x.1 : Int) / 2 ^ r.1 % 2) * 2 ^ r.1 ∧ Go.bits .or .u8 ((x.1 : Int) - ((x.1 : Int) / 2 ^ r.1 % 2) * 2 ^ r.1) (oneU (r.1 : Int)) = (x.1 : Int) - ((x.1 : Int) / 2 ^ r.1 % 2) * 2 ^ r.1 + 2 ^ r.1 := by decide +kernel
theorem bit_tab : ∀ x : Fin 256, ∀ r : Fin 8, (0 ≤ (x.1 : Int) - ((x.1 : Int) / 2 ^ r.1 % 2) * 2 ^ r.1 ∧ (x.1 : Int) - ((x.1 : Int) / 2 ^ r.1 % 2) * 2 ^ r.1 + 2 ^ r.1 ≤ 255) ∧ ∀ u : Fin 8, ((x.1 : Int) - ((x.1 : Int) / 2 ^ r.1 % 2) * 2 ^ r.1) / 2 ^ u.1 % 2 = (if u = r then 0 else (x.1 : Int) / 2 ^ u.1 % 2) ∧ ((x.1 : Int) - ((x.1 : Int) / 2 ^ r.1 % 2) * 2 ^ r.1 + 2 ^ r.1) / 2 ^ u.1 % 2 = (if u = r then 1 else (x.1 : Int) / 2 ^ u.1 % 2) := by decide +kernel
/-- A byte with one bit laid. -/
def layB (x : Int) (r : Nat) (c : Bool) : Int := x - (x / 2 ^ r % 2) * 2 ^ r + (if c = true then 2 ^ r else 0)
theorem putS_eq {d : List Int} (h : Byts d) {a : Int} (a0 : 0 ≤ a) (a1 : a < 64) (raw i : Int) : putS raw d a i = d.set (a / 8).toNat (layB (rd d (a / 8)) (a % 8).toNat (rawBit raw i)) := by
  have hb := rd_byte h (q := a / 8) (by omega) (by omega)
  obtain ⟨x, hx⟩ : ∃ x : Fin 256, rd d (a / 8) = (x.1 : Int) := ⟨⟨(rd d (a / 8)).toNat, by omega⟩, by show _ = (((rd d (a / 8)).toNat : Nat) : Int); omega⟩
  obtain ⟨r, hr⟩ : ∃ r : Fin 8, a % 8 = (r.1 : Int) := ⟨⟨(a % 8).toNat, by omega⟩, by show _ = (((a % 8).toNat : Nat) : Int); omega⟩
  have t := byte_tab x r
  unfold putS layB bitU
  rw [Int.tdiv_eq_ediv_of_nonneg a0, Int.tmod_eq_emod_of_nonneg a0, hx, hr, Int.toNat_natCast]
  rw [show (2 : Int) ^ min (IntKind.u64.wrap (r.1 : Int)).toNat 8 % 256 = oneU (r.1 : Int) from rfl, t.1]
  cases rawBit raw i
  · simp
  · simp only [if_true]
    rw [List.set_set, t.2]
theorem layB_byte {x : Int} (h0 : 0 ≤ x) (h1 : x ≤ 255) {r : Nat} (hr : r < 8) (c : Bool) : 0 ≤ layB x r c ∧ layB x r c ≤ 255 := by
  have t := (bit_tab ⟨x.toNat, by omega⟩ ⟨r, hr⟩).1
  simp only [Int.toNat_of_nonneg h0] at t
  have hp : (0 : Int) < 2 ^ r := Int.pow_pos (by omega)
  unfold layB
  cases c
  · simp only [Bool.false_eq_true, if_false]
    omega
  · simp only [if_true]
    omega
theorem layB_bit {x : Int} (h0 : 0 ≤ x) (h1 : x ≤ 255) {r u : Nat} (hr : r < 8) (hu : u < 8) (c : Bool) : layB x r c / 2 ^ u % 2 = if u = r then (if c = true then 1 else 0) else x / 2 ^ u % 2 := by
  have t := (bit_tab ⟨x.toNat, by omega⟩ ⟨r, hr⟩).2 ⟨u, hu⟩
  simp only [Int.toNat_of_nonneg h0, Fin.mk.injEq] at t
  unfold layB
  cases c
  · simp only [Bool.false_eq_true, if_false, Int.add_zero]
    exact t.1
  · simp only [if_true]
    exact t.2
theorem putS_byts {d : List Int} (h : Byts d) {a : Int} (a0 : 0 ≤ a) (a1 : a < 64) (raw i : Int) : Byts (putS raw d a i) := by
  have hb := rd_byte h (q := a / 8) (by omega) (by omega)
  rw [putS_eq h a0 a1]
  refine ⟨by rw [List.length_set]; exact h.1, fun x hx => ?_⟩
  rcases List.mem_or_eq_of_mem_set hx with hx | rfl
  · exact h.2 x hx
  · exact layB_byte hb.1 hb.2 (by omega) _
def rawB (raw i : Int) : Int := if rawBit raw i = true then 1 else 0
theorem putS_bit {d : List Int} (h : Byts d) {a b : Int} (a0 : 0 ≤ a) (a1 : a < 64) (b0 : 0 ≤ b) (b1 : b < 64) (raw i : Int) : bitAt (putS raw d a i) b = if b = a then rawB raw i else bitAt d b := by
  have hb := rd_byte h (q := a / 8) (by omega) (by omega)
  rw [putS_eq h a0 a1]
  unfold bitAt
  have hq : (a / 8).toNat < d.length := by rw [h.1]; omega
  by_cases e : b / 8 = a / 8
  · have er : rd (d.set (a / 8).toNat (layB (rd d (a / 8)) (a % 8).toNat (rawBit raw i))) (b / 8) = layB (rd d (a / 8)) (a % 8).toNat (rawBit raw i) := by
      rw [e]
      simp [rd, hq]
    rw [er, layB_bit hb.1 hb.2 (by omega) (by omega)]
    by_cases eb : b = a
    · subst eb
      rw [if_pos rfl, if_pos rfl]
      rfl
    · rw [if_neg (by omega), if_neg eb, e]
  · have er : rd (d.set (a / 8).toNat (layB (rd d (a / 8)) (a % 8).toNat (rawBit raw i))) (b / 8) = rd d (b / 8) := by
      unfold rd
      rw [List.getD_eq_getElem?_getD, List.getElem?_set_ne (by omega), ← List.getD_eq_getElem?_getD]
    rw [er, if_neg (fun q => e (by rw [q]))]
theorem putL_other (raw : Int) : ∀ (l : List Int) (i : Nat) (d : List Int), Byts d → (∀ a ∈ l, 0 ≤ a ∧ a < 64) → Byts (putL raw l i d) ∧ ∀ b, 0 ≤ b → b < 64 → b ∉ l → bitAt (putL raw l i d) b = bitAt d b
  | [], i, d, h, _ => ⟨h, fun _ _ _ _ => rfl⟩
  | a :: r, i, d, h, ha => by
    have a0 := ha a List.mem_cons_self
    have ih := putL_other raw r (i + 1) (putS raw d a (i : Int)) (putS_byts h a0.1 a0.2 _ _) (fun b hb => ha b (List.mem_cons_of_mem _ hb))
    refine ⟨ih.1, fun b b0 b1 hb => ?_⟩
    show bitAt (putL raw r (i + 1) (putS raw d a (i : Int))) b = _
    rw [ih.2 b b0 b1 (fun q => hb (List.mem_cons_of_mem _ q)), putS_bit h a0.1 a0.2 b0 b1, if_neg (fun q => hb (by rw [q]; exact List.mem_cons_self))]
theorem and1 (y : Int) : Go.bits .and .i64 y 1 = y % 2 := by
  rw [and_def]
  have e : (BitVec.ofInt 64 y &&& BitVec.ofInt 64 1).toNat = (y % 2).toNat := by
    rw [BitVec.toNat_and, BitVec.toNat_ofInt, show (BitVec.ofInt 64 1).toNat = 1 from rfl, Nat.and_one_is_mod]
    simp only [Nat.reducePow]
    omega
  rw [BitVec.toInt_eq_toNat_cond, e]
  simp only [Nat.reducePow]
  split <;> omega
theorem rawB_eq (raw : Int) (i : Nat) (h : i < 64) : rawB raw (i : Int) = raw / 2 ^ i % 2 := by
  unfold rawB rawBit
  rw [and1, show min (IntKind.u64.wrap (i : Int)).toNat 64 = i by rw [mod64]; omega]
  by_cases e : raw / 2 ^ i % 2 = 0
  · rw [e]
    rfl
  · have e1 : raw / 2 ^ i % 2 = 1 := by omega
    rw [e1]
    rfl
theorem mod_two_mul (x M : Int) (h : 0 < M) : x % (2 * M) = x % 2 + 2 * (x / 2 % M) := by
  have e : x = (x % 2 + 2 * (x / 2 % M)) + 2 * M * (x / 2 / M) := by
    have h1 := Int.mul_ediv_add_emod (x / 2) M
    have h2 := Int.mul_ediv_add_emod x 2
    have h3 : 2 * M * (x / 2 / M) = 2 * (M * (x / 2 / M)) := Int.mul_assoc _ _ _
    omega
  have r := Int.emod_lt_of_pos (x / 2) h
  have r0 := Int.emod_nonneg (x / 2) (by omega : M ≠ 0)
  conv => lhs; rw [e]
  rw [Int.add_mul_emod_self_left]
  exact Int.emod_eq_of_lt (by omega) (by omega)
theorem putL_val (raw : Int) : ∀ (l : List Int) (i : Nat) (d : List Int), Byts d → (∀ a ∈ l, 0 ≤ a ∧ a < 64) → l.Nodup → i + l.length ≤ 64 → valL (bitAt (putL raw l i d)) l = raw / 2 ^ i % 2 ^ l.length
  | [], i, d, _, _, _, _ => by simp [valL]
  | a :: r, i, d, h, ha, hn, hl => by
    have hlen : i + (r.length + 1) ≤ 64 := hl
    have a0 := ha a List.mem_cons_self
    have hr := fun b hb => ha b (List.mem_cons_of_mem a hb)
    have nd := List.nodup_cons.1 hn
    have h' := putS_byts h a0.1 a0.2 raw (i : Int)
    have ih := putL_val raw r (i + 1) _ h' hr nd.2 (by omega)
    have e := (putL_other raw r (i + 1) _ h' hr).2 a a0.1 a0.2 nd.1
    show bitAt (putL raw r (i + 1) (putS raw d a (i : Int))) a + 2 * valL (bitAt (putL raw r (i + 1) (putS raw d a (i : Int)))) r = raw / 2 ^ i % 2 ^ (r.length + 1)
    rw [e, ih, putS_bit h a0.1 a0.2 a0.1 a0.2, if_pos rfl, rawB_eq raw i (by omega)]
    rw [show (2 : Int) ^ (r.length + 1) = 2 * 2 ^ r.length by rw [Int.pow_succ, Int.mul_comm], mod_two_mul _ _ (Int.pow_pos (by omega)), pow_half raw i]
end Go.Proofs.Ytepeihlhokpjjaa.P
