/- A master's time that is told: what holds from bit to bit, in plain Lean. No condition but what each lemma names. -/
import Derived.Test.YtgnkmpgnlpjglaaAccordBoundsPlain
import Derived.Test.YtgnkmpgnlpjglaaAccordHoldsPlain
namespace Go.Proofs.Ytgnkmpgnlpjglaa.P
open Go.RowKit Go.Proofs.YtgnkmpgnlpjglaaW.PrintWords Go.Proofs.YtgnkmpgnlpjglaaW.PrintLast Go.Proofs.YtgnkmpgnlpjglaaW.PrintMore
set_option linter.unusedVariables false
set_option linter.unusedSimpArgs false
theorem cfg_small {n d tu : Int} (n0 : 2 ≤ n) (n1 : n ≤ 5001) (d0 : 0 ≤ d) (d1 : 2 * d < n) (t0 : 0 ≤ tu) (t1 : tu ≤ 4096) : Cfg n d tu (slopeV n d tu) ∧ rB n d tu = true := by
  have h1 : (n + d) * tu ≤ (n + d) * 4096 := Int.mul_le_mul_of_nonneg_left t1 (by omega)
  have h2 := Int.mul_nonneg (show 0 ≤ n + d by omega) t0
  refine ⟨⟨⟨n0, n1⟩, ⟨d0, d1⟩, ⟨t0, t1⟩, ?_, ?_⟩, ?_⟩
  · unfold wpart slopeV
    generalize (n + d) * tu = P at *
    split <;> omega
  · unfold wpart
    generalize (n + d) * tu = P at *
    omega
  · unfold rB rightB
    rw [decide_eq_true (by omega), decide_eq_true (by omega)]
    rfl
theorem inv0 (n d tu A s0 : Int) (s00 : 0 ≤ s0) (s01 : s0 ≤ 1125899906842624) (t0 : 0 ≤ tu) : Inv n d tu A 0 (S0 s0) :=
  ⟨by show (0 : Int) ≤ 0 ∧ (0 : Int) ≤ 2400; omega, by show (0 : Int) ≤ 0 ∧ (0 : Int) ≤ 0 * 8192; omega, by show (0 : Int) ≤ 0 ∧ (0 : Int) ≤ 0 * 8192; omega, ⟨rfl, rfl, rfl, rfl⟩,
    by show (0 : Int) ≤ 0 ∧ (0 : Int) ≤ 0 ∧ 1048576 - tu ≤ 1048576 ∧ (1048576 : Int) ≤ 1048576 + tu ∧ -4503599627370496 ≤ s0 ∧ s0 ≤ 4503599627370496; omega,
    (fun _ _ _ e => by cases e), (fun _ _ _ e => by cases e), (fun e => by cases e), by omega⟩
theorem small_right (n d t : Int) (n0 : 2 ≤ n) (n1 : n ≤ 5001) (d0 : 0 ≤ d) (d1 : 2 * d < n) (t0 : 0 ≤ t) (t1 : t ≤ 4096) : osc_Right.f n d = some true ∧ accord_Right.f n d t = some true := by
  have h1 : osc_Right.f n d = some true := by
    rw [Right_eq n d (by omega) (by omega), rightB, decide_eq_true (by omega)]
  refine ⟨h1, ?_⟩
  unfold accord_Right.f accord_within.f exact_Clamp.f mn
  rw [h1]
  simp only [Option.bind_some, if_true]
  rw [if_neg (by omega), if_neg (by omega)]
  simp
theorem start_within (s : Int) (s0 : 0 ≤ s) (s1 : s ≤ 1125899906842624) : accord_within.f s 1125899906842624 = some true := by
  unfold accord_within.f exact_Clamp.f mn
  rw [if_neg (by omega), if_neg (by omega)]
  simp
theorem Inv.app_some {n d tu A most : Int} {S : AS} (h : Inv n d tu A most S) (hc : Cfg n d tu A) (rate : Int) (r0 : 1048576 - tu ≤ rate) (r1 : rate ≤ 1048576 + tu) (m s bt : Int) (hn : S.noted = some (m, s, bt)) :
    ∃ S', appS tu S rate = (0, S') ∧ S'.bits = S.bits ∧ S'.ls = S.ls ∧ S'.lm = S.lm ∧ S'.follows = S.follows ∧ S'.applied = some (m, s, bt) ∧ Inv n d tu A (if most < gapS S' then gapS S' else most) S' := by
  have hbb := h.b
  have hcm := h.cm
  have hcs := h.cs
  have hs := h.s
  have ht := hc.ht
  have hmo := h.mo
  obtain ⟨a0, a1, a2, a3, c0, a4, a5, a6, a7, a8⟩ := h.nt m s bt hn
  have ls := h.has hc S.cs (by omega) (by omega)
  have p1 := small_prod (S.cs - S.rs) S.ks (by omega) (by omega) (by omega) (by omega)
  have p2 := small_prod (c0 - S.rs) S.ks (by omega) (by omega) (by omega) (by omega)
  have hw := hc.hw
  have gw : 0 ≤ (S.bits - bt) * wpart n d tu ∧ (S.bits - bt) * wpart n d tu ≤ 20615843020800 := by
    have q1 := Int.mul_nonneg (show 0 ≤ S.bits - bt by omega) hw.1
    have q2 : (S.bits - bt) * wpart n d tu ≤ (S.bits - bt) * 8589934592 := Int.mul_le_mul_of_nonneg_left hw.2 (by omega)
    omega
  have ex : (S.cs - S.rs) * S.ks = (S.cs - c0) * S.ks + (c0 - S.rs) * S.ks := by rw [← Int.add_mul]; congr 1; omega
  have hwr : wrap64 (m - s) = m - s := wr64 _ (by omega) (by omega)
  -- the clock goes on from now, by the new rate, then is moved
  have t1 : tuneV S.rs S.bs S.ks S.cs rate = (0, S.cs, (S.cs - S.rs) * S.ks / 1048576 + S.bs, rate) := by
    unfold tuneV onV
    rw [if_pos (by omega), ls, if_pos ⟨rfl, by unfold wi; rw [decide_eq_true_eq]; simp only []; omega⟩]
    simp only [Int.add_zero]
  generalize hT : (S.cs - S.rs) * S.ks / 1048576 + S.bs = T at t1
  have bT : -4503599627370496 ≤ T ∧ T ≤ 4503599694479360 := by omega
  have l2 : lookV S.cs T rate S.cs = (T, true) := by
    have e : (S.cs - S.cs) * rate / 1048576 = 0 := by rw [Int.sub_self, Int.zero_mul]; rfl
    unfold lookV
    rw [e, Int.sub_self, Int.zero_add, if_pos ⟨by unfold In64; omega, by unfold In64; omega, by unfold wi; rw [decide_eq_true_eq]; omega⟩]
  have t2 : onV S.cs T rate S.cs (m - s) rate = (0, S.cs, T + (m - s), rate) := by
    unfold onV
    rw [l2, if_pos ⟨rfl, by unfold wi; rw [decide_eq_true_eq]; simp only []; omega⟩]
  have key : -((S.bits - bt) * wpart n d tu) - 1048576 ≤ (T + (m - s)) * 1048576 - S.cm * 1048576 ∧ (T + (m - s)) * 1048576 - S.cm * 1048576 ≤ (S.bits - bt) * wpart n d tu + 1048576 := by
    rw [← hT, a6, ex]
    generalize (S.bits - bt) * wpart n d tu = Z at *
    generalize (S.cs - c0) * S.ks = X at *
    generalize (c0 - S.rs) * S.ks = Y at *
    omega
  refine ⟨(S.line S.cs (T + (m - s)) rate).done m s bt, by
    unfold appS
    rw [hn]
    simp only []
    rw [if_pos ⟨r0, r1⟩, t1]
    simp only [if_true, hwr]
    rw [t2]
    rfl, rfl, rfl, rfl, rfl, rfl, ?_⟩
  have gp : gapS ((S.line S.cs (T + (m - s)) rate).done m s bt) = S.bits - bt := by
    unfold gapS
    show wrap64 (S.bits - bt) = _
    rw [wr64 _ (by omega) (by omega)]
  rw [gp]
  refine ⟨h.b, h.cm, h.cs, h.m, ?_, ?_, ?_, ?_, by split <;> omega⟩
  · show 0 ≤ S.cs ∧ S.cs ≤ S.cs ∧ 1048576 - tu ≤ rate ∧ rate ≤ 1048576 + tu ∧ -4503599627370496 ≤ T + (m - s) ∧ T + (m - s) ≤ 4503599627370496
    generalize (S.bits - bt) * wpart n d tu = Z at *
    omega
  · intro m' s' bt' e
    cases e
  · intro m' s' bt' e
    have e' := Option.some.inj e
    simp only [Prod.mk.injEq] at e'
    obtain ⟨rfl, rfl, rfl⟩ := e'
    refine ⟨a0, a1, ?_⟩
    show -((S.bits - bt) * wpart n d tu) - 1048576 ≤ (T + (m - s)) * 1048576 + (S.cs - S.cs) * rate - S.cm * 1048576 ∧ (T + (m - s)) * 1048576 + (S.cs - S.cs) * rate - S.cm * 1048576 ≤ (S.bits - bt) * wpart n d tu + 1048576
    rw [Int.sub_self, Int.zero_mul, Int.add_zero]
    exact key
  · intro hf
    refine ⟨rfl, ?_⟩
    have f := (h.fl hf).2
    have := mono_mul (A := A) hc.A0 (show most ≤ (if most < S.bits - bt then S.bits - bt else most) by split <;> omega)
    show S.ls ≤ S.cm + A * (if most < S.bits - bt then S.bits - bt else most) + 2
    generalize A * (if most < S.bits - bt then S.bits - bt else most) = Y at *
    generalize A * most = V at *
    omega
theorem stepS_keep (n d : Int) (S : AS) (x y : Int) : (stepS n d S x y).2.noted = S.noted ∧ (stepS n d S x y).2.applied = S.applied := by
  unfold stepS
  split
  · split <;> exact ⟨rfl, rfl⟩
  · exact ⟨rfl, rfl⟩
theorem capS_keep (S : AS) (h : (capS S).1 = true) : (∃ m s, (capS S).2.noted = some (m, s, S.bits)) ∧ (capS S).2.applied = S.applied ∧ (capS S).2.lm = S.lm ∧ (capS S).2.ls = S.ls ∧ (capS S).2.follows = S.follows := by
  unfold capS at *
  split
  · exact ⟨⟨_, _, rfl⟩, rfl, rfl, rfl, rfl⟩
  · next hc =>
    rw [if_neg hc] at h
    cases h
/-- How the pair stands ahead of bit i (b of them went by). -/
structure Ph (n d tu A : Int) (i : Nat) (b nn : Int) (S : AS) : Prop where
  inv : ∃ M, 0 ≤ M ∧ M ≤ 39 ∧ Inv n d tu A M S
  bits : S.bits = b
  lo : i ≤ 20 → S.applied = none ∧ nn = 0
  mid : 20 < i → i ≤ 40 → S.applied = none ∧ nn = 0 ∧ ∃ m s, S.noted = some (m, s, 21)
  hi : 40 < i → nn = 1 ∧ ∃ m s, S.applied = some (m, s, 21)
  fo : S.follows = true → absd S.lm S.ls ≤ A * 39 + 4
theorem gap_le {S : AS} {b : Int} (hb : S.bits = b) (h0 : 0 ≤ b) (h1 : b ≤ 60) (ha : S.applied = none ∨ ∃ m s, S.applied = some (m, s, 21)) : gapS S ≤ 39 := by
  unfold gapS
  rcases ha with e | ⟨m, s, e⟩
  · rw [e]; show (0 : Int) ≤ 39; omega
  · rw [e]
    show wrap64 (S.bits - 21) ≤ 39
    rw [hb, wr64 _ (by omega) (by omega)]
    omega
theorem Ph.ap {n d tu A : Int} {i : Nat} {b nn : Int} {S : AS} (h : Ph n d tu A i b nn S) : S.applied = none ∨ ∃ m s, S.applied = some (m, s, 21) := by
  by_cases h1 : i ≤ 20
  · exact .inl (h.lo h1).1
  · by_cases h2 : i ≤ 40
    · exact .inl (h.mid (by omega) h2).1
    · exact .inr (h.hi (by omega)).2
theorem Ph.start (n d tu A : Int) (t0 : 0 ≤ tu) : Ph n d tu A 0 0 0 (S0 0) :=
  ⟨⟨0, by omega, by omega, inv0 n d tu A 0 (by omega) (by omega) t0⟩, rfl, fun _ => ⟨rfl, rfl⟩, fun h _ => absurd h (by omega), fun h => absurd h (by omega), fun h => by cases h⟩
theorem Ph.step {n d tu A : Int} {i : Nat} {nn : Int} {S : AS} (h : Ph n d tu A i i nn S) (hc : Cfg n d tu A) (x y : Int) (x0 : n - d ≤ x) (x1 : x ≤ n + d) (y0 : n - d ≤ y) (y1 : y ≤ n + d) (hi : i < 60) (hl : In64 S.ls) :
    ∃ S', stepS n d S x y = (0, S') ∧ Ph n d tu A i ((i + 1 : Nat) : Int) nn S' := by
  obtain ⟨M, M0, M1, hv⟩ := h.inv
  obtain ⟨S', e1, e2, e3, e4⟩ := hv.step hc x y x0 x1 y0 y1 (by rw [h.bits]; omega) hl
  have kp := stepS_keep n d S x y
  rw [e1] at kp
  have hb : S'.bits = ((i + 1 : Nat) : Int) := by rw [e2, h.bits]; omega
  have hg := gap_le hb (by omega) (by omega) (by rw [kp.2]; exact h.ap)
  refine ⟨S', e1, ⟨⟨_, ?_, ?_, e3⟩, hb, ?_, ?_, ?_, ?_⟩⟩
  · split <;> omega
  · split <;> omega
  · rw [kp.2]; exact h.lo
  · rw [kp.1, kp.2]; exact h.mid
  · rw [kp.2]; exact h.hi
  · intro hf
    have f := e4 hf
    have := mono_mul (A := A) hc.A0 (show (if M < gapS S' then gapS S' else M) ≤ 39 by split <;> omega)
    omega
theorem Ph.plain {n d tu A : Int} {i : Nat} {b nn : Int} {S : AS} (h : Ph n d tu A i b nn S) (h1 : i ≠ 20) (h2 : i ≠ 40) : Ph n d tu A (i + 1) b nn S :=
  ⟨h.inv, h.bits, fun h3 => h.lo (by omega), fun h3 h4 => h.mid (by omega) (by omega), fun h3 => h.hi (by omega), h.fo⟩
theorem Ph.capt {n d tu A : Int} {nn : Int} {S : AS} (h : Ph n d tu A 20 21 nn S) (hc : Cfg n d tu A) : ∃ S', capS S = (true, S') ∧ Ph n d tu A 21 21 nn S' := by
  obtain ⟨M, M0, M1, hv⟩ := h.inv
  obtain ⟨S', e1, e2, e3, e4⟩ := hv.cap hc
  obtain ⟨⟨m, s, k1⟩, k2, k3, k4, k5⟩ := capS_keep S (by rw [e1])
  rw [e1] at k1 k2 k3 k4 k5
  simp only at k1 k2 k3 k4 k5
  have lo := h.lo (by omega)
  refine ⟨S', e1, ⟨⟨M, M0, M1, e4⟩, e2.trans h.bits, fun h3 => absurd h3 (by omega), fun _ _ => ⟨k2.trans lo.1, lo.2, m, s, by rw [k1, h.bits]⟩, fun h3 => absurd h3 (by omega), fun hf => ?_⟩⟩
  rw [k3, k4]
  exact h.fo (by rw [← k5]; exact hf)
theorem Ph.appl {n d tu A : Int} {nn : Int} {S : AS} (h : Ph n d tu A 40 41 nn S) (hc : Cfg n d tu A) : nn = 0 ∧ ∃ S', appS tu S 1048576 = (0, S') ∧ S'.lm = S.lm ∧ Ph n d tu A 41 41 1 S' := by
  obtain ⟨M, M0, M1, hv⟩ := h.inv
  obtain ⟨_, hn0, m, s, hn⟩ := h.mid (by omega) (by omega)
  have ht := hc.ht
  obtain ⟨S', e1, e2, e3, e4, e5, e6, e7⟩ := hv.app_some hc 1048576 (by omega) (by omega) m s 21 hn
  have hg := gap_le (b := 41) (e2.trans h.bits) (by omega) (by omega) (.inr ⟨m, s, e6⟩)
  refine ⟨hn0, S', e1, e4, ⟨⟨_, ?_, ?_, e7⟩, e2.trans h.bits, fun h3 => absurd h3 (by omega), fun h3 h4 => absurd h4 (by omega), fun _ => ⟨rfl, m, s, e6⟩, fun hf => ?_⟩⟩
  · split <;> omega
  · split <;> omega
  · rw [e3, e4]
    exact h.fo (by rw [← e5]; exact hf)
theorem Ph.lm {n d tu A : Int} {i : Nat} {b nn : Int} {S : AS} (h : Ph n d tu A i b nn S) (h1 : b ≤ 60) : 0 ≤ S.lm ∧ S.lm < 281474976710656 := by
  obtain ⟨M, M0, M1, hv⟩ := h.inv
  have := hv.m.2.2.2
  have := hv.cm
  have := h.bits
  omega
/-- The ticks of a bit, that it may have. -/
def tickV (n d : Int) (l : List Int) (i : Int) : Int := if i ≥ (l.length : Int) then n else n - d + Int.tmod (rd l i) (2 * d + 1)
theorem ticks_eq {n d tu : Int} (n0 : 2 ≤ n) (n1 : n ≤ 5001) (d0 : 0 ≤ d) (d1 : 2 * d < n) (l : List Int) (hl : ∀ x ∈ l, 0 ≤ x ∧ x ≤ 65535) (i : Int) (i0 : 0 ≤ i) : bellbuoytop_ticks.f n d tu l i = some (tickV n d l i) := by
  unfold bellbuoytop_ticks.f tickV
  by_cases h : i ≥ (l.length : Int)
  · rw [if_pos h, if_pos h]
  · rw [if_neg h, if_neg h, if_pos i0, if_pos (by omega)]
    have hx := hl (rd l i) (by
      have hlt : i.toNat < l.length := by omega
      have e : rd l i = l[i.toNat] := by simp [rd, hlt]
      rw [e]
      exact List.getElem_mem hlt)
    have hm := Int.tmod_nonneg (2 * d + 1) hx.1
    have hm2 := Int.tmod_lt_of_pos (rd l i) (show 0 < 2 * d + 1 by omega)
    rw [wr64 (2 * d) (by omega) (by omega), wr64 (2 * d + 1) (by omega) (by omega), if_neg (by omega), wr64 (n - d) (by omega) (by omega), wr64 (rd l i) (by omega) (by omega), wr64 _ (by omega) (by omega)]
theorem tick_rng {n d : Int} (d0 : 0 ≤ d) (l : List Int) (hl : ∀ x ∈ l, 0 ≤ x ∧ x ≤ 65535) (i : Int) (i0 : 0 ≤ i) : n - d ≤ tickV n d l i ∧ tickV n d l i ≤ n + d := by
  unfold tickV
  split
  · omega
  · next h =>
    have hx := hl (rd l i) (by
      have hlt : i.toNat < l.length := by omega
      have e : rd l i = l[i.toNat] := by simp [rd, hlt]
      rw [e]
      exact List.getElem_mem hlt)
    have hm := Int.tmod_nonneg (2 * d + 1) hx.1
    have hm2 := Int.tmod_lt_of_pos (rd l i) (show 0 < 2 * d + 1 by omega)
    omega
end Go.Proofs.Ytgnkmpgnlpjglaa.P
