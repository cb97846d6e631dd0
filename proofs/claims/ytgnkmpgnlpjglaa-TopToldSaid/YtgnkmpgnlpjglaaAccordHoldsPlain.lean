/- Once it follows, a slave is never further from its master than the bound: what holds of a pair's numbers from bit to bit, in plain Lean. No condition but what each lemma names. -/
import Derived.Test.YtgnkmpgnlpjglaaAccordState
namespace Go.Proofs.Ytgnkmpgnlpjglaa.P
open Go.RowKit Go.Proofs.YtgnkmpgnlpjglaaW.PrintWords Go.Proofs.YtgnkmpgnlpjglaaW.PrintLast Go.Proofs.YtgnkmpgnlpjglaaW.PrintMore
set_option linter.unusedVariables false
set_option linter.unusedSimpArgs false
/-- How far both may part in a bit, in parts of One. -/
def wpart (n d tu : Int) : Int := 2 * d * 1048576 + (n + d) * tu
theorem part_bits (n d tu ks x y : Int) (x0 : n - d ≤ x) (x1 : x ≤ n + d) (y0 : n - d ≤ y) (y1 : y ≤ n + d) (n0 : 0 ≤ n - d) (t0 : 0 ≤ tu) (k0 : 1048576 - tu ≤ ks) (k1 : ks ≤ 1048576 + tu) :
    -(wpart n d tu) ≤ y * ks - x * 1048576 ∧ y * ks - x * 1048576 ≤ wpart n d tu := by
  obtain ⟨q, rfl⟩ : ∃ q, ks = 1048576 + q := ⟨ks - 1048576, by omega⟩
  have h1 : y * q ≤ y * tu := Int.mul_le_mul_of_nonneg_left (by omega) (by omega)
  have h2 : y * (-tu) ≤ y * q := Int.mul_le_mul_of_nonneg_left (by omega) (by omega)
  have h3 : y * tu ≤ (n + d) * tu := Int.mul_le_mul_of_nonneg_right y1 t0
  rw [Int.mul_neg] at h2
  unfold wpart
  rw [Int.mul_add]
  generalize (n + d) * tu = P at *
  generalize y * tu = Q at *
  generalize y * q = R at *
  omega
/-- What holds of a small pair's numbers. A: its slope; most: the greatest gap so far. -/
structure Inv (n d tu A most : Int) (S : AS) : Prop where
  b : 0 ≤ S.bits ∧ S.bits ≤ 2400
  cm : 0 ≤ S.cm ∧ S.cm ≤ S.bits * 8192
  cs : 0 ≤ S.cs ∧ S.cs ≤ S.bits * 8192
  m : S.rm = 0 ∧ S.bm = 0 ∧ S.km = 1048576 ∧ S.lm = S.cm
  s : 0 ≤ S.rs ∧ S.rs ≤ S.cs ∧ 1048576 - tu ≤ S.ks ∧ S.ks ≤ 1048576 + tu ∧ -4503599627370496 ≤ S.bs ∧ S.bs ≤ 4503599627370496
  nt : ∀ m s bt, S.noted = some (m, s, bt) → 0 ≤ bt ∧ bt ≤ S.bits ∧ 0 ≤ m ∧ m ≤ S.cm ∧ ∃ c0, S.rs ≤ c0 ∧ c0 ≤ S.cs ∧ s = (c0 - S.rs) * S.ks / 1048576 + S.bs ∧
    -((S.bits - bt) * wpart n d tu) ≤ (S.cs - c0) * S.ks - (S.cm - m) * 1048576 ∧ (S.cs - c0) * S.ks - (S.cm - m) * 1048576 ≤ (S.bits - bt) * wpart n d tu
  ap : ∀ m s bt, S.applied = some (m, s, bt) → 0 ≤ bt ∧ bt ≤ S.bits ∧
    -((S.bits - bt) * wpart n d tu) - 1048576 ≤ S.bs * 1048576 + (S.cs - S.rs) * S.ks - S.cm * 1048576 ∧ S.bs * 1048576 + (S.cs - S.rs) * S.ks - S.cm * 1048576 ≤ (S.bits - bt) * wpart n d tu + 1048576
  fl : S.follows = true → S.applied.isSome = true ∧ S.ls ≤ S.cm + A * most + 2
  mo : 0 ≤ most ∧ most ≤ 2400
/-- The config is small, and A is its slope. -/
structure Cfg (n d tu A : Int) : Prop where
  hn : 2 ≤ n ∧ n ≤ 5001
  hd : 0 ≤ d ∧ 2 * d < n
  ht : 0 ≤ tu ∧ tu ≤ 4096
  ha : wpart n d tu ≤ 1048576 * A
  hw : 0 ≤ wpart n d tu ∧ wpart n d tu ≤ 8589934592
theorem Cfg.A0 {n d tu A : Int} (h : Cfg n d tu A) : 0 ≤ A := by have := h.ha; have := h.hw; omega
theorem small_prod (c k : Int) (c0 : 0 ≤ c) (c1 : c ≤ 33554432) (k0 : 0 ≤ k) (k1 : k ≤ 2097152) : 0 ≤ c * k ∧ c * k ≤ 70368744177664 := by
  have h1 : c * k ≤ 33554432 * k := Int.mul_le_mul_of_nonneg_right c1 k0
  have h2 := Int.mul_nonneg c0 k0
  omega
/-- What the slave's clock has at any count from its line's beginning on. -/
theorem Inv.has {n d tu A most : Int} {S : AS} (h : Inv n d tu A most S) (hc : Cfg n d tu A) (c : Int) (c0 : S.rs ≤ c) (c1 : c ≤ 33554432) : lookV S.rs S.bs S.ks c = ((c - S.rs) * S.ks / 1048576 + S.bs, true) := by
  have hs := h.s
  have ht := hc.ht
  have := small_prod (c - S.rs) S.ks (by omega) (by omega) (by omega) (by omega)
  unfold lookV In64 wi
  generalize (c - S.rs) * S.ks = X at *
  rw [if_pos ⟨by omega, by omega, decide_eq_true (by omega)⟩]
theorem Inv.hasm {n d tu A most : Int} {S : AS} (h : Inv n d tu A most S) (c : Int) (c0 : 0 ≤ c) (c1 : c ≤ 33554432) : lookV S.rm S.bm S.km c = (c, true) := by
  obtain ⟨e1, e2, e3, _⟩ := h.m
  rw [e1, e2, e3]
  unfold lookV In64 wi
  rw [Int.sub_zero, Int.add_zero, Int.mul_ediv_cancel _ (by omega), if_pos ⟨by omega, by omega, decide_eq_true (by omega)⟩]
theorem gw_nonneg {g W : Int} (h0 : 0 ≤ g) (h1 : 0 ≤ W) : 0 ≤ g * W := Int.mul_nonneg h0 h1
/-- The difference of both clocks, out of what holds in parts. -/
theorem near {A W g X bs cm : Int} (hA : W ≤ 1048576 * A) (g0 : 0 ≤ g) (h1 : -(g * W) - 1048576 ≤ bs * 1048576 + X - cm * 1048576) (h2 : bs * 1048576 + X - cm * 1048576 ≤ g * W + 1048576) :
    cm - A * g - 2 ≤ X / 1048576 + bs ∧ X / 1048576 + bs ≤ cm + A * g + 1 := by
  have h : g * W ≤ g * (1048576 * A) := Int.mul_le_mul_of_nonneg_left hA g0
  rw [show g * (1048576 * A) = 1048576 * (A * g) by rw [Int.mul_comm A g, Int.mul_left_comm]] at h
  generalize A * g = Y at *
  generalize g * W = Z at *
  omega
theorem mono_mul {A a b : Int} (hA : 0 ≤ A) (h : a ≤ b) : A * a ≤ A * b := Int.mul_le_mul_of_nonneg_left h hA
/-- A bit goes by: no side refuses it, and all holds on; where the slave follows it is as near as the bound says. -/
theorem Inv.step {n d tu A most : Int} {S : AS} (h : Inv n d tu A most S) (hc : Cfg n d tu A) (x y : Int) (x0 : n - d ≤ x) (x1 : x ≤ n + d) (y0 : n - d ≤ y) (y1 : y ≤ n + d) (hb : S.bits + 1 ≤ 2400) (hl : In64 S.ls) :
    ∃ S', stepS n d S x y = (0, S') ∧ S'.bits = S.bits + 1 ∧ Inv n d tu A (if most < gapS S' then gapS S' else most) S' ∧ (S'.follows = true → absd S'.lm S'.ls ≤ A * (if most < gapS S' then gapS S' else most) + 4) := by
  have hn := hc.hn
  have hd := hc.hd
  have ht := hc.ht
  have hbb := h.b
  have hcm := h.cm
  have hcs := h.cs
  have hm := h.m
  have hs := h.s
  have sm : stepF n d S.cm S.wm x = (0, S.cm + x, S.wm || !decide (absd x n ≤ d)) := by unfold stepF; rw [if_neg (by omega), if_neg (by omega)]
  have ss : stepF n d S.cs S.ws y = (0, S.cs + y, S.ws || !decide (absd y n ≤ d)) := by unfold stepF; rw [if_neg (by omega), if_neg (by omega)]
  have lm := h.hasm (S.cm + x) (by omega) (by omega)
  have ls := h.has hc (S.cs + y) (by omega) (by omega)
  have pb := part_bits n d tu S.ks x y x0 x1 y0 y1 (by omega) ht.1 hs.2.2.1 hs.2.2.2.1
  have hw := hc.hw
  have hbits : wrap64 (S.bits + 1) = S.bits + 1 := wr64 _ (by omega) (by omega)
  have lm' : readV S.lm (S.cm + x) true = S.cm + x := by
    unfold readV
    rw [hm.2.2.2]
    by_cases c : S.cm < S.cm + x
    · rw [decide_eq_true c]; rfl
    · rw [decide_eq_false c]
      show S.cm = S.cm + x
      omega
  refine ⟨_, by unfold stepS; rw [sm, ss]; rfl, hbits, ?_⟩
  generalize hS : S.next (S.cm + x) (S.wm || !decide (absd x n ≤ d)) (S.cs + y) (S.ws || !decide (absd y n ≤ d)) = S'
  have e_bits : S'.bits = S.bits + 1 := by rw [← hS]; exact hbits
  have e_cm : S'.cm = S.cm + x := by rw [← hS]; rfl
  have e_cs : S'.cs = S.cs + y := by rw [← hS]; rfl
  have e_rs : S'.rs = S.rs := by rw [← hS]; rfl
  have e_bs : S'.bs = S.bs := by rw [← hS]; rfl
  have e_ks : S'.ks = S.ks := by rw [← hS]; rfl
  have e_m : S'.rm = S.rm ∧ S'.bm = S.bm ∧ S'.km = S.km := by rw [← hS]; exact ⟨rfl, rfl, rfl⟩
  have e_lm : S'.lm = S.cm + x := by
    rw [← hS]
    show readV S.lm (lookV S.rm S.bm S.km (S.cm + x)).1 (lookV S.rm S.bm S.km (S.cm + x)).2 = _
    rw [lm]; exact lm'
  have e_nt : S'.noted = S.noted := by rw [← hS]; rfl
  have e_ap : S'.applied = S.applied := by rw [← hS]; rfl
  have e_ls : S'.ls = readV S.ls ((S.cs + y - S.rs) * S.ks / 1048576 + S.bs) true := by
    rw [← hS]
    show readV S.ls (lookV S.rs S.bs S.ks (S.cs + y)).1 (lookV S.rs S.bs S.ks (S.cs + y)).2 = _
    rw [ls]
  have e_fl : S'.follows = (S.follows || (S.applied.isSome && true && ((S.cs + y - S.rs) * S.ks / 1048576 + S.bs == readV S.ls ((S.cs + y - S.rs) * S.ks / 1048576 + S.bs) true))) := by
    rw [← hS]
    show (S.follows || (S.applied.isSome && (lookV S.rs S.bs S.ks (S.cs + y)).2 && ((lookV S.rs S.bs S.ks (S.cs + y)).1 == readV S.ls (lookV S.rs S.bs S.ks (S.cs + y)).1 (lookV S.rs S.bs S.ks (S.cs + y)).2))) = _
    rw [ls]
  clear hS lm ls lm' sm ss
  have ex : (S.cs + y - S.rs) * S.ks = (S.cs - S.rs) * S.ks + y * S.ks := by rw [show S.cs + y - S.rs = (S.cs - S.rs) + y by omega, Int.add_mul]
  have gap : ∀ m s bt, S.applied = some (m, s, bt) → gapS S' = S.bits + 1 - bt := fun m s bt e => by
    have := h.ap m s bt e
    unfold gapS
    rw [e_ap, e]
    show wrap64 (S'.bits - bt) = _
    rw [e_bits, wr64 _ (by omega) (by omega)]
  have gap0 : S.applied = none → gapS S' = 0 := fun e => by unfold gapS; rw [e_ap, e]
  have ap' : ∀ m s bt, S'.applied = some (m, s, bt) → 0 ≤ bt ∧ bt ≤ S'.bits ∧
      -((S'.bits - bt) * wpart n d tu) - 1048576 ≤ S'.bs * 1048576 + (S'.cs - S'.rs) * S'.ks - S'.cm * 1048576 ∧ S'.bs * 1048576 + (S'.cs - S'.rs) * S'.ks - S'.cm * 1048576 ≤ (S'.bits - bt) * wpart n d tu + 1048576 := by
    rw [e_ap, e_bits, e_bs, e_cs, e_rs, e_ks, e_cm, ex]
    intro m s bt e
    obtain ⟨a0, a1, a2, a3⟩ := h.ap m s bt e
    rw [show S.bits + 1 - bt = (S.bits - bt) + 1 by omega, Int.add_mul, Int.one_mul, Int.add_mul]
    generalize (S.bits - bt) * wpart n d tu = Z at *
    generalize (S.cs - S.rs) * S.ks = X at *
    generalize y * S.ks = Y at *
    omega
  have hmost : most ≤ (if most < gapS S' then gapS S' else most) ∧ gapS S' ≤ (if most < gapS S' then gapS S' else most) := by split <;> omega
  have hmost2 : (if most < gapS S' then gapS S' else most) ≤ 2400 := by
    have := h.mo
    split
    · cases e : S.applied with
      | none => rw [gap0 e]; omega
      | some q => obtain ⟨m, s, bt⟩ := q; have := h.ap m s bt e; rw [gap m s bt e]; omega
    · omega
  generalize (if most < gapS S' then gapS S' else most) = M at *
  have hAm := mono_mul hc.A0 hmost.1
  have hAg := mono_mul hc.A0 hmost.2
  have hmo := h.mo
  have nearS : ∀ m s bt, S.applied = some (m, s, bt) → S.cm + x - A * M - 2 ≤ (S.cs + y - S.rs) * S.ks / 1048576 + S.bs ∧ (S.cs + y - S.rs) * S.ks / 1048576 + S.bs ≤ S.cm + x + A * M + 1 := fun m s bt e => by
    have a := ap' m s bt (by rw [e_ap]; exact e)
    rw [e_bits, e_bs, e_cs, e_rs, e_ks, e_cm] at a
    have := near (A := A) (W := wpart n d tu) (g := S.bits + 1 - bt) (X := (S.cs + y - S.rs) * S.ks) (bs := S.bs) (cm := S.cm + x) hc.ha (by omega) a.2.2.1 a.2.2.2
    rw [gap m s bt e] at hAg
    generalize (S.cs + y - S.rs) * S.ks / 1048576 = H at *
    generalize A * M = Y at *
    generalize A * (S.bits + 1 - bt) = V at *
    omega
  have rd : readV S.ls ((S.cs + y - S.rs) * S.ks / 1048576 + S.bs) true = if S.ls < (S.cs + y - S.rs) * S.ks / 1048576 + S.bs then (S.cs + y - S.rs) * S.ks / 1048576 + S.bs else S.ls := by
    unfold readV
    by_cases c : S.ls < (S.cs + y - S.rs) * S.ks / 1048576 + S.bs
    · rw [decide_eq_true c, if_pos c]; rfl
    · rw [decide_eq_false c, if_neg c]; rfl
  rw [rd] at e_ls e_fl
  have fl' : S'.follows = true → S'.applied.isSome = true ∧ S'.ls ≤ S'.cm + A * M + 2 ∧ S'.cm - A * M - 2 ≤ S'.ls := by
    intro hf
    rw [e_fl] at hf
    rw [e_ap, e_ls, e_cm]
    have some' : S.applied.isSome = true := by
      cases hfo : S.follows with
      | true => exact (h.fl hfo).1
      | false =>
        rw [hfo, Bool.false_or, Bool.and_eq_true, Bool.and_eq_true] at hf
        exact hf.1.1
    refine ⟨some', ?_⟩
    obtain ⟨⟨m, s, bt⟩, e⟩ := Option.isSome_iff_exists.1 some'
    have nn := nearS m s bt e
    generalize (S.cs + y - S.rs) * S.ks / 1048576 + S.bs = H at *
    cases hfo : S.follows with
    | true =>
      have f := (h.fl hfo).2
      generalize A * M = Y at *
      generalize A * most = V at *
      split <;> omega
    | false =>
      rw [hfo, Bool.false_or, Bool.and_eq_true, beq_iff_eq] at hf
      have f := hf.2
      generalize A * M = Y at *
      split at f <;> split <;> omega
  constructor
  · refine ⟨by omega, by rw [e_cm, e_bits]; omega, by rw [e_cs, e_bits]; omega, ⟨e_m.1.trans hm.1, e_m.2.1.trans hm.2.1, e_m.2.2.trans hm.2.2.1, by rw [e_lm, e_cm]⟩, by rw [e_rs, e_cs, e_ks, e_bs]; omega, ?_, ap', fun hf => ⟨(fl' hf).1, (fl' hf).2.1⟩, by omega⟩
    rw [e_nt, e_bits, e_bs, e_cs, e_rs, e_ks, e_cm]
    intro m s bt e
    obtain ⟨a0, a1, a2, a3, c0, a4, a5, a6, a7, a8⟩ := h.nt m s bt e
    refine ⟨a0, by omega, a2, by omega, c0, a4, by omega, a6, ?_⟩
    rw [show S.bits + 1 - bt = (S.bits - bt) + 1 by omega, Int.add_mul, Int.one_mul, show S.cs + y - c0 = (S.cs - c0) + y by omega, Int.add_mul, show S.cm + x - m = (S.cm - m) + x by omega, Int.add_mul]
    generalize (S.bits - bt) * wpart n d tu = Z at *
    generalize (S.cs - c0) * S.ks = X at *
    generalize y * S.ks = Y at *
    omega
  · intro hf
    have f := (fl' hf).2
    rw [e_cm, e_ls] at f
    rw [e_lm, e_ls]
    unfold absd
    generalize (S.cs + y - S.rs) * S.ks / 1048576 + S.bs = H at *
    generalize A * M = Y at *
    split <;> split at f <;> omega
/-- What both have is noted. -/
theorem Inv.cap {n d tu A most : Int} {S : AS} (h : Inv n d tu A most S) (hc : Cfg n d tu A) : ∃ S', capS S = (true, S') ∧ S'.bits = S.bits ∧ S'.ls = S.ls ∧ Inv n d tu A most S' := by
  have hbb := h.b
  have hcm := h.cm
  have hcs := h.cs
  have hs := h.s
  have lm := h.hasm S.cm (by omega) (by omega)
  have ls := h.has hc S.cs (by omega) (by omega)
  refine ⟨{ S with noted := some (S.cm, (S.cs - S.rs) * S.ks / 1048576 + S.bs, S.bits) }, by unfold capS; rw [lm, ls]; rfl, rfl, rfl, ?_⟩
  refine ⟨h.b, h.cm, h.cs, h.m, h.s, ?_, h.ap, h.fl, h.mo⟩
  intro m s bt e
  have e' := Option.some.inj e
  simp only [Prod.mk.injEq] at e'
  obtain ⟨rfl, rfl, rfl⟩ := e'
  refine ⟨hbb.1, Int.le_refl _, hcm.1, Int.le_refl _, S.cs, hs.2.1, Int.le_refl _, rfl, ?_⟩
  show -((S.bits - S.bits) * wpart n d tu) ≤ (S.cs - S.cs) * S.ks - (S.cm - S.cm) * 1048576 ∧ (S.cs - S.cs) * S.ks - (S.cm - S.cm) * 1048576 ≤ (S.bits - S.bits) * wpart n d tu
  rw [Int.sub_self, Int.sub_self, Int.sub_self, Int.zero_mul, Int.zero_mul]
  omega
/-- What was noted is applied. -/
theorem Inv.app {n d tu A most : Int} {S : AS} (h : Inv n d tu A most S) (hc : Cfg n d tu A) (rate : Int) (r0 : 1048576 - tu ≤ rate) (r1 : rate ≤ 1048576 + tu) :
    ∃ e S', appS tu S rate = (e, S') ∧ S'.bits = S.bits ∧ S'.ls = S.ls ∧ Inv n d tu A (if most < gapS S' then gapS S' else most) S' := by
  have hbb := h.b
  have hcm := h.cm
  have hcs := h.cs
  have hs := h.s
  have ht := hc.ht
  have hmo := h.mo
  cases hn : S.noted with
  | none =>
    refine ⟨8, S, by unfold appS; rw [hn], rfl, rfl, ?_⟩
    have g : gapS S ≤ 2400 := by
      unfold gapS
      cases ha : S.applied with
      | none => show (0 : Int) ≤ 2400; omega
      | some q =>
        obtain ⟨m, s, bt⟩ := q
        have := h.ap m s bt ha
        show wrap64 (S.bits - bt) ≤ 2400
        rw [wr64 _ (by omega) (by omega)]
        omega
    refine ⟨h.b, h.cm, h.cs, h.m, h.s, h.nt, h.ap, fun hf => ⟨(h.fl hf).1, ?_⟩, by split <;> omega⟩
    have f := (h.fl hf).2
    have := mono_mul (A := A) hc.A0 (show most ≤ (if most < gapS S then gapS S else most) by split <;> omega)
    generalize A * (if most < gapS S then gapS S else most) = Y at *
    generalize A * most = V at *
    omega
  | some q =>
    obtain ⟨m, s, bt⟩ := q
    obtain ⟨a0, a1, a2, a3, c0, a4, a5, a6, a7, a8⟩ := h.nt m s bt hn
    have ls := h.has hc S.cs (by omega) (by omega)
    have p1 := small_prod (S.cs - S.rs) S.ks (by omega) (by omega) (by omega) (by omega)
    have p2 := small_prod (c0 - S.rs) S.ks (by omega) (by omega) (by omega) (by omega)
    have hw := hc.hw
    have gw : 0 ≤ (S.bits - bt) * wpart n d tu ∧ (S.bits - bt) * wpart n d tu ≤ 20615843020800 := by
      have q1 := Int.mul_nonneg (show 0 ≤ S.bits - bt by omega) hw.1
      have q2 : (S.bits - bt) * wpart n d tu ≤ (S.bits - bt) * 8589934592 := Int.mul_le_mul_of_nonneg_left hw.2 (by omega)
      omega
    have ex : (S.cs - S.rs) * S.ks = (S.cs - c0) * S.ks + (c0 - S.rs) * S.ks := by rw [← Int.add_mul]; congr 1; omega
    have hwr : wrap64 (m - s) = m - s := wr64 _ (by omega) (by omega)
    -- the clock goes on from now, by the new rate, then is moved
    have t1 : tuneV S.rs S.bs S.ks S.cs rate = (0, S.cs, (S.cs - S.rs) * S.ks / 1048576 + S.bs, rate) := by
      unfold tuneV onV
      rw [if_pos (by omega), ls, if_pos ⟨rfl, by unfold wi; rw [decide_eq_true_eq]; simp only []; omega⟩]
      simp only [Int.add_zero]
    generalize hT : (S.cs - S.rs) * S.ks / 1048576 + S.bs = T at t1
    have bT : -4503599627370496 ≤ T ∧ T ≤ 4503599694479360 := by omega
    have l2 : lookV S.cs T rate S.cs = (T, true) := by
      have e : (S.cs - S.cs) * rate / 1048576 = 0 := by rw [Int.sub_self, Int.zero_mul]; rfl
      unfold lookV
      rw [e, Int.sub_self, Int.zero_add, if_pos ⟨by unfold In64; omega, by unfold In64; omega, by unfold wi; rw [decide_eq_true_eq]; omega⟩]
    have t2 : onV S.cs T rate S.cs (m - s) rate = (0, S.cs, T + (m - s), rate) := by
      unfold onV
      rw [l2, if_pos ⟨rfl, by unfold wi; rw [decide_eq_true_eq]; simp only []; omega⟩]
    have key : -((S.bits - bt) * wpart n d tu) - 1048576 ≤ (T + (m - s)) * 1048576 - S.cm * 1048576 ∧ (T + (m - s)) * 1048576 - S.cm * 1048576 ≤ (S.bits - bt) * wpart n d tu + 1048576 := by
      rw [← hT, a6, ex]
      generalize (S.bits - bt) * wpart n d tu = Z at *
      generalize (S.cs - c0) * S.ks = X at *
      generalize (c0 - S.rs) * S.ks = Y at *
      omega
    refine ⟨0, (S.line S.cs (T + (m - s)) rate).done m s bt, by
      unfold appS
      rw [hn]
      simp only []
      rw [if_pos ⟨r0, r1⟩, t1]
      simp only [if_true, hwr]
      rw [t2]
      rfl, rfl, rfl, ?_⟩
    have gp : gapS ((S.line S.cs (T + (m - s)) rate).done m s bt) = S.bits - bt := by
      unfold gapS
      show wrap64 (S.bits - bt) = _
      rw [wr64 _ (by omega) (by omega)]
    rw [gp]
    refine ⟨h.b, h.cm, h.cs, h.m, ?_, ?_, ?_, ?_, by split <;> omega⟩
    · show 0 ≤ S.cs ∧ S.cs ≤ S.cs ∧ 1048576 - tu ≤ rate ∧ rate ≤ 1048576 + tu ∧ -4503599627370496 ≤ T + (m - s) ∧ T + (m - s) ≤ 4503599627370496
      generalize (S.bits - bt) * wpart n d tu = Z at *
      omega
    · intro m' s' bt' e
      cases e
    · intro m' s' bt' e
      have e' := Option.some.inj e
      simp only [Prod.mk.injEq] at e'
      obtain ⟨rfl, rfl, rfl⟩ := e'
      refine ⟨a0, a1, ?_⟩
      show -((S.bits - bt) * wpart n d tu) - 1048576 ≤ (T + (m - s)) * 1048576 + (S.cs - S.cs) * rate - S.cm * 1048576 ∧ (T + (m - s)) * 1048576 + (S.cs - S.cs) * rate - S.cm * 1048576 ≤ (S.bits - bt) * wpart n d tu + 1048576
      rw [Int.sub_self, Int.zero_mul, Int.add_zero]
      exact key
    · intro hf
      refine ⟨rfl, ?_⟩
      have f := (h.fl hf).2
      have := mono_mul (A := A) hc.A0 (show most ≤ (if most < S.bits - bt then S.bits - bt else most) by split <;> omega)
      show S.ls ≤ S.cm + A * (if most < S.bits - bt then S.bits - bt else most) + 2
      generalize A * (if most < S.bits - bt then S.bits - bt else most) = Y at *
      generalize A * most = V at *
      omega
end Go.Proofs.Ytgnkmpgnlpjglaa.P
