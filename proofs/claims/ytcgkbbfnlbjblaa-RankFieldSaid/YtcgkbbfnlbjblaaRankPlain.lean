/- The protocol of ranks, in plain words: whatever was ahead, behind the window just the best node that is on is master; of two masters, without a loss, the worse one is none behind a period and two ticks. Conditions: the ranges that each lemma names. -/
import Derived.Test.YtcgkbbfnlbjblaaRankLive
namespace Go.Proofs.Ytcgkbbfnlbjblaa.P
open Go.RowKit Go.Proofs.YtcgkbbfnlbjblaaW.PrintWords Go.Proofs.YtcgkbbfnlbjblaaW.PrintLast Go.Proofs.YtcgkbbfnlbjblaaW.PrintMore
set_option linter.unusedVariables false
set_option linter.unusedSimpArgs false
def tm : Option Nd → Bool
  | none => false
  | some x => x.m && (x.q == 0)
def phi (p q : Int) : Int := if q = 0 then p else q
def runS (W : Nat → Int) (p : Int) (n : Nat) (aw : Nat → Bool) (L : Nat → Option Nd) (T : List Int) : Nat → (Nat → Option Nd) × List Int
  | 0 => (L, T)
  | t + 1 => (tickL W p (runS W p n aw L T t).1 (runS W p n aw L T t).2 (aw t), tickT W p n (runS W p n aw L T t).1 (runS W p n aw L T t).2 (aw t))
theorem mem_toldL {f : Nat → Bool} {x : Int} : ∀ {n : Nat}, x ∈ toldL f n ↔ ∃ j, j < n ∧ f j = true ∧ x = (j : Int)
  | 0 => ⟨fun h => (by cases h), fun ⟨j, h, _⟩ => absurd h (Nat.not_lt_zero _)⟩
  | n + 1 => by
    have ih := mem_toldL (f := f) (x := x) (n := n)
    unfold toldL
    constructor
    · intro h
      split at h
      · rename_i hf
        rcases List.mem_append.1 h with h | h
        · obtain ⟨j, h1, h2, h3⟩ := ih.1 h
          exact ⟨j, by omega, h2, h3⟩
        · exact ⟨n, by omega, hf, by simpa using h⟩
      · obtain ⟨j, h1, h2, h3⟩ := ih.1 h
        exact ⟨j, by omega, h2, h3⟩
    · rintro ⟨j, h1, h2, h3⟩
      by_cases e : j = n
      · subst e
        rw [if_pos h2]
        exact List.mem_append.2 (.inr (by simpa using h3))
      · have := ih.2 ⟨j, by omega, h2, h3⟩
        split
        · exact List.mem_append.2 (.inl this)
        · exact this
theorem toldL_none {f : Nat → Bool} : ∀ {n : Nat}, (∀ j, j < n → f j = false) → toldL f n = []
  | 0, _ => rfl
  | n + 1, h => by
    unfold toldL
    rw [if_neg (by rw [h n (by omega)]; decide)]
    exact toldL_none fun j hj => h j (by omega)
theorem toldL_one {f : Nat → Bool} {b : Nat} (hb : f b = true) : ∀ {n : Nat}, b < n → (∀ j, j < n → j ≠ b → f j = false) → toldL f n = [(b : Int)]
  | 0, h, _ => absurd h (Nat.not_lt_zero _)
  | n + 1, h, hj => by
    unfold toldL
    by_cases e : b = n
    · subst e
      rw [if_pos hb, toldL_none fun j h => hj j (by omega) (by omega)]
      rfl
    · rw [if_neg (by rw [hj n (by omega) (by omega)]; decide)]
      exact toldL_one hb (by omega) fun j h h2 => hj j (by omega) h2
theorem toldL_first {f : Nat → Bool} {a : Nat} (ha : f a = true) : ∀ {n : Nat}, a < n → (∀ j, j < a → f j = false) → ∃ r, toldL f n = (a : Int) :: r
  | 0, h, _ => absurd h (Nat.not_lt_zero _)
  | n + 1, h, hj => by
    unfold toldL
    by_cases e : a = n
    · subst e
      rw [if_pos ha, toldL_none hj]
      exact ⟨[], rfl⟩
    · obtain ⟨r, hr⟩ := toldL_first ha (n := n) (by omega) hj
      rw [hr]
      split
      · exact ⟨_, rfl⟩
      · exact ⟨_, rfl⟩
theorem least {f : Nat → Bool} : ∀ {b : Nat}, f b = true → ∃ a, a ≤ b ∧ f a = true ∧ ∀ j, j < a → f j = false
  | b, h => by
    induction b using Nat.strongRecOn with
    | _ b ih =>
      by_cases e : ∃ j, j < b ∧ f j = true
      · obtain ⟨j, h1, h2⟩ := e
        obtain ⟨a, h3, h4⟩ := ih j h1 h2
        exact ⟨a, by omega, h4⟩
      · exact ⟨b, Nat.le_refl _, h, fun j hj => by cases q : f j with | false => rfl | true => exact absurd ⟨j, hj, q⟩ e⟩
theorem tick_told (wt p r : Int) (zs : List Int) (x : Nd) : (tickN wt p r zs x).1 = tm (some (tickN wt p r zs x).2) := by
  unfold tickN tm
  split
  · rfl
  · split
    · rfl
    · split
      · rfl
      · rfl
theorem tickT_eq (W : Nat → Int) (p : Int) (n : Nat) (L : Nat → Option Nd) (T : List Int) (lost : Bool) : tickT W p n L T lost = toldL (fun j => tm (tickL W p L T lost j)) n := by
  unfold tickT
  congr 1
  funext j
  unfold tickL
  cases L j with
  | none => rfl
  | some x => exact tick_told _ _ _ _ _
theorem better_iff {f : Nat → Bool} {n j : Nat} : (toldL f n).any (betterB (j : Int)) = true ↔ ∃ r, r < n ∧ r < j ∧ f r = true := by
  rw [List.any_eq_true]
  constructor
  · rintro ⟨x, hx, hb⟩
    obtain ⟨r, h1, h2, rfl⟩ := mem_toldL.1 hx
    unfold betterB at hb
    simp only [Bool.and_eq_true, decide_eq_true_eq] at hb
    exact ⟨r, h1, by omega, h2⟩
  · rintro ⟨r, h1, h2, h3⟩
    refine ⟨(r : Int), mem_toldL.2 ⟨r, h1, h3, rfl⟩, ?_⟩
    unfold betterB
    simp only [Bool.and_eq_true, decide_eq_true_eq]
    omega
theorem tick_hear {wt p r : Int} {zs : List Int} {x : Nd} (h : zs.any (betterB r) = true) : (tickN wt p r zs x).2 = ⟨false, 0, x.q⟩ := by
  unfold tickN; rw [if_pos h]
theorem tick_lead {wt p r : Int} {zs : List Int} {x : Nd} (h : zs.any (betterB r) = false) (m : x.m = true) : (tickN wt p r zs x).2 = ⟨true, x.i, Int.tmod (x.q + 1) p⟩ := by
  unfold tickN; rw [if_neg (by rw [h]; decide), if_pos m]
theorem tick_rise {wt p r : Int} {zs : List Int} {x : Nd} (h : zs.any (betterB r) = false) (m : x.m = false) (t : wt < x.i + 1) : (tickN wt p r zs x).2 = ⟨true, 0, 0⟩ := by
  unfold tickN; rw [if_neg (by rw [h]; decide), if_neg (by rw [m]; decide), if_pos t]
theorem tick_wait {wt p r : Int} {zs : List Int} {x : Nd} (h : zs.any (betterB r) = false) (m : x.m = false) (t : ¬ wt < x.i + 1) : (tickN wt p r zs x).2 = ⟨false, x.i + 1, x.q⟩ := by
  unfold tickN; rw [if_neg (by rw [h]; decide), if_neg (by rw [m]; decide), if_neg t]
theorem phi_next {p q : Int} (q0 : 0 ≤ q) (q1 : q < p) : phi p (Int.tmod (q + 1) p) = q + 1 := by
  unfold phi
  by_cases h : q + 1 = p
  · rw [h, Int.tmod_self, if_pos rfl]
  · rw [Int.tmod_eq_of_lt (by omega) (by omega), if_neg (by omega)]
theorem phi_pos {p q : Int} (q0 : 0 ≤ q) (p0 : 1 ≤ p) : 1 ≤ phi p q := by unfold phi; split <;> omega
theorem phi_le {p q : Int} (q1 : q < p) : phi p q ≤ p := by unfold phi; split <;> omega
/-- How many lost turns lie ahead of a tick. -/
def past (vs : List Int) (t : Nat) : Nat := vs.countP (fun v => decide (v < (t : Int)))
theorem past_le (vs : List Int) (t : Nat) : past vs t ≤ vs.length := List.countP_le_length
theorem past_mono (vs : List Int) (t : Nat) : past vs t ≤ past vs (t + 1) := List.countP_mono_left fun v _ h => by simp only [decide_eq_true_eq] at h ⊢; omega
theorem past_next : ∀ (vs : List Int) (t : Nat), (vs.any (fun v => v == (t : Int))) = true → past vs t + 1 ≤ past vs (t + 1)
  | [], _, h => by cases h
  | v :: vs, t, h => by
    unfold past
    rw [List.countP_cons, List.countP_cons]
    have m := past_mono vs t
    unfold past at m
    by_cases e : v = (t : Int)
    · rw [if_neg (by simp only [decide_eq_true_eq]; omega), if_pos (by simp only [decide_eq_true_eq]; omega)]
      omega
    · have h2 : (vs.any (fun v => v == (t : Int))) = true := by
        rw [List.any_cons] at h
        have e2 : (v == (t : Int)) = false := beq_eq_false_iff_ne.mpr e
        rwa [e2, Bool.false_or] at h
      have := past_next vs t h2
      unfold past at this
      by_cases e3 : v < (t : Int)
      · rw [if_pos (by simpa using e3), if_pos (by simp only [decide_eq_true_eq]; omega)]
        omega
      · rw [if_neg (by simpa using e3), if_neg (by simp only [decide_eq_true_eq]; omega)]
        omega
section
variable {W : Nat → Int} {p : Int} {n : Nat} {aw : Nat → Bool} {L : Nat → Option Nd} {T : List Int}
theorem runS_ok (h : FOk W p n L) (w0 : ∀ j, j < n → 0 ≤ W j) (p0 : 1 ≤ p) : ∀ t, FOk W p n (runS W p n aw L T t).1
  | 0 => h
  | t + 1 => (runS_ok h w0 p0 t).tick w0 p0 _ _
theorem runS_told (t : Nat) : (runS W p n aw L T (t + 1)).2 = toldL (fun j => tm ((runS W p n aw L T (t + 1)).1 j)) n := tickT_eq _ _ _ _ _ _
theorem runS_at (t j : Nat) {x : Nd} (h : (runS W p n aw L T t).1 j = some x) : (runS W p n aw L T (t + 1)).1 j = some (tickN (W j) p j (if aw t = true then [] else (runS W p n aw L T t).2) x).2 := by
  show tickL W p _ _ _ j = _
  unfold tickL
  rw [h]
  rfl
theorem runS_none (t j : Nat) : (runS W p n aw L T (t + 1)).1 j = none ↔ (runS W p n aw L T t).1 j = none := by
  show tickL W p _ _ _ j = none ↔ _
  unfold tickL
  cases (runS W p n aw L T t).1 j with
  | none => exact ⟨fun _ => rfl, fun _ => rfl⟩
  | some x => exact ⟨fun h => (by cases h), fun h => (by cases h)⟩
theorem runS_off {j : Nat} (h : L j = none) : ∀ t, (runS W p n aw L T t).1 j = none
  | 0 => h
  | t + 1 => (runS_none t j).2 (runS_off h t)
theorem runS_back (t j : Nat) {y : Nd} (h : (runS W p n aw L T (t + 1)).1 j = some y) : ∃ x, (runS W p n aw L T t).1 j = some x ∧ y = (tickN (W j) p j (if aw t = true then [] else (runS W p n aw L T t).2) x).2 := by
  cases e : (runS W p n aw L T t).1 j with
  | none => rw [(runS_none t j).2 e] at h; cases h
  | some x =>
    rw [runS_at t j e] at h
    exact ⟨x, rfl, (Option.some.inj h).symm⟩
/-- Who is the best of those that are on hears nobody better, from the second tick on. -/
theorem best_deaf {β : Nat} (hoff : ∀ j, j < β → L j = none) (t : Nat) : (if aw (t + 1) = true then [] else (runS W p n aw L T (t + 1)).2).any (betterB (β : Int)) = false := by
  split
  · rfl
  · cases h : (runS W p n aw L T (t + 1)).2.any (betterB (β : Int)) with
    | false => rfl
    | true =>
      rw [runS_told] at h
      obtain ⟨r, h1, h2, h3⟩ := better_iff.1 h
      rw [runS_off (hoff r h2)] at h3
      cases h3
theorem One_inv {vs : List Int} {β : Nat} {x0 : Nd} (hβ : β < n) (h0 : L β = some x0) (hoff : ∀ j, j < β → L j = none) (ok : FOk W p n L) (w0 : ∀ j, j < n → ((vs.length : Int) + 1) * p ≤ W j) (p0 : 1 ≤ p)
    (haw : ∀ t, aw t = vs.any (fun v => v == (t : Int))) : ∀ t : Nat, ∃ x, (runS W p n aw L T (t + 1)).1 β = some x ∧ ((x.m = false ∧ (t : Int) ≤ x.i) ∨ (x.m = true ∧ ∃ t0 : Nat, (t0 : Int) ≤ W β + 1 ∧
      ∀ j, β < j → j < n → ∀ y, (runS W p n aw L T (t + 1)).1 j = some y → (y.m = false ∧ y.i + 1 ≤ (past vs (t + 1) : Int) * p + phi p x.q) ∨ ((t : Int) + 1 ≤ t0 + (past vs (t + 1) : Int) * p + phi p x.q))) := by
  have wn : ∀ j, j < n → 0 ≤ W j := fun j hj => by
    have := w0 j hj
    have : 0 ≤ ((vs.length : Int) + 1) * p := Int.mul_nonneg (by omega) (by omega)
    omega
  have OK : ∀ t, FOk W p n (runS W p n aw L T t).1 := runS_ok ok wn p0
  have np : ∀ t, 0 ≤ (past vs t : Int) * p := fun t => Int.mul_nonneg (by omega) (by omega)
  intro t
  induction t with
  | zero =>
    have h1 := runS_at (W := W) (p := p) (n := n) (aw := aw) (L := L) (T := T) 0 β h0
    refine ⟨_, h1, ?_⟩
    have ok1 := OK 1 β _ hβ h1
    cases hm : (tickN (W β) p (β : Int) (if aw 0 = true then [] else (runS W p n aw L T 0).2) x0).2.m with
    | false => exact .inl ⟨rfl, by have := ok1.1; simpa using this⟩
    | true =>
      refine .inr ⟨rfl, 0, by have := wn β hβ; omega, fun j _ _ y _ => .inr ?_⟩
      have := phi_pos ok1.2.2.1 p0
      have := np (0 + 1)
      have e0 : ((0 : Nat) : Int) = 0 := rfl
      rw [e0]
      omega
  | succ t ih =>
    obtain ⟨x, hx, ih⟩ := ih
    have h1 := runS_at (t + 1) β hx
    have okx := OK (t + 1) β x hβ hx
    have deaf := best_deaf (W := W) (p := p) (n := n) (aw := aw) (T := T) hoff t
    have hN0 : (past vs (t + 1 + 1) : Int) ≤ vs.length := by have := past_le vs (t + 1 + 1); omega
    have hNp : (past vs (t + 1 + 1) : Int) * p ≤ (vs.length : Int) * p := Int.mul_le_mul_of_nonneg_right hN0 (by omega)
    have hM : (past vs (t + 1) : Int) * p ≤ (past vs (t + 1 + 1) : Int) * p := Int.mul_le_mul_of_nonneg_right (by have := past_mono vs (t + 1); omega) (by omega)
    have hk : ((vs.length : Int) + 1) * p = (vs.length : Int) * p + p := by rw [Int.add_mul, Int.one_mul]
    rcases ih with ⟨hm, hi⟩ | ⟨hm, t0, ht0, ih⟩
    · by_cases hr : W β < x.i + 1
      · rw [tick_rise deaf hm hr] at h1
        refine ⟨_, h1, .inr ⟨rfl, t + 1, by have := okx.2.1; omega, fun j _ _ y _ => .inr ?_⟩⟩
        have := np (t + 1 + 1)
        have e : phi p 0 = p := if_pos rfl
        show ((t + 1 : Nat) : Int) + 1 ≤ ((t + 1 : Nat) : Int) + _ + phi p 0
        rw [e]
        omega
      · rw [tick_wait deaf hm hr] at h1
        exact ⟨_, h1, .inl ⟨rfl, by show ((t + 1 : Nat) : Int) ≤ x.i + 1; omega⟩⟩
    · rw [tick_lead deaf hm] at h1
      refine ⟨_, h1, .inr ⟨rfl, t0, ht0, fun j hj hn y hy => ?_⟩⟩
      have hph := phi_next okx.2.2.1 okx.2.2.2
      show (_ ∧ y.i + 1 ≤ _ + phi p (Int.tmod (x.q + 1) p)) ∨ ((t + 1 : Nat) : Int) + 1 ≤ _ + _ + phi p (Int.tmod (x.q + 1) p)
      rw [hph]
      obtain ⟨z, hz, rfl⟩ := runS_back (t + 1) j hy
      have hj0 := np (t + 1 + 1)
      have ih1 := ih j hj hn z hz
      have wj := w0 j hn
      by_cases q0 : x.q = 0
      · have e : phi p x.q = p := if_pos q0
        rw [e] at ih1
        cases ha : aw (t + 1) with
        | false =>
          have hear : (if aw (t + 1) = true then [] else (runS W p n aw L T (t + 1)).2).any (betterB (j : Int)) = true := by
            rw [ha, if_neg (by decide), runS_told]
            refine better_iff.2 ⟨β, hβ, hj, ?_⟩
            rw [hx]
            show (x.m && (x.q == 0)) = true
            rw [hm, q0]
            rfl
          rw [ha] at hear
          left
          rw [tick_hear hear]
          exact ⟨rfl, by show (0 : Int) + 1 ≤ _; omega⟩
        | true =>
          have hN := past_next vs (t + 1) (by rw [← haw]; exact ha)
          have hP : (past vs (t + 1) : Int) * p + p ≤ (past vs (t + 1 + 1) : Int) * p := by
            have : ((past vs (t + 1) : Int) + 1) * p ≤ (past vs (t + 1 + 1) : Int) * p := Int.mul_le_mul_of_nonneg_right (by omega) (by omega)
            rwa [Int.add_mul, Int.one_mul] at this
          rcases ih1 with ⟨zm, zi⟩ | hd
          · left
            have nohear : (if true = true then ([] : List Int) else (runS W p n aw L T (t + 1)).2).any (betterB (j : Int)) = false := by rw [if_pos rfl]; rfl
            rw [tick_wait nohear zm (by omega)]
            exact ⟨rfl, by show z.i + 1 + 1 ≤ _; omega⟩
          · right
            omega
      · have e : phi p x.q = x.q := if_neg q0
        rw [e] at ih1
        have := okx.2.2.1
        have := okx.2.2.2
        rcases ih1 with ⟨zm, zi⟩ | hd
        · left
          cases hb : (if aw (t + 1) = true then [] else (runS W p n aw L T (t + 1)).2).any (betterB (j : Int)) with
          | true =>
            rw [tick_hear hb]
            exact ⟨rfl, by show (0 : Int) + 1 ≤ _; omega⟩
          | false =>
            rw [tick_wait hb zm (by omega)]
            exact ⟨rfl, by show z.i + 1 + 1 ≤ _; omega⟩
        · right
          omega
theorem One_law {vs : List Int} {β : Nat} {x0 : Nd} (hβ : β < n) (h0 : L β = some x0) (hoff : ∀ j, j < β → L j = none) (ok : FOk W p n L) (w0 : ∀ j, j < n → ((vs.length : Int) + 1) * p ≤ W j) (p0 : 1 ≤ p)
    (haw : ∀ t, aw t = vs.any (fun v => v == (t : Int))) (t : Nat) (ht : W β + 1 + ((vs.length : Int) + 1) * p < (t : Int) + 1) : toldL (fun j => mO ((runS W p n aw L T (t + 1)).1 j)) n = [(β : Int)] := by
  obtain ⟨x, hx, h⟩ := One_inv (T := T) hβ h0 hoff ok w0 p0 haw t
  have wn : ∀ j, j < n → 0 ≤ W j := fun j hj => by
    have := w0 j hj
    have : 0 ≤ ((vs.length : Int) + 1) * p := Int.mul_nonneg (by omega) (by omega)
    omega
  have okx := runS_ok (aw := aw) (T := T) ok wn p0 (t + 1) β x hβ hx
  have := wn β hβ
  have hkp : 0 ≤ ((vs.length : Int) + 1) * p := Int.mul_nonneg (by omega) (by omega)
  rcases h with ⟨hm, hi⟩ | ⟨hm, t0, ht0, h⟩
  · have := okx.2.1
    omega
  · refine toldL_one (by show mO _ = true; rw [hx]; exact hm) hβ fun j hj hne => ?_
    show mO _ = false
    by_cases hlt : j < β
    · rw [runS_off (hoff j hlt)]
      rfl
    · cases hy : (runS W p n aw L T (t + 1)).1 j with
      | none => rfl
      | some y =>
        rcases h j (by omega) hj y hy with ⟨ym, _⟩ | hd
        · exact ym
        · have a := phi_le okx.2.2.2
          have hN0 : (past vs (t + 1) : Int) ≤ vs.length := by have := past_le vs (t + 1); omega
          have hNp : (past vs (t + 1) : Int) * p ≤ (vs.length : Int) * p := Int.mul_le_mul_of_nonneg_right hN0 (by omega)
          rw [Int.add_mul, Int.one_mul] at ht
          omega
theorem None_law (hoff : ∀ j, j < n → L j = none) (t : Nat) : toldL (fun j => mO ((runS W p n aw L T t).1 j)) n = [] := toldL_none fun j hj => by rw [runS_off (hoff j hj)]; rfl
theorem Demotes_inv {a : Nat} (han : a < n) (ha : mO ((runS W p n (fun _ => false) L T 1).1 a) = true) (hl : ∀ j, j < a → mO ((runS W p n (fun _ => false) L T 1).1 j) = false) (ok : FOk W p n L) (w0 : ∀ j, j < n → p ≤ W j) (p0 : 1 ≤ p) :
    ∀ t : Nat, ∃ b x, b ≤ a ∧ (runS W p n (fun _ => false) L T (t + 1)).1 b = some x ∧ x.m = true ∧ (∀ j, j < b → mO ((runS W p n (fun _ => false) L T (t + 1)).1 j) = false) ∧
      ∀ j, a < j → j < n → ∀ y, (runS W p n (fun _ => false) L T (t + 1)).1 j = some y → (y.m = false ∧ y.i ≤ phi p x.q) ∨ (t : Int) ≤ phi p x.q := by
  have wn : ∀ j, j < n → 0 ≤ W j := fun j hj => by have := w0 j hj; omega
  have OK : ∀ t, FOk W p n (runS W p n (fun _ => false) L T t).1 := runS_ok ok wn p0
  intro t
  induction t with
  | zero =>
    cases hx : (runS W p n (fun _ => false) L T 1).1 a with
    | none => rw [hx] at ha; cases ha
    | some x =>
      rw [hx] at ha
      refine ⟨a, x, Nat.le_refl _, hx, ha, hl, fun j _ _ y _ => .inr ?_⟩
      have := phi_pos (OK 1 a x han hx).2.2.1 p0
      show ((0 : Nat) : Int) ≤ _
      omega
  | succ t ih =>
    obtain ⟨b, x, hba, hx, hm, hlb, ih⟩ := ih
    have okx := OK (t + 1) b x (by omega) hx
    have told := runS_told (W := W) (p := p) (n := n) (aw := fun _ => false) (L := L) (T := T) t
    have deaf : ∀ j, j ≤ b → ((runS W p n (fun _ => false) L T (t + 1)).2).any (betterB (j : Int)) = false := fun j hj => by
      cases h : (runS W p n (fun _ => false) L T (t + 1)).2.any (betterB (j : Int)) with
      | false => rfl
      | true =>
        rw [told] at h
        obtain ⟨r, h1, h2, h3⟩ := better_iff.1 h
        have e := hlb r (by omega)
        cases hr : (runS W p n (fun _ => false) L T (t + 1)).1 r with
        | none => rw [hr] at h3; cases h3
        | some y =>
          rw [hr] at h3 e
          have h4 : (y.m && (y.q == 0)) = true := h3
          have e2 : y.m = false := e
          rw [e2] at h4
          cases h4
    have h1 : (runS W p n (fun _ => false) L T (t + 1 + 1)).1 b = some ⟨true, x.i, Int.tmod (x.q + 1) p⟩ := by
      have := runS_at (t + 1) b hx
      rw [this]
      exact congrArg some (tick_lead (deaf b (Nat.le_refl _)) hm)
    obtain ⟨b', hb', hm', hl'⟩ := least (f := fun j => mO ((runS W p n (fun _ => false) L T (t + 1 + 1)).1 j)) (b := b) (by show mO _ = true; rw [h1]; rfl)
    obtain ⟨x', hx', hph⟩ : ∃ x', (runS W p n (fun _ => false) L T (t + 1 + 1)).1 b' = some x' ∧ (phi p x'.q = x.q + 1 ∨ phi p x'.q = p) := by
      by_cases e : b' = b
      · subst e
        exact ⟨_, h1, .inl (phi_next okx.2.2.1 okx.2.2.2)⟩
      · cases hz : (runS W p n (fun _ => false) L T (t + 1)).1 b' with
        | none =>
          have hm2 : mO ((runS W p n (fun _ => false) L T (t + 1 + 1)).1 b') = true := hm'
          rw [(runS_none (t + 1) b').2 hz] at hm2
          cases hm2
        | some z =>
          have zm : z.m = false := by have := hlb b' (by omega); rw [hz] at this; exact this
          have h2 := runS_at (t + 1) b' hz
          have hm2 : mO ((runS W p n (fun _ => false) L T (t + 1 + 1)).1 b') = true := hm'
          by_cases hr : W b' < z.i + 1
          · exact ⟨_, h2, .inr (by
              show phi p (tickN (W b') p (b' : Int) (runS W p n (fun _ => false) L T (t + 1)).2 z).2.q = p
              rw [tick_rise (deaf b' hb') zm hr]
              exact if_pos rfl)⟩
          · rw [h2] at hm2
            have e3 : (tickN (W b') p (b' : Int) (runS W p n (fun _ => false) L T (t + 1)).2 z).2.m = true := hm2
            rw [tick_wait (deaf b' hb') zm hr] at e3
            cases e3
    refine ⟨b', x', by omega, hx', by have : mO _ = true := hm'; rw [hx'] at this; exact this, hl', fun j hj hn y hy => ?_⟩
    obtain ⟨z, hz, rfl⟩ := runS_back (t + 1) j hy
    have ih1 := ih j hj hn z hz
    have wj := w0 j hn
    have q1 := okx.2.2.1
    have q2 := okx.2.2.2
    have hp' : 1 ≤ phi p x'.q := by omega
    by_cases q0 : x.q = 0
    · left
      have hear : (runS W p n (fun _ => false) L T (t + 1)).2.any (betterB (j : Int)) = true := by
        rw [told]
        refine better_iff.2 ⟨b, by omega, by omega, ?_⟩
        rw [hx]
        show (x.m && (x.q == 0)) = true
        rw [hm, q0]
        rfl
      have e := tick_hear (wt := W j) (p := p) (x := z) hear
      show (tickN (W j) p (j : Int) (runS W p n (fun _ => false) L T (t + 1)).2 z).2.m = false ∧ (tickN (W j) p (j : Int) (runS W p n (fun _ => false) L T (t + 1)).2 z).2.i ≤ _
      rw [e]
      exact ⟨rfl, by show (0 : Int) ≤ _; omega⟩
    · have e : phi p x.q = x.q := if_neg q0
      rw [e] at ih1
      rcases ih1 with ⟨zm, zi⟩ | hd
      · left
        show (tickN (W j) p (j : Int) (runS W p n (fun _ => false) L T (t + 1)).2 z).2.m = false ∧ (tickN (W j) p (j : Int) (runS W p n (fun _ => false) L T (t + 1)).2 z).2.i ≤ _
        cases hb : (runS W p n (fun _ => false) L T (t + 1)).2.any (betterB (j : Int)) with
        | true =>
          rw [tick_hear hb]
          exact ⟨rfl, by show (0 : Int) ≤ _; omega⟩
        | false =>
          rw [tick_wait hb zm (by omega)]
          exact ⟨rfl, by show z.i + 1 ≤ _; omega⟩
      · right
        show ((t + 1 : Nat) : Int) ≤ _
        omega
theorem Demotes_law {a : Nat} (han : a < n) (ha : mO ((runS W p n (fun _ => false) L T 1).1 a) = true) (hl : ∀ j, j < a → mO ((runS W p n (fun _ => false) L T 1).1 j) = false) (ok : FOk W p n L) (w0 : ∀ j, j < n → p ≤ W j) (p0 : 1 ≤ p) (t : Nat) (ht : p < (t : Int)) :
    (∃ b, b < n ∧ mO ((runS W p n (fun _ => false) L T (t + 1)).1 b) = true) ∧ ∀ j, j < n → mO ((runS W p n (fun _ => false) L T (t + 1)).1 j) = true → j ≤ a := by
  obtain ⟨b, x, hba, hx, hm, _, h⟩ := Demotes_inv (T := T) han ha hl ok w0 p0 t
  have wn : ∀ j, j < n → 0 ≤ W j := fun j hj => by have := w0 j hj; omega
  have okx := runS_ok (aw := fun _ => false) (T := T) ok wn p0 (t + 1) b x (by omega) hx
  refine ⟨⟨b, by omega, by rw [hx]; exact hm⟩, fun j hj hjm => ?_⟩
  by_cases hlt : j ≤ a
  · exact hlt
  · exfalso
    cases hy : (runS W p n (fun _ => false) L T (t + 1)).1 j with
    | none => rw [hy] at hjm; cases hjm
    | some y =>
      rw [hy] at hjm
      rcases h j (by omega) hj y hy with ⟨ym, _⟩ | hd
      · have : y.m = true := hjm
        rw [ym] at this
        cases this
      · have := phi_le okx.2.2.2
        omega
end
end Go.Proofs.Ytcgkbbfnlbjblaa.P
