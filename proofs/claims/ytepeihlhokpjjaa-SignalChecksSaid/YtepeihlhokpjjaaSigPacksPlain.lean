/- What is packed is unpacked as it was, and what is unpacked is packed so again: the plain laws. Conditions: those that each lemma names. -/
import Derived.Test.YtepeihlhokpjjaaSigRef
namespace Go.Proofs.Ytepeihlhokpjjaa.P
open Go.RowKit Go.Proofs.YtepeihlhokpjjaaW.PrintWords Go.Proofs.YtepeihlhokpjjaaW.PrintLast Go.Proofs.YtepeihlhokpjjaaW.PrintMore
set_option linter.unusedVariables false
set_option linter.unusedSimpArgs false
theorem getD_set (t : List Bool) (i j : Nat) : (t.set i true).getD j false = if i = j ∧ j < t.length then true else t.getD j false := by
  simp only [List.getD_eq_getElem?_getD, List.getElem?_set]
  by_cases h : i = j
  · subst h
    by_cases h2 : i < t.length
    · simp [h2]
    · simp [h2]
  · simp [h]
theorem takeL_false : ∀ (l : List Int) (t : List Bool), (takeL l t false).2 = false
  | [], t => rfl
  | a :: r, t => takeL_false r _
/-- What is taken freely was free, and stands behind. -/
theorem takeL_spec : ∀ (l : List Int) (t : List Bool) (f : Bool), t.length = 64 → (∀ a ∈ l, 0 ≤ a ∧ a < 64) → (takeL l t f).2 = true → f = true ∧ (∀ a ∈ l, t.getD a.toNat false = false) ∧ (∀ a ∈ l, (takeL l t f).1.getD a.toNat false = true) ∧ ∀ j, t.getD j false = true → (takeL l t f).1.getD j false = true
  | [], t, f, _, _, h => ⟨h, (fun a ha => (nomatch ha)), (fun a ha => (nomatch ha)), fun j hj => hj⟩
  | a :: r, t, f, ht, hl, h => by
    have a0 := hl a List.mem_cons_self
    have ih := takeL_spec r (t.set a.toNat true) (f && !t.getD a.toNat false) (by rw [List.length_set]; exact ht) (fun b hb => hl b (List.mem_cons_of_mem _ hb)) h
    obtain ⟨h1, h2, h3, h4⟩ := ih
    simp only [Bool.and_eq_true, Bool.not_eq_true'] at h1
    refine ⟨h1.1, ?_, ?_, ?_⟩
    · intro b hb
      rcases List.mem_cons.1 hb with rfl | hb
      · exact h1.2
      · have := h2 b hb
        rw [getD_set] at this
        split at this
        · cases this
        · exact this
    · intro b hb
      rcases List.mem_cons.1 hb with rfl | hb
      · refine h4 _ ?_
        rw [getD_set, if_pos ⟨rfl, by omega⟩]
      · exact h3 b hb
    · intro j hj
      refine h4 _ ?_
      rw [getD_set]
      split
      · rfl
      · exact hj
/-- Two signals share no bit. -/
def Apart (s u : Sg) : Prop := ∀ a ∈ placesV u, a ∉ placesV s
theorem checkL_spec (b : Int) : ∀ (l : List S23) (i : Nat) (t : List Bool) (n : Int), t.length = 64 → checkL b l i t = (n, 0) →
    n = (i : Int) + l.length ∧ (∀ x ∈ l, badS (Sg.of x) = false ∧ ∀ a ∈ placesV (Sg.of x), t.getD a.toNat false = false) ∧ l.Pairwise (fun x y => Apart (Sg.of x) (Sg.of y))
  | [], i, t, n, _, h => by
    unfold checkL at h
    injection h with h _
    exact ⟨by simp [← h], (fun x hx => (nomatch hx)), List.Pairwise.nil⟩
  | x :: r, i, t, n, ht, h => by
    unfold checkL at h
    split at h
    · injection h with _ h; cases h
    · next hb =>
      split at h
      · injection h with _ h; cases h
      · split at h
        · next hf =>
          have sp := takeL_spec (placesV (Sg.of x)) t true ht (placesV_range _) hf
          have ih := checkL_spec b r (i + 1) _ n (by unfold takeV; rw [takeL_len]; exact ht) h
          refine ⟨by rw [ih.1, List.length_cons]; omega, ?_, ?_⟩
          · intro y hy
            rcases List.mem_cons.1 hy with rfl | hy
            · exact ⟨by simpa using hb, sp.2.1⟩
            · refine ⟨(ih.2.1 y hy).1, fun a ha => ?_⟩
              have h1 := (ih.2.1 y hy).2 a ha
              cases hq : t.getD a.toNat false
              · rfl
              · have := sp.2.2.2 _ hq
                unfold takeV at h1
                rw [this] at h1
                cases h1
          · refine List.pairwise_cons.2 ⟨fun y hy a ha hx => ?_, ih.2.2⟩
            have h1 := (ih.2.1 y hy).2 a ha
            have h2 := sp.2.2.1 a hx
            unfold takeV at h1
            rw [h2] at h1
            cases h1
        · injection h with _ h; cases h
theorem checkV_spec {l : List S23} (h : (checkV l 8).2 = 0) : (checkV l 8).1 = l.length ∧ (∀ x ∈ l, badS (Sg.of x) = false) ∧ l.Pairwise (fun x y => Apart (Sg.of x) (Sg.of y)) ∧ l.length ≤ 64 := by
  unfold checkV at h ⊢
  split at h
  · cases h
  · next h64 =>
    rw [if_neg h64]
    rw [if_neg (by omega)] at h ⊢
    have := checkL_spec 8 l 0 free64 (checkL 8 l 0 free64).1 (by decide) (Prod.ext rfl h)
    refine ⟨by rw [this.1]; simp, fun x hx => (this.2.1 x hx).1, this.2.2, by omega⟩
theorem no_worth0 {s : Sg} {r : Int} (h : fitsV s r = false) : worthV s r = (0, false) := by
  unfold worthV
  split
  · exact if_neg (by rw [h]; simp)
  · rfl
theorem fits_of {s : Sg} {r x : Int} (h : worthV s r = (x, true)) : fitsV s r = true := by
  cases hf : fitsV s r
  · rw [no_worth0 hf] at h
    cases h
  · rfl
/-- Packing, where each worth has its raw number. -/
theorem packL_ok (wl : List Int) : ∀ (l : List S23) (i : Nat) (d : List Int), Byts d → l.Pairwise (fun x y => Apart (Sg.of x) (Sg.of y)) → (∀ j x, l[j]? = some x → (rawV (Sg.of x) (rd wl ((i + j : Nat) : Int))).2 = true) →
    ∃ y, packL wl l i d = (y, (i : Int) + l.length, 0) ∧ Byts y ∧ (∀ j x, l[j]? = some x → getV y (Sg.of x) = (rawV (Sg.of x) (rd wl ((i + j : Nat) : Int))).1) ∧ ∀ u, (∀ x ∈ l, Apart (Sg.of x) u) → getV y u = getV d u
  | [], i, d, h, _, _ => ⟨d, by simp [packL], h, fun j x hx => by simp at hx, fun u _ => rfl⟩
  | x :: r, i, d, h, hp, hr => by
    have p := List.pairwise_cons.1 hp
    have h0 := hr 0 x rfl
    rw [Nat.add_zero] at h0
    obtain ⟨rw0, hrw⟩ : ∃ q, (rawV (Sg.of x) (rd wl (i : Int))).1 = q := ⟨_, rfl⟩
    have hrv : rawV (Sg.of x) (rd wl (i : Int)) = (rw0, true) := Prod.ext hrw h0
    have hw := raw_worth hrv
    have hf := fits_of hw.2.2
    have ih := packL_ok wl r (i + 1) (putV d (Sg.of x) rw0).1 (putV_byts h _ _) p.2 (fun j z hz => by
      have := hr (j + 1) z hz
      rwa [show i + (j + 1) = i + 1 + j by omega] at this)
    obtain ⟨y, e1, e2, e3, e4⟩ := ih
    refine ⟨y, ?_, e2, ?_, ?_⟩
    · show (if (rawV (Sg.of x) (rd wl (i : Int))).2 = true then packL wl r (i + 1) (putV d (Sg.of x) (rawV (Sg.of x) (rd wl (i : Int))).1).1 else (zeros8, (i : Int), 1)) = _
      rw [if_pos h0, hrw, e1, List.length_cons]
      congr 2
      omega
    · intro j z hz
      cases j with
      | zero =>
        have hz : x = z := by simpa using hz
        subst hz
        rw [e4 _ (fun u hu => ?_), put_get h hf, Nat.add_zero, hrw]
        intro a ha hu2
        exact p.1 u hu a hu2 ha
      | succ j =>
        have := e3 j z (by simpa using hz)
        rw [this, show i + 1 + j = i + (j + 1) by omega]
    · intro u hu
      rw [e4 u (fun z hz => hu z (List.mem_cons_of_mem _ hz)), put_other h hf (hu x List.mem_cons_self)]
/-- What could be packed had its raw numbers. -/
theorem packL_raw (wl : List Int) : ∀ (l : List S23) (i : Nat) (d : List Int), (packL wl l i d).2.2 = 0 → ∀ j x, l[j]? = some x → (rawV (Sg.of x) (rd wl ((i + j : Nat) : Int))).2 = true
  | [], i, d, _, j, x, hx => by simp at hx
  | z :: r, i, d, h, j, x, hx => by
    have h : (if (rawV (Sg.of z) (rd wl (i : Int))).2 = true then packL wl r (i + 1) (putV d (Sg.of z) (rawV (Sg.of z) (rd wl (i : Int))).1).1 else (zeros8, (i : Int), 1)).2.2 = 0 := h
    split at h
    · next h0 =>
      cases j with
      | zero =>
        have hx : z = x := by simpa using hx
        subst hx
        rwa [Nat.add_zero]
      | succ j =>
        have := packL_raw wl r (i + 1) _ h j x (by simpa using hx)
        rwa [show i + (j + 1) = i + 1 + j by omega]
    · cases h
theorem unpackL_ok (d : List Int) : ∀ (l : List S23) (i : Nat) (o ws : List Int), ws.length = l.length → (∀ j x, l[j]? = some x → worthV (Sg.of x) (getV d (Sg.of x)) = (rd ws ((j : Nat) : Int), true)) → unpackL d l i o = (o ++ ws, (i : Int) + l.length, 0)
  | [], i, o, ws, h, _ => by
    have : ws = [] := List.eq_nil_of_length_eq_zero h
    subst this
    simp [unpackL]
  | x :: r, i, o, ws, h, hw => by
    cases ws with
    | nil => simp at h
    | cons v vs =>
      have h0 := hw 0 x rfl
      have hv : rd (v :: vs) ((0 : Nat) : Int) = v := rfl
      rw [hv] at h0
      show (if (worthV (Sg.of x) (getV d (Sg.of x))).2 = true then unpackL d r (i + 1) (o ++ [(worthV (Sg.of x) (getV d (Sg.of x))).1]) else ([], (i : Int), 9)) = _
      rw [h0, if_pos rfl, unpackL_ok d r (i + 1) (o ++ [v]) vs (by simpa using h) (fun j z hz => ?_), List.append_assoc, List.length_cons]
      · simp only [List.cons_append, List.nil_append]
        congr 2
        omega
      · have := hw (j + 1) z (by simpa using hz)
        rw [this]
        first | rfl | (congr 1; unfold rd; simp)
theorem unpackL_worth (d : List Int) : ∀ (l : List S23) (i : Nat) (o w : List Int) (n : Int), unpackL d l i o = (w, n, 0) → ∃ ws, w = o ++ ws ∧ ws.length = l.length ∧ ∀ j x, l[j]? = some x → worthV (Sg.of x) (getV d (Sg.of x)) = (rd ws ((j : Nat) : Int), true)
  | [], i, o, w, n, h => by
    unfold unpackL at h
    injection h with h _
    exact ⟨[], by simp [h], rfl, fun j x hx => by simp at hx⟩
  | x :: r, i, o, w, n, h => by
    have h : (if (worthV (Sg.of x) (getV d (Sg.of x))).2 = true then unpackL d r (i + 1) (o ++ [(worthV (Sg.of x) (getV d (Sg.of x))).1]) else ([], (i : Int), 9)) = (w, n, 0) := h
    split at h
    · next h0 =>
      obtain ⟨ws, e1, e2, e3⟩ := unpackL_worth d r (i + 1) _ w n h
      refine ⟨(worthV (Sg.of x) (getV d (Sg.of x))).1 :: ws, by rw [e1, List.append_assoc]; rfl, by rw [List.length_cons, List.length_cons, e2], ?_⟩
      intro j z hz
      cases j with
      | zero =>
        have hz : x = z := by simpa using hz
        subst hz
        exact Prod.ext rfl h0
      | succ j =>
        rw [e3 j z (by simpa using hz)]
        first | rfl | (congr 1; unfold rd; simp)
    · injection h with _ h
      injection h with _ h
      cases h
theorem zeros_byts : Byts zeros8 := ⟨rfl, by decide⟩
/-- What is packed is unpacked as it was. -/
theorem pack_unpack {l : List S23} {wl : List Int} (h : (packV l wl).2.2 = 0) : unpackV l (packV l wl).1 = (wl, (l.length : Int), 0) ∧ Byts (packV l wl).1 := by
  unfold packV at h ⊢
  split at h
  · next hc =>
    split at h
    · next hl =>
      have sp := checkV_spec hc
      rw [if_pos hc, if_pos hl]
      have hr := packL_raw wl l 0 zeros8 h
      obtain ⟨y, e1, e2, e3, _⟩ := packL_ok wl l 0 zeros8 zeros_byts sp.2.2.1 hr
      rw [e1]
      refine ⟨?_, e2⟩
      unfold unpackV
      rw [if_pos hc, unpackL_ok y l 0 [] wl (by omega) (fun j x hx => ?_)]
      · simp
      · have h1 := e3 j x hx
        have h2 := hr j x hx
        rw [Nat.zero_add] at h1 h2
        have h3 := raw_worth (show rawV (Sg.of x) (rd wl ((j : Nat) : Int)) = ((rawV (Sg.of x) (rd wl ((j : Nat) : Int))).1, true) from Prod.ext rfl h2)
        rw [h1]
        exact h3.2.2
    · cases h
  · exact absurd h (by simpa using ‹_›)
/-- What is unpacked is packed so again, but for bits that are no signal's. -/
theorem unpack_pack {l : List S23} {data : List Int} (h : (unpackV l data).2.2 = 0) :
    ∃ y, packV l (unpackV l data).1 = (y, (l.length : Int), 0) ∧ Byts y ∧ (unpackV l data).1.length = l.length ∧ (∀ x ∈ l, getV y (Sg.of x) = getV data (Sg.of x)) ∧ ∀ v ∈ (unpackV l data).1, In64 v := by
  unfold unpackV at h ⊢
  split at h
  · next hc =>
    rw [if_pos hc]
    have sp := checkV_spec hc
    obtain ⟨ws, e1, e2, e3⟩ := unpackL_worth data l 0 [] (unpackL data l 0 []).1 (unpackL data l 0 []).2.1 (by rw [← h])
    rw [List.nil_append] at e1
    rw [e1]
    have hr : ∀ j x, l[j]? = some x → rawV (Sg.of x) (rd ws ((0 + j : Nat) : Int)) = (getV data (Sg.of x), true) := fun j x hx => by
      rw [Nat.zero_add]
      exact worth_raw (getV_64 data (Sg.of x)) (e3 j x hx)
    obtain ⟨y, p1, p2, p3, _⟩ := packL_ok ws l 0 zeros8 zeros_byts sp.2.2.1 (fun j x hx => by rw [hr j x hx])
    refine ⟨y, ?_, p2, e2, ?_, ?_⟩
    · unfold packV
      rw [if_pos hc, if_pos (by omega), p1]
      simp
    · intro x hx
      obtain ⟨j, hj⟩ := List.getElem?_of_mem hx
      rw [p3 j x hj, hr j x hj]
    · intro v hv
      obtain ⟨j, hj⟩ := List.getElem?_of_mem hv
      have hlt : j < ws.length := (List.getElem?_eq_some_iff.1 hj).1
      have hlt2 : j < l.length := by omega
      have := e3 j l[j] (List.getElem?_eq_getElem hlt2)
      have h64 := worthV_64 (Sg.of l[j]) (getV data (Sg.of l[j]))
      rw [this] at h64
      have : rd ws ((j : Nat) : Int) = v := by
        unfold rd
        rw [Int.toNat_natCast, List.getD_eq_getElem?_getD, hj]
        rfl
      rw [this] at h64
      exact h64
  · exact absurd h (by simpa using ‹_›)
theorem unpack_err {l : List S23} {data : List Int} (h : (unpackV l data).2.2 ≠ 0) : (unpackV l data).1 = [] := by
  have key : ∀ (l : List S23) (i : Nat) (o : List Int), (unpackL data l i o).2.2 ≠ 0 → (unpackL data l i o).1 = [] := by
    intro l
    induction l with
    | nil => intro i o h; exact absurd rfl h
    | cons x r ih =>
      intro i o h
      have e : unpackL data (x :: r) i o = if (worthV (Sg.of x) (getV data (Sg.of x))).2 = true then unpackL data r (i + 1) (o ++ [(worthV (Sg.of x) (getV data (Sg.of x))).1]) else ([], (i : Int), 9) := rfl
      rw [e] at h ⊢
      split at h
      · next hq =>
        rw [if_pos hq]
        exact ih _ _ h
      · next hq =>
        rw [if_neg hq]
  unfold unpackV at h ⊢
  split at h
  · next hc =>
    rw [if_pos hc]
    exact key _ _ _ h
  · next hc =>
    rw [if_neg hc]
end Go.Proofs.Ytepeihlhokpjjaa.P
