/- A node of a field is switched off and on by the program. Conditions: the ranges that each lemma names. -/
import Derived.Test.YtcgkbbfnlbjblaaRankFTick
namespace Go.Proofs.Ytcgkbbfnlbjblaa.P
open Go.RowKit Go.Proofs.YtcgkbbfnlbjblaaW.PrintWords Go.Proofs.YtcgkbbfnlbjblaaW.PrintLast Go.Proofs.YtcgkbbfnlbjblaaW.PrintMore
set_option linter.unusedVariables false
set_option linter.unusedSimpArgs false
def upd {α : Type} (h : Nat → α) (k : Nat) (x : α) (j : Nat) : α := if j = k then x else h j
theorem upd_at {α : Type} (h : Nat → α) (k : Nat) (x : α) : upd h k x k = x := if_pos rfl
theorem upd_ne {α : Type} (h : Nat → α) {k j : Nat} (x : α) (e : j ≠ k) : upd h k x j = h j := if_neg e
theorem upd_upd {α : Type} (h : Nat → α) (k : Nat) (x y : α) : upd (upd h k x) k y = upd h k y := by
  funext j
  unfold upd
  by_cases e : j = k
  · rw [if_pos e, if_pos e]
  · rw [if_neg e, if_neg e, if_neg e]
/-- A field's place has been written. -/
theorem Fld.put {w w' : World} {base f g n k : Nat} {b s p : Int} {H : Nat → Option Nat} {L : Nat → Option Nd} {told : List Int} (h : Fld w base f g b s p n H L told) (hk : k < n) (q : Option Nat) (x : Option Nd)
    (hw : Below w.heap.size w w') (hn : NO w' b s p k q x) (hq : ∀ i, q = some i → w.heap.size ≤ i) (hb : base ≤ w.heap.size) :
    Fld (w'.setCell ⟨g, k, none⟩ (ptr q)) base f g b s p n (upd H k q) (upd L k x) told := by
  have h' := h.below hw
  obtain ⟨v4, h1, h2⟩ := h'.fv
  obtain ⟨gc, h3, h4⟩ := h'.gv
  have hfg : f ≠ g := fun e => by rw [e] at h1; exact absurd (blk_type h1 h3) (by decide)
  have hsz : k < gc.size := by
    have := h4 k hk
    exact (Array.getElem?_eq_some_iff.1 this).1
  refine ⟨⟨v4, blk_far h1 hfg _, Kd.R_set h2 h3 (row_ne (by decide)) k (ptr q)⟩, ⟨gc.setIfInBounds k (ptr q), blk_set h3 k (ptr q), fun j hj => ?_⟩, ⟨fun j hj => ?_, fun i j r hi hj e1 e2 => ?_⟩, h.bf, h.bg, fun j r hj e => ?_⟩
  · by_cases e : j = k
    · subst e
      rw [upd_at]
      simp [hsz]
    · rw [upd_ne _ _ e, Array.getElem?_setIfInBounds_ne (fun e' => e e'.symm)]
      exact h4 j hj
  · by_cases e : j = k
    · subst e
      rw [upd_at, upd_at]
      exact hn.keep fun r er => Below.heap_setCell _ _ _ _ (fun e' => by
        obtain ⟨cs, hh⟩ := hn.typed er
        rw [e'] at hh
        exact absurd (blk_type hh h3) (by decide))
    · rw [upd_ne _ _ e, upd_ne _ _ e]
      have h5 := h'.nd.at_ j hj
      exact h5.keep fun r er => Below.heap_setCell _ _ _ _ (fun e' => by
        obtain ⟨cs, hh⟩ := h5.typed er
        rw [e'] at hh
        exact absurd (blk_type hh h3) (by decide))
  · by_cases ei : i = k
    · by_cases ej : j = k
      · rw [ei, ej]
      · rw [ei, upd_at] at e1
        rw [upd_ne _ _ ej] at e2
        have a1 := hq r e1
        have a2 := (h.nd.at_ j hj).lt e2
        omega
    · by_cases ej : j = k
      · rw [ej, upd_at] at e2
        rw [upd_ne _ _ ei] at e1
        have a1 := hq r e2
        have a2 := (h.nd.at_ i hi).lt e1
        omega
      · rw [upd_ne _ _ ei] at e1
        rw [upd_ne _ _ ej] at e2
        exact h.nd.inj i j r hi hj e1 e2
  · by_cases ej : j = k
    · rw [ej, upd_at] at e
      exact Nat.le_trans hb (hq r e)
    · rw [upd_ne _ _ ej] at e
      exact h.bh j r hj e
theorem Turn_none (base f g n : Nat) (b s p k : Int) (on : Bool) (H : Nat → Option Nat) (L : Nat → Option Nd) (told : List Int) (w : World) (h : Fld w base f g b s p n H L told) (hk : ¬ (0 ≤ k ∧ k < n)) :
    Calls Try.prog 43 #[.pointer (some ⟨f, 0, none⟩), .int .i64 k, .bool on] w fun e w' => e = .returned (.int .i64 7) ∧ Drawn0 w w' := by
  obtain ⟨v4, h1, h2⟩ := h.fv
  have c3 : w.cell? ⟨f, 3, none⟩ = some (.slice (some ⟨g, 0, none⟩) n n) := (blk_cell h1 3).trans rfl
  by_cases k0 : k < 0
  · have u1 : decide (k < 0) = true := decide_eq_true k0
    clear h h1 h2 hk k0
    go_enter Try.func43, Try.ntmps43
    go_wp2_with fail
    repeat (go_quiet (fail); try go_wp2)
    go_ret
    exact ⟨rfl, by repeat (first | exact Drawn0.refl _ | apply Drawn0.step)⟩
  · have u1 : decide (k < 0) = false := decide_eq_false k0
    have u2 : decide (k ≥ (n : Int)) = true := decide_eq_true (by omega)
    have u3 : decide ((n : Int) ≤ k) = true := decide_eq_true (by omega)
    clear h h1 h2 hk k0
    go_enter Try.func43, Try.ntmps43
    go_wp2_with fail
    repeat (go_quiet (fail); try go_wp2)
    go_ret
    exact ⟨rfl, by repeat (first | exact Drawn0.refl _ | apply Drawn0.step)⟩
theorem Turn_same (base f g n : Nat) (b s p k : Int) (on : Bool) (H : Nat → Option Nat) (L : Nat → Option Nd) (told : List Int) (w : World) (h : Fld w base f g b s p n H L told) (n1 : n ≤ 32) (k0 : 0 ≤ k) (k1 : k < n) (ha : aliveB n H k = on) :
    Calls Try.prog 43 #[.pointer (some ⟨f, 0, none⟩), .int .i64 k, .bool on] w fun e w' => e = .returned (.int .i64 8) ∧ Drawn0 w w' := by
  obtain ⟨v4, h1, h2⟩ := h.fv
  have c3 : w.cell? ⟨f, 3, none⟩ = some (.slice (some ⟨g, 0, none⟩) n n) := (blk_cell h1 3).trans rfl
  have u1 : decide (k < 0) = false := decide_eq_false (by omega)
  have u2 : decide (k ≥ (n : Int)) = false := decide_eq_false (by omega)
  have u3 : decide ((n : Int) ≤ k) = false := decide_eq_false (by omega)
  have H0 := Aside0.mk h
  have N1 := Aside0.mk n1
  have HA := Aside0.mk ha
  have u4 : (on == on) = true := by simp
  clear h h1 h2 k0 k1 n1 ha
  go_enter Try.func43, Try.ntmps43
  go_wp2_with fail
  (with_reducible refine (Alive_calls base f g n b s p k H L told _ H0.out N1.out).mono ?_); rintro e w1 ⟨rfl, ⟨m, rfl⟩⟩
  rw [HA.out]
  go_wp2_with fail
  repeat (go_quiet (fail); try go_wp2)
  go_ret
  exact ⟨rfl, by repeat (first | exact Drawn0.refl _ | apply Drawn0.step)⟩
theorem Turn_off (base f g n : Nat) (b s p : Int) (k : Nat) (H : Nat → Option Nat) (L : Nat → Option Nd) (told : List Int) (w : World) (h : Fld w base f g b s p n H L told) (hb : base ≤ w.heap.size) (n1 : n ≤ 32) (k1 : k < n) (ha : aliveB n H (k : Int) = true) :
    Calls Try.prog 43 #[.pointer (some ⟨f, 0, none⟩), .int .i64 (k : Int), .bool false] w fun e w' => e = .returned (.int .i64 0) ∧ Fld w' base f g b s p n (upd H k none) (upd L k none) told ∧ Ch (FldS f g H n) w w' := by
  obtain ⟨v4, h1, h2⟩ := h.fv
  obtain ⟨gc, h3, h4⟩ := h.gv
  have c3 : w.cell? ⟨f, 3, none⟩ = some (.slice (some ⟨g, 0, none⟩) n n) := (blk_cell h1 3).trans rfl
  have cg : w.cell? ⟨g, k, none⟩ = some (ptr (H k)) := (blk_cell h3 k).trans (h4 _ (by omega))
  have fg := blk_frozen h3 k
  have u1 : decide ((k : Int) < 0) = false := decide_eq_false (by omega)
  have u2 : decide ((k : Int) ≥ (n : Int)) = false := decide_eq_false (by omega)
  have u3 : decide ((n : Int) ≤ (k : Int)) = false := decide_eq_false (by omega)
  have u5 : decide (n ≤ k) = false := decide_eq_false (by omega)
  have u6 : (0 ≤ (k : Int)) = True := eq_true (by omega)
  have u7 : ((k : Int) < (n : Int)) = True := eq_true (by omega)
  have H0 := Aside0.mk h
  have N1 := Aside0.mk n1
  have HA := Aside0.mk ha
  have HK := Aside0.mk k1
  have HBS := Aside0.mk hb
  clear h h1 h2 h3 h4 n1 ha k1 hb
  go_enter Try.func43, Try.ntmps43
  go_wp2_with fail
  (with_reducible refine (Alive_calls base f g n b s p k H L told _ H0.out N1.out).mono ?_); rintro e w1 ⟨rfl, ⟨m, rfl⟩⟩
  rw [HA.out]
  go_wp2_with fail
  go_ret
  exact ⟨rfl, H0.out.put HK.out none none (Drawn0.below ⟨⟨m, rfl⟩⟩) trivial (fun i e => by cases e) HBS.out, ((Ch.refl _ _).drewN m).set (p := ⟨g, k, none⟩) (.inl (.inr (.inl rfl))) _⟩
set_option maxHeartbeats 4000000 in
set_option maxRecDepth 100000 in
theorem Turn_on (base f g n : Nat) (b s p : Int) (k : Nat) (H : Nat → Option Nat) (L : Nat → Option Nd) (told : List Int) (w : World) (h : Fld w base f g b s p n H L told) (hb : base ≤ w.heap.size) (n1 : n ≤ 32) (k1 : k < n) (ha : aliveB n H (k : Int) = false) (hr : rightB b s p = true) :
    Calls Try.prog 43 #[.pointer (some ⟨f, 0, none⟩), .int .i64 (k : Int), .bool true] w fun e w' => ∃ q, e = .returned (.int .i64 0) ∧ Fld w' base f g b s p n (upd H k (some q)) (upd L k (some ⟨false, 0, 0⟩)) told ∧ Ch (FldS f g H n) w w' := by
  obtain ⟨v4, h1, h2⟩ := h.fv
  obtain ⟨gc, h3, h4⟩ := h.gv
  have c3 : w.cell? ⟨f, 3, none⟩ = some (.slice (some ⟨g, 0, none⟩) n n) := (blk_cell h1 3).trans rfl
  have cg : w.cell? ⟨g, k, none⟩ = some (ptr (H k)) := (blk_cell h3 k).trans (h4 _ (by omega))
  have fg := blk_frozen h3 k
  have u1 : decide ((k : Int) < 0) = false := decide_eq_false (by omega)
  have u2 : decide ((k : Int) ≥ (n : Int)) = false := decide_eq_false (by omega)
  have u3 : decide ((n : Int) ≤ (k : Int)) = false := decide_eq_false (by omega)
  have u5 : decide (n ≤ k) = false := decide_eq_false (by omega)
  have u6 : (0 ≤ (k : Int)) = True := eq_true (by omega)
  have u7 : ((k : Int) < (n : Int)) = True := eq_true (by omega)
  have u8 : (k < n) = True := eq_true k1
  have H0 := Aside0.mk h
  have N1 := Aside0.mk n1
  have HA := Aside0.mk ha
  have HK := Aside0.mk k1
  have HBS := Aside0.mk hb
  have HR := Aside0.mk hr
  have HRK : Aside0 (rankB (k : Int) = true) := ⟨decide_eq_true (by omega)⟩
  have hu23 := Try.underlying23
  clear h h1 h2 h3 h4 n1 ha k1 hb hr
  go_enter Try.func43, Try.ntmps43
  go_wp2_with fail
  (with_reducible refine (Alive_calls base f g n b s p k H L told _ H0.out N1.out).mono ?_); rintro e w1 ⟨rfl, ⟨m, rfl⟩⟩
  rw [HA.out]
  go_upto_region 7 with (fail)
  have F1 : Aside0 (Fld ((w.drewN m).setCell ⟨g, k, none⟩ (.pointer none)) base f g b s p n (upd H k none) (upd L k none) told) := ⟨H0.out.put HK.out none none (Drawn0.below ⟨⟨m, rfl⟩⟩) trivial (fun i e => by cases e) HBS.out⟩
  have C1 : Aside0 (Ch (FldS f g H n) w ((w.drewN m).setCell ⟨g, k, none⟩ (.pointer none))) := ⟨((Ch.refl _ _).drewN m).set (p := ⟨g, k, none⟩) (.inl (.inr (.inl rfl))) _⟩
  obtain ⟨W1, hW1⟩ : ∃ W1, (w.drewN m).setCell ⟨g, k, none⟩ (.pointer none) = W1 := ⟨_, rfl⟩
  rw [hW1] at F1 C1 ⊢
  clear c3 cg fg hW1
  obtain ⟨v5, h1, h2⟩ := F1.out.fv
  have d0 : W1.cell? ⟨f, 0, none⟩ = some (.int .i64 b) := (blk_cell h1 0).trans rfl
  have d1 : W1.cell? ⟨f, 1, none⟩ = some (.int .i64 s) := (blk_cell h1 1).trans rfl
  have d2 : W1.cell? ⟨f, 2, none⟩ = some (.int .i64 p) := (blk_cell h1 2).trans rfl
  have d3 : W1.cell? ⟨f, 3, none⟩ = some (.slice (some ⟨g, 0, none⟩) n n) := (blk_cell h1 3).trans rfl
  clear h1 h2
  go_region_held3 (fun w' => w'.cell? ⟨f, 0, none⟩ = some (.int .i64 b) ∧ w'.cell? ⟨f, 1, none⟩ = some (.int .i64 s) ∧ w'.cell? ⟨f, 2, none⟩ = some (.int .i64 p) ∧ w'.cell? ⟨f, 3, none⟩ = some (.slice (some ⟨g, 0, none⟩) n n)) (go_keep)
    (first
      | (go_at_call 16; (with_reducible refine (New_yes b s p k _ HR.out HRK.out).mono ?_); rintro e w5 ⟨q, rfl, hq, hn, hb5⟩; have hb6 : Below W1.heap.size W1 w5 := below_step (below_drew1 (Below.refl _ _)) hb5; have F5 := Aside0.mk (F1.out.below hb6); have HQ : Aside0 (W1.heap.size ≤ q) := ⟨hq⟩; have HN := Aside0.mk hn; have HB5 := Aside0.mk hb6; obtain ⟨v6, i1, i2⟩ := F5.out.fv; obtain ⟨gc6, i3, i4⟩ := F5.out.gv; have e0 := (blk_cell i1 0).trans rfl; have e1 := (blk_cell i1 1).trans rfl; have e2 := (blk_cell i1 2).trans rfl; have e3 := (blk_cell i1 3).trans rfl; have eg := (blk_cell i3 k).trans (i4 k HK.out); have ef := blk_frozen i3 k; have hfg : f ≠ g := (fun e => absurd (blk_type i1 (by rw [e]; exact i3)) (by decide)); have i5 := blk_far (p := ⟨g, k, none⟩) i1 hfg (.pointer (some ⟨q, 0, none⟩)); have s0 := (blk_cell i5 0).trans rfl; have s1 := (blk_cell i5 1).trans rfl; have s2 := (blk_cell i5 2).trans rfl; have s3 := (blk_cell i5 3).trans rfl; clear i1 i2 i3 i4 i5 hfg; clear hq hn hb5 hb6))
  go_wp2
  go_ret
  have F6 := F1.out.put HK.out (some q) (some ⟨false, 0, 0⟩) HB5.out HN.out (fun i e => by cases e; exact HQ.out) (Nat.le_trans HBS.out C1.out.size)
  rw [upd_upd, upd_upd] at F6
  exact ⟨q, rfl, F6, (C1.out.step HB5.out).set (p := ⟨g, k, none⟩) (.inl (.inr (.inl rfl))) _⟩
/-- What a switch answers. -/
def turnE (n : Nat) (H : Nat → Option Nat) (k : Int) (on : Bool) : Int := if 0 ≤ k ∧ k < n then (if aliveB n H k = on then 8 else 0) else 7
def turnL (n : Nat) (L : Nat → Option Nd) (k : Int) (on : Bool) : Nat → Option Nd := if 0 ≤ k ∧ k < n ∧ (L k.toNat).isSome ≠ on then upd L k.toNat (if on = true then some ⟨false, 0, 0⟩ else none) else L
theorem NO.some {w : World} {b s p : Int} {j : Nat} {h : Option Nat} {x : Option Nd} (hn : NO w b s p j h x) : h.isSome = x.isSome := by
  cases h <;> cases x <;> first | rfl | exact hn.elim
set_option maxHeartbeats 1000000 in
theorem Turn_calls (base f g n : Nat) (b s p k : Int) (on : Bool) (H : Nat → Option Nat) (L : Nat → Option Nd) (told : List Int) (w : World) (h : Fld w base f g b s p n H L told) (hb : base ≤ w.heap.size) (n1 : n ≤ 32) (hr : rightB b s p = true) :
    Calls Try.prog 43 #[.pointer (some ⟨f, 0, none⟩), .int .i64 k, .bool on] w fun e w' => ∃ H', e = .returned (.int .i64 (turnE n H k on)) ∧ Fld w' base f g b s p n H' (turnL n L k on) told ∧ Ch (FldS f g H n) w w' := by
  by_cases hk : 0 ≤ k ∧ k < n
  · obtain ⟨j, rfl⟩ : ∃ j : Nat, k = (j : Int) := ⟨k.toNat, by omega⟩
    have hj : j < n := by omega
    have ea : aliveB n H (j : Int) = (L j).isSome := by
      rw [aliveB, decide_eq_true hk, Bool.true_and, Int.toNat_natCast, (h.nd.at_ j hj).some]
    have e1 : turnE n H (j : Int) on = if aliveB n H (j : Int) = on then 8 else 0 := if_pos hk
    rw [e1]
    by_cases hs : aliveB n H (j : Int) = on
    · have e2 : turnL n L (j : Int) on = L := if_neg (by rw [Int.toNat_natCast, ← ea]; exact fun q => q.2.2 hs)
      rw [if_pos hs, e2]
      refine (Turn_same base f g n b s p j on H L told w h n1 hk.1 hk.2 hs).mono ?_
      rintro e w' ⟨rfl, hd⟩
      exact ⟨H, rfl, h.below hd.below, Ch.of hd.below _⟩
    · have e2 : turnL n L (j : Int) on = upd L j (if on = true then some ⟨false, 0, 0⟩ else none) := by
        unfold turnL
        rw [Int.toNat_natCast, if_pos ⟨hk.1, hk.2, by rw [← ea]; exact hs⟩]
      rw [if_neg hs, e2]
      cases on
      · have ha : aliveB n H (j : Int) = true := by simpa using hs
        refine (Turn_off base f g n b s p j H L told w h hb n1 hj ha).mono ?_
        rintro e w' ⟨rfl, h1, h2⟩
        exact ⟨_, rfl, h1, h2⟩
      · have ha : aliveB n H (j : Int) = false := by simpa using hs
        refine (Turn_on base f g n b s p j H L told w h hb n1 hj ha hr).mono ?_
        rintro e w' ⟨q, rfl, h1, h2⟩
        exact ⟨_, rfl, h1, h2⟩
  · have e1 : turnE n H k on = 7 := if_neg hk
    have e2 : turnL n L k on = L := if_neg (fun q => hk ⟨q.1, q.2.1⟩)
    rw [e1, e2]
    refine (Turn_none base f g n b s p k on H L told w h hk).mono ?_
    rintro e w' ⟨rfl, hd⟩
    exact ⟨H, rfl, h.below hd.below, Ch.of hd.below _⟩
theorem Crash_calls (base f g n : Nat) (b s p k : Int) (H : Nat → Option Nat) (L : Nat → Option Nd) (told : List Int) (w : World) (h : Fld w base f g b s p n H L told) (hb : base ≤ w.heap.size) (n1 : n ≤ 32) (hr : rightB b s p = true) :
    Calls Try.prog 25 #[.pointer (some ⟨f, 0, none⟩), .int .i64 k] w fun e w' => ∃ H', e = .returned (.int .i64 (turnE n H k false)) ∧ Fld w' base f g b s p n H' (turnL n L k false) told ∧ Ch (FldS f g H n) w w' := by
  have H0 := Aside0.mk h
  have HP := Aside0.mk (And.intro hb (And.intro n1 hr))
  clear h hb n1 hr
  go_enter Try.func25, Try.ntmps25
  go_wp2_with fail
  (with_reducible refine (Turn_calls base f g n b s p k false H L told _ H0.out HP.out.1 HP.out.2.1 HP.out.2.2).mono ?_); rintro e w1 ⟨H', rfl, h1, h2⟩
  have A1 := Aside0.mk h1
  have A2 := Aside0.mk h2
  clear h1 h2
  go_wp2_with fail
  go_ret
  exact ⟨H', rfl, A1.out, A2.out⟩
theorem Restart_calls (base f g n : Nat) (b s p k : Int) (H : Nat → Option Nat) (L : Nat → Option Nd) (told : List Int) (w : World) (h : Fld w base f g b s p n H L told) (hb : base ≤ w.heap.size) (n1 : n ≤ 32) (hr : rightB b s p = true) :
    Calls Try.prog 27 #[.pointer (some ⟨f, 0, none⟩), .int .i64 k] w fun e w' => ∃ H', e = .returned (.int .i64 (turnE n H k true)) ∧ Fld w' base f g b s p n H' (turnL n L k true) told ∧ Ch (FldS f g H n) w w' := by
  have H0 := Aside0.mk h
  have HP := Aside0.mk (And.intro hb (And.intro n1 hr))
  clear h hb n1 hr
  go_enter Try.func27, Try.ntmps27
  go_wp2_with fail
  (with_reducible refine (Turn_calls base f g n b s p k true H L told _ H0.out HP.out.1 HP.out.2.1 HP.out.2.2).mono ?_); rintro e w1 ⟨H', rfl, h1, h2⟩
  have A1 := Aside0.mk h1
  have A2 := Aside0.mk h2
  clear h1 h2
  go_wp2_with fail
  go_ret
  exact ⟨H', rfl, A1.out, A2.out⟩
end Go.Proofs.Ytcgkbbfnlbjblaa.P
