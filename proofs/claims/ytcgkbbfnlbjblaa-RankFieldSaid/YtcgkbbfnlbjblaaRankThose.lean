/- All nodes of a field tick by the program; and which are master. Conditions: the ranges that each lemma names. -/
import Derived.Test.YtcgkbbfnlbjblaaRankTick
namespace Go.Proofs.Ytcgkbbfnlbjblaa.P
open Go.RowKit Go.Proofs.YtcgkbbfnlbjblaaW.PrintWords Go.Proofs.YtcgkbbfnlbjblaaW.PrintLast Go.Proofs.YtcgkbbfnlbjblaaW.PrintMore
set_option linter.unusedVariables false
set_option linter.unusedSimpArgs false
theorem info3 : (Try.prog.info? 3).map (fun i => (i.zero, i.size, i.bytes)) = some (some (.int .i64 0), 1, 8) := by kernel_rfl
def ptr (h : Option Nat) : Value := .pointer (h.map fun b => ⟨b, 0, none⟩)
theorem Ch.step' {S : Nat → Prop} {a b c : World} (h : Ch S a b) (g : Below a.heap.size b c) : Ch S a c :=
  ⟨g.os.trans h.os, g.tape.trans h.tape, g.output.trans h.output, Nat.le_trans h.size g.size, fun k hk hs => (g.block k hk).trans (h.keep k hk hs)⟩
def NO (w : World) (b s p : Int) (j : Nat) : Option Nat → Option Nd → Prop
  | none, none => True
  | some h, some x => NdAt w h b s p (j : Int) x
  | _, _ => False
def NdOk (wt p : Int) (x : Nd) : Prop := 0 ≤ x.i ∧ x.i ≤ wt ∧ 0 ≤ x.q ∧ x.q < p
theorem tickN_ok {wt p r : Int} {zs : List Int} {x : Nd} (h : NdOk wt p x) (w0 : 0 ≤ wt) (p0 : 1 ≤ p) : NdOk wt p (tickN wt p r zs x).2 := by
  obtain ⟨h1, h2, h3, h4⟩ := h
  unfold tickN
  by_cases a : zs.any (betterB r) = true
  · rw [if_pos a]; exact ⟨Int.le_refl 0, w0, h3, h4⟩
  · rw [if_neg a]
    by_cases m : x.m = true
    · rw [if_pos m]
      refine ⟨h1, h2, ?_, ?_⟩
      · exact Int.tmod_nonneg _ (by omega)
      · exact Int.tmod_lt_of_pos _ (by omega)
    · rw [if_neg m]
      by_cases t : wt < x.i + 1
      · rw [if_pos t]; exact ⟨Int.le_refl 0, w0, Int.le_refl 0, by show (0 : Int) < p; omega⟩
      · rw [if_neg t]; exact ⟨by show 0 ≤ x.i + 1; omega, by show x.i + 1 ≤ wt; omega, h3, h4⟩
theorem Tick_calls (g : Nat) (b s p r wt : Int) (n : Nd) (A : Option Addr) (c : Nat) (zs : List Int) (w : World) (h : NdAt w g b s p r n) (hl : zs.length ≤ c) (hz : Kd.C (Kd.int .i64) w A zs.length zs)
    (hw : rank_Wait.f b s p r = some wt) (ok : NdOk wt p n) (w1 : wt ≤ 1000000) (p0 : 1 ≤ p) (p1 : p ≤ 1000) :
    Calls Try.prog 18 #[.pointer (some ⟨g, 0, none⟩), .slice A zs.length c] w fun e w' => e = .returned (.bool (tickN wt p r zs n).1) ∧ NdAt w' g b s p r (tickN wt p r zs n).2 ∧ Ch (fun k => k = g) w w' := by
  obtain ⟨h1, h2, h3, h4⟩ := ok
  unfold tickN
  by_cases a : zs.any (betterB r) = true
  · rw [if_pos a]
    exact Tick_hears g b s p r n A c zs w h hl hz a
  · rw [if_neg a]
    have a' : zs.any (betterB r) = false := by simpa using a
    by_cases m : n.m = true
    · rw [if_pos m]
      exact Tick_leads g b s p r n A c zs w h hl hz a' m h3 (by omega) p0 p1
    · rw [if_neg m]
      have m' : n.m = false := by simpa using m
      by_cases t : wt < n.i + 1
      · rw [if_pos t]
        exact Tick_rises g b s p r wt n A c zs w h hl hz a' m' h1 (by omega) hw t
      · rw [if_neg t]
        exact Tick_waits g b s p r wt n A c zs w h hl hz a' m' h1 (by omega) hw t
def tickO (wt p r : Int) (zs : List Int) : Option Nd → Bool × Option Nd
  | none => (false, none)
  | some x => ((tickN wt p r zs x).1, some (tickN wt p r zs x).2)
theorem TickO_calls (h : Option Nat) (b s p wt : Int) (j : Nat) (x : Option Nd) (A : Option Addr) (c : Nat) (zs : List Int) (w : World) (hn : NO w b s p j h x) (hl : zs.length ≤ c) (hz : Kd.C (Kd.int .i64) w A zs.length zs)
    (hw : rank_Wait.f b s p (j : Int) = some wt) (ok : ∀ y, x = some y → NdOk wt p y) (w1 : wt ≤ 1000000) (p0 : 1 ≤ p) (p1 : p ≤ 1000) :
    Calls Try.prog 18 #[ptr h, .slice A zs.length c] w fun e w' => e = .returned (.bool (tickO wt p j zs x).1) ∧ NO w' b s p j h (tickO wt p j zs x).2 ∧ Ch (fun k => h = some k) w w' := by
  cases h with
  | none =>
    cases x with
    | none =>
      refine (Tick_nil (.slice A zs.length c) w).mono ?_
      rintro e w' ⟨rfl, hd⟩
      exact ⟨rfl, trivial, (Ch.of hd.below _)⟩
    | some x => exact hn.elim
  | some g =>
    cases x with
    | none => exact hn.elim
    | some x =>
      refine (Tick_calls g b s p j wt x A c zs w hn hl hz hw (ok x rfl) w1 p0 p1).mono ?_
      rintro e w' ⟨rfl, h1, h2⟩
      exact ⟨rfl, h1, h2.mono fun k e => by rw [e]⟩
/-- .. by the closure that has what was heard in a box. -/
theorem TickC_calls (h : Option Nat) (b s p wt : Int) (j bx : Nat) (x : Option Nd) (A : Option Addr) (c : Nat) (zs : List Int) (w : World) (hn : NO w b s p j h x) (hl : zs.length ≤ c) (hz : Kd.C (Kd.int .i64) w A zs.length zs) (hx : w.cell? ⟨bx, 0, none⟩ = some (.slice A zs.length c))
    (hw : rank_Wait.f b s p (j : Int) = some wt) (ok : ∀ y, x = some y → NdOk wt p y) (w1 : wt ≤ 1000000) (p0 : 1 ≤ p) (p1 : p ≤ 1000) :
    Calls Try.prog 45 #[ptr h, .pointer (some ⟨bx, 0, none⟩)] w fun e w' => e = .returned (.bool (tickO wt p j zs x).1) ∧ NO w' b s p j h (tickO wt p j zs x).2 ∧ Ch (fun k => h = some k) w w' := by
  have HN := Aside0.mk hn
  have HL := Aside0.mk hl
  have HZ := Aside0.mk hz
  have HW := Aside0.mk hw
  have OK := Aside0.mk ok
  have PP := Aside0.mk (And.intro w1 (And.intro p0 p1))
  clear hn hl hz hw ok w1 p0 p1
  obtain ⟨v, hv⟩ : ∃ v, ptr h = v := ⟨_, rfl⟩
  have HV := Aside0.mk hv
  rw [hv]
  clear hv
  go_enter Try.func45, Try.ntmps45
  go_wp2_with fail
  rw [← HV.out]
  (with_reducible refine (TickO_calls h b s p wt j x A c zs _ HN.out HL.out HZ.out HW.out OK.out PP.out.1 PP.out.2.1 PP.out.2.2).mono ?_); rintro e w1 ⟨rfl, h1, h2⟩
  have H1 := Aside0.mk h1
  have H2 := Aside0.mk h2
  clear h1 h2
  go_wp2_with fail
  go_ret
  exact ⟨rfl, H1.out, H2.out⟩
def toldL (t : Nat → Bool) : Nat → List Int
  | 0 => []
  | k + 1 => if t k = true then toldL t k ++ [(k : Int)] else toldL t k
theorem toldL_len (t : Nat → Bool) : ∀ k, (toldL t k).length ≤ k
  | 0 => Nat.le_refl _
  | k + 1 => by
    have := toldL_len t k
    unfold toldL
    split
    · rw [List.length_append, List.length_singleton]; omega
    · omega
/-- Blocks of a field's nodes. -/
def FS (H : Nat → Option Nat) (n k : Nat) : Prop := ∃ j, j < n ∧ H j = some k
structure Nds (w : World) (b s p : Int) (n : Nat) (H : Nat → Option Nat) (L : Nat → Option Nd) : Prop where
  at_ : ∀ j, j < n → NO w b s p j (H j) (L j)
  inj : ∀ i j k, i < n → j < n → H i = some k → H j = some k → i = j
theorem NO.typed {w : World} {b s p : Int} {j k : Nat} {h : Option Nat} {x : Option Nd} (hn : NO w b s p j h x) (e : h = some k) : ∃ cs, w.heap[k]? = some (.cells cs 77 (0, 0)) := by
  subst e
  cases x with
  | none => exact hn.elim
  | some x => exact ⟨_, hn⟩
theorem NO.keep {w w' : World} {b s p : Int} {j : Nat} {h : Option Nat} {x : Option Nd} (hn : NO w b s p j h x) (hk : ∀ k, h = some k → w'.heap[k]? = w.heap[k]?) : NO w' b s p j h x := by
  cases h with
  | none => cases x with
    | none => trivial
    | some x => exact hn.elim
  | some g => cases x with
    | none => exact hn.elim
    | some x => exact (hk g rfl).trans hn
theorem NO.lt {w : World} {b s p : Int} {j k : Nat} {h : Option Nat} {x : Option Nd} (hn : NO w b s p j h x) (e : h = some k) : k < w.heap.size := by
  obtain ⟨cs, hc⟩ := hn.typed e
  exact blk_lt hc
theorem FS.typed {w : World} {b s p : Int} {n k : Nat} {H : Nat → Option Nat} {L : Nat → Option Nd} (h : Nds w b s p n H L) (hk : FS H n k) : ∃ cs, w.heap[k]? = some (.cells cs 77 (0, 0)) := by
  obtain ⟨j, hj, e⟩ := hk
  exact (h.at_ j hj).typed e
theorem blk_type {w : World} {k t t' : Nat} {cs cs' : Array Value} (h : w.heap[k]? = some (.cells cs t (0, 0))) (h' : w.heap[k]? = some (.cells cs' t' (0, 0))) : t = t' := by
  rw [h] at h'
  injection h' with h'
  injection h'
theorem not_FS {w : World} {b s p : Int} {n k t : Nat} {cs : Array Value} {H : Nat → Option Nat} {L : Nat → Option Nd} (h : Nds w b s p n H L) (hk : w.heap[k]? = some (.cells cs t (0, 0))) (ht : t ≠ 77) : ¬ FS H n k := fun hf => by
  obtain ⟨cs', hc⟩ := FS.typed h hf
  exact ht (blk_type hk hc)
theorem R_ch {w w1 : World} {S : Nat → Prop} {base : Nat} {ok : Nat → Prop} {v : Value} {xs : List Int} (h : Kd.R (Kd.int .i64) 3 w base ok v xs) (hc : Ch S w w1) (hS : ∀ k cs, S k → w.heap[k]? = some (.cells cs 3 (0, 0)) → False) : Kd.R (Kd.int .i64) 3 w1 base ok v xs :=
  Kd.R_mono (Kd.R_step (Kd.R_bound h) (fun k hk hlt => by
    obtain ⟨_, _, _, q, hq, cells, hcell⟩ := hk
    have : q = 3 := by simpa [Kd.int, Kd.scalar] using hq
    subst this
    exact hc.keep k hlt (fun s => hS k cells s hcell))) (fun _ hk => hk.1)
/-- Who has ticked and who not. -/
def mixL (t : Nat → Option Nd) (L : Nat → Option Nd) (k j : Nat) : Option Nd := if j < k then t j else L j
set_option maxHeartbeats 4000000 in
set_option maxRecDepth 100000 in
theorem ThoseTick_calls (f g bx n c : Nat) (b s p : Int) (fc : Array Value) (gc : Array Value) (W : Nat → Int) (H : Nat → Option Nat) (L : Nat → Option Nd) (A : Option Addr) (zs : List Int) (v4 : Value) (w : World)
    (hf : w.heap[f]? = some (.cells #[.int .i64 b, .int .i64 s, .int .i64 p, .slice (some ⟨g, 0, none⟩) n n, v4] 81 (0, 0))) (hg : w.heap[g]? = some (.cells gc 36 (0, 0))) (hgc : ∀ j, j < n → gc[j]? = some (ptr (H j)))
    (hb : w.heap[bx]? = some (.cells #[.slice A zs.length c] 43 (0, 0))) (hl : zs.length ≤ c) (hz : Kd.R (Kd.int .i64) 3 w 0 (fun _ => True) (.slice A zs.length c) zs) (hN : Nds w b s p n H L) (n1 : n ≤ 32)
    (hw : ∀ j, j < n → rank_Wait.f b s p (j : Int) = some (W j)) (ok : ∀ j y, j < n → L j = some y → NdOk (W j) p y) (w1 : ∀ j, j < n → W j ≤ 1000000) (p0 : 1 ≤ p) (p1 : p ≤ 1000) :
    Calls Try.prog 44 #[.pointer (some ⟨f, 0, none⟩), .func (.func 45) #[] #[.pointer (some ⟨bx, 0, none⟩)]] w fun e w' => ∃ v, e = .returned v ∧ Kd.R (Kd.int .i64) 3 w' w.heap.size (fun _ => True) v (toldL (fun j => (tickO (W j) p j zs (L j)).1) n) ∧ Ch (FS H n) w w' ∧ Nds w' b s p n H (fun j => (tickO (W j) p j zs (L j)).2) := by
  have HF := Aside0.mk hf
  have HG := Aside0.mk hg
  have HGC := Aside0.mk hgc
  have HB := Aside0.mk hb
  have HL := Aside0.mk hl
  have HZ := Aside0.mk hz
  have HN := Aside0.mk hN
  have N1 := Aside0.mk n1
  have HW := Aside0.mk hw
  have OK := Aside0.mk ok
  have W1 := Aside0.mk w1
  have PP := Aside0.mk (And.intro p0 p1)
  have cf := (blk_cell hf 3).trans (show _ = some (Value.slice (some ⟨g, 0, none⟩) n n) from rfl)
  clear hf hg hgc hb hl hz hN n1 hw ok w1 p0 p1
  go_enter Try.func44, Try.ntmps44
  go_wp2_with fail
  go_loopg [15, 5] n (fun kq v15 v5 w' => ∃ k : Nat, v15 = .int .i64 (k : Int) ∧ Aside0 (k + kq = n) ∧ Aside0 (Kd.R (Kd.int .i64) 3 w' w.heap.size (fun _ => True) v5 (toldL (fun j => (tickO (W j) p j zs (L j)).1) k)) ∧ Aside0 (Ch (FS H n) w w') ∧ Aside0 (∀ j, j < n → NO w' b s p j (H j) (mixL (fun j => (tickO (W j) p j zs (L j)).2) L k j)))
  case atStart => exact ⟨0, rfl, ⟨by omega⟩, ⟨Kd.R_nil _ _ _ _ _⟩, ⟨Ch.refl _ _⟩, ⟨fun j hj => HN.out.at_ j hj⟩⟩
  case round =>
    obtain ⟨k, rfl, HJ, HR, HC, HM⟩ := hrel
    cases gk with
    | zero =>
      obtain rfl : k = n := by have := HJ.out; omega
      go_wp2_with fail
      go_ret
      refine ⟨_, rfl, HR.out, HC.out, ⟨fun j hj => ?_, HN.out.inj⟩⟩
      have := HM.out j hj
      rw [mixL, if_pos hj] at this
      exact this
    | succ k1 =>
      have hk : k < n := by have := HJ.out; omega
      have HK := Aside0.mk hk
      have u1 : decide ((k : Int) < (n : Int)) = true := decide_eq_true (by omega)
      have u2 : (0 ≤ (k : Int)) = True := eq_true (by omega)
      have u3 : ((k : Int) < (n : Int)) = True := eq_true (by omega)
      have u4 : decide (k < n) = true := decide_eq_true hk
      have hG := HC.out.blk HG.out (not_FS HN.out HG.out (by decide))
      have hgk : wr.cell? ⟨g, k, none⟩ = some (ptr (H k)) := (blk_cell hG k).trans (HGC.out k hk)
      clear hk hG
      go_wp2_with fail
      have hx0 : NO wr b s p k (H k) (L k) := by
        have := HM.out k HK.out
        rw [mixL, if_neg (by omega)] at this
        exact this
      have hB := HC.out.blk HB.out (not_FS HN.out HB.out (by decide))
      have hbx : wr.cell? ⟨bx, 0, none⟩ = some (.slice A zs.length c) := (blk_cell hB 0).trans rfl
      have hZ := R_ch HZ.out HC.out (fun q cs hs hh => by obtain ⟨cs', hc'⟩ := FS.typed HN.out hs; exact absurd (blk_type hh hc') (by decide))
      obtain ⟨A', c', e1, hl', hzz⟩ := Kd.R_reads hZ
      injection e1 with e1 e2 e3
      subst e1; subst e3
      (with_reducible refine (TickC_calls (H k) b s p (W k) k bx (L k) A c zs _ hx0 hl' hzz hbx (HW.out k HK.out) (fun y e => OK.out k y HK.out e) (W1.out k HK.out) PP.out.1 PP.out.2).mono ?_); rintro e w2 ⟨rfl, h1, h2⟩
      have HR2 : Aside0 (Kd.R (Kd.int .i64) 3 w2 w.heap.size (fun _ => True) u5 (toldL (fun j => (tickO (W j) p j zs (L j)).1) k)) := ⟨R_ch HR.out h2 (fun q cs hs hh => by obtain ⟨cs', hc'⟩ := hx0.typed hs; exact absurd (blk_type hh hc') (by decide))⟩
      have HC2 : Aside0 (Ch (FS H n) w w2) := ⟨HC.out.trans (h2.mono fun q e => ⟨k, HK.out, e⟩)⟩
      have HM2 : Aside0 (∀ j, j < n → NO w2 b s p j (H j) (mixL (fun j => (tickO (W j) p j zs (L j)).2) L (k + 1) j)) := ⟨fun j hj => by
        by_cases ej : j = k
        · subst ej
          rw [mixL, if_pos (by omega)]
          exact h1
        · have h3 := HM.out j hj
          have e4 : mixL (fun j => (tickO (W j) p j zs (L j)).2) L (k + 1) j = mixL (fun j => (tickO (W j) p j zs (L j)).2) L k j := by
            unfold mixL
            by_cases hlt : j < k
            · rw [if_pos hlt, if_pos (by omega)]
            · rw [if_neg hlt, if_neg (by omega)]
          rw [e4]
          exact h3.keep fun q hq => h2.keep q (h3.lt hq) (fun e => ej (HN.out.inj j k q hj HK.out hq e))⟩
      clear h1 h2 hZ hzz hl' hB hx0 hbx hgk HM HC HR
      cases ht : (tickO (W k) p k zs (L k)).1
      · go_wp2_with fail
        go_roundg k1
        case measure => omega
        case rel =>
          refine ⟨k + 1, ?_, ⟨by have := HJ.out; omega⟩, ⟨?_⟩, HC2, HM2⟩
          · rw [i64w _ (by omega) (by have := HK.out; have := N1.out; omega)]; rfl
          · rw [toldL, if_neg (by rw [ht]; decide)]
            exact HR2.out
      · have HT := Aside0.mk ht
        clear ht
        go_wp2_with (first | ((with_reducible refine gate_builtin (b := .append) (xs := #[.tmp 23, .tmp 25]) rfl ?_); at_builtin; refine Kd.R_append (Kd.int .i64) (w0 := w2) w.heap.size rfl (.tmp 23) (.tmp 25) 43 3 (.int .i64 0) 8 rfl Try.underlying43 info3 rfl (by decide) (by omega) u5 (toldL (fun j => (tickO (W j) p j zs (L j)).1) k) (k : Int) [.int .i64 (k : Int)] (fun _ => True) (fun _ => False) rfl rfl ?aP (fun _ hk => hk.elim) ?aF ?aO ?aB ?aS ?aL ?_; (case aP => exact rfl); (case aB => exact Below.refl _ _); (case aF => exact (fun _ _ => trivial)); (case aO => exact HR2.out); (case aS => exact HC2.out.size); (case aL => have := toldL_len (fun j => (tickO (W j) p j zs (L j)).1) k; have := HK.out; have := N1.out; omega); intro v3 w3 ho hb hg hat; have HR3 := Aside0.mk ho; have HB3 := Aside0.mk hb; clear ho hb hg hat))
        go_roundg k1
        case measure => omega
        case rel =>
          refine ⟨k + 1, ?_, ⟨by have := HJ.out; omega⟩, ⟨?_⟩, ⟨HC2.out.step' HB3.out⟩, ⟨fun j hj => ?_⟩⟩
          · rw [i64w _ (by omega) (by have := HK.out; have := N1.out; omega)]; rfl
          · rw [toldL, if_pos HT.out]
            exact HR3.out
          · have h3 := HM2.out j hj
            exact h3.keep fun q hq => HB3.out.block q ((HN.out.at_ j hj).lt hq)
end Go.Proofs.Ytcgkbbfnlbjblaa.P
