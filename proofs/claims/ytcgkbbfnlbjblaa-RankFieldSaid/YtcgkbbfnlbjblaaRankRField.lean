/- The document's field of nodes: its acts, walked by hand. Conditions: the ranges that each lemma names. -/
import Derived.Test.YtcgkbbfnlbjblaaRankRFld
namespace Go.Proofs.Ytcgkbbfnlbjblaa.P
open Go.RowKit Go.Proofs.YtcgkbbfnlbjblaaW.PrintWords Go.Proofs.YtcgkbbfnlbjblaaW.PrintLast Go.Proofs.YtcgkbbfnlbjblaaW.PrintMore
set_option linter.unusedVariables false
set_option linter.unusedSimpArgs false
theorem RTickO_calls (h : Option Nat) (b s p : Int) (j : Nat) (x : Option Nd) (A : Option Addr) (c m : Nat) (zs : List Int) (w : World) (hn : RNO w b s p j h x) (hm : zs.length = m) (hl : zs.length ≤ c) (hz : Kd.C (Kd.int .i64) w A zs.length zs)
    (ok : ∀ y, x = some y → NdOk (WJ b s p j) p y) (p1 : p ≤ 1000) :
    Calls Try.prog 19 #[ptr h, .slice A m c] w fun e w' => e = .returned (.bool (tickO (WJ b s p j) p j zs x).1) ∧ RNO w' b s p j h (tickO (WJ b s p j) p j zs x).2 ∧ Ch (fun k => h = some k) w w' := by
  subst hm
  cases h with
  | none =>
    cases x with
    | none =>
      refine (RTick_nil (.slice A zs.length c) w).mono ?_
      rintro e w' ⟨rfl, hd⟩
      exact ⟨rfl, trivial, (Ch.of hd.below _)⟩
    | some x => exact hn.elim
  | some g =>
    cases x with
    | none => exact hn.elim
    | some x =>
      refine (RTick_calls g b s p j x A c _ zs w hn rfl hl hz (ok x rfl) p1).mono ?_
      rintro e w' ⟨rfl, h1, h2⟩
      exact ⟨rfl, h1, h2.mono fun k e => by rw [e]⟩
set_option maxHeartbeats 4000000 in
set_option maxRecDepth 100000 in
theorem RCrash_calls (base f g n : Nat) (b s p k : Int) (H : Nat → Option Nat) (L : Nat → Option Nd) (told : List Int) (w : World) (h : RFld w base f g b s p n H L told) (hb : base ≤ w.heap.size) (n1 : n ≤ 32) (hr : rightB b s p = true) :
    Calls Try.prog 26 #[.pointer (some ⟨f, 0, none⟩), .int .i64 k] w fun e w' => ∃ H', e = .returned (.int .i64 (turnEL n L k false)) ∧ RFld w' base f g b s p n H' (turnL n L k false) told ∧ Ch (FldS f g H n) w w' := by
  obtain ⟨v4, cp, h1, h2⟩ := h.fv
  obtain ⟨gc, h3, h4⟩ := h.gv
  have c3 : w.cell? ⟨f, 3, none⟩ = some (.slice (some ⟨g, 0, none⟩) n cp) := (blk_cell h1 3).trans rfl
  by_cases hk : 0 ≤ k ∧ k < n
  · obtain ⟨kn, rfl⟩ : ∃ kn : Nat, k = (kn : Int) := ⟨k.toNat, (Int.toNat_of_nonneg hk.1).symm⟩
    have hkn : kn < n := by omega
    have cg : w.cell? ⟨g, kn, none⟩ = some (ptr (H kn)) := (blk_cell h3 kn).trans (h4 _ hkn)
    have fg := blk_frozen h3 kn
    have u1 : decide ((kn : Int) < 0) = false := decide_eq_false (by omega)
    have u2 : decide ((kn : Int) ≥ (n : Int)) = false := decide_eq_false (by omega)
    have u3 : decide ((n : Int) ≤ (kn : Int)) = false := decide_eq_false (by omega)
    have u5 : decide (n ≤ kn) = false := decide_eq_false (by omega)
    have u6 : (0 ≤ (kn : Int)) = True := eq_true (by omega)
    have u7 : ((kn : Int) < (n : Int)) = True := eq_true (by omega)
    have u8 : (kn < n) = True := eq_true hkn
    have e1 : turnEL n L (kn : Int) false = if (L kn).isSome = false then 8 else 0 := if_pos hk
    have hs := (h.nd.at_ kn hkn).some
    have H0 := Aside0.mk h
    have HK := Aside0.mk hkn
    have HBS := Aside0.mk hb
    have N1 := Aside0.mk n1
    have HR := Aside0.mk hr
    have HRK : Aside0 (rankB (kn : Int) = true) := ⟨decide_eq_true (by omega)⟩
    have HK2 := Aside0.mk hk
    clear hkn hb n1 hr hk
    cases hq : H kn with
    | none =>
      rw [hq] at hs cg
      have hs' : (L kn).isSome = false := hs.symm
      have e2 : turnL n L (kn : Int) false = L := if_neg (fun q => q.2.2 hs')
      rw [e1, if_pos hs', e2]
      have cg' : w.cell? ⟨g, kn, none⟩ = some (.pointer none) := cg
      clear e1 e2 hs hs' hq cg h1 h2 h3 h4 h
      go_enter Try.func26, Try.ntmps26
      go_wp2_with fail
      go_ret
      exact ⟨H, rfl, H0.out, Ch.refl _ _⟩
    | some q =>
      rw [hq] at hs cg
      have hs' : (L kn).isSome = true := hs.symm
      have e2 : turnL n L (kn : Int) false = upd L kn none := by
        unfold turnL
        rw [if_pos ⟨HK2.out.1, HK2.out.2, by rw [Int.toNat_natCast, hs']; decide⟩]
        rfl
      rw [e1, if_neg (by rw [hs']; decide), e2]
      have cg' : w.cell? ⟨g, kn, none⟩ = some (.pointer (some ⟨q, 0, none⟩)) := cg
      clear e1 e2 hs hs' hq cg h1 h2 h3 h4 h
      go_enter Try.func26, Try.ntmps26
      go_wp2_with fail
      go_ret
      exact ⟨_, rfl, H0.out.put HK.out none none (Below.refl _ _) trivial (fun i e => by cases e) HBS.out, (Ch.refl _ _).set (p := ⟨g, kn, none⟩) (.inl (.inr (.inl rfl))) _⟩
  · have e1 : turnEL n L k false = 7 := if_neg hk
    have e2 : turnL n L k false = L := if_neg (fun q => hk ⟨q.1, q.2.1⟩)
    rw [e1, e2]
    have H0 := Aside0.mk h
    by_cases k0 : k < 0
    · have u1 : decide (k < 0) = true := decide_eq_true k0
      clear h h1 h2 h3 h4 hk k0 e1 e2
      go_enter Try.func26, Try.ntmps26
      go_wp2_with fail
      go_ret
      exact ⟨H, rfl, H0.out, Ch.refl _ _⟩
    · have u1 : decide (k < 0) = false := decide_eq_false k0
      have u2 : decide (k ≥ (n : Int)) = true := decide_eq_true (by omega)
      have u3 : decide ((n : Int) ≤ k) = true := decide_eq_true (by omega)
      clear h h1 h2 h3 h4 hk k0 e1 e2
      go_enter Try.func26, Try.ntmps26
      go_wp2_with fail
      go_ret
      exact ⟨H, rfl, H0.out, Ch.refl _ _⟩
set_option maxHeartbeats 4000000 in
set_option maxRecDepth 100000 in
theorem RRestart_calls (base f g n : Nat) (b s p k : Int) (H : Nat → Option Nat) (L : Nat → Option Nd) (told : List Int) (w : World) (h : RFld w base f g b s p n H L told) (hb : base ≤ w.heap.size) (n1 : n ≤ 32) (hr : rightB b s p = true) :
    Calls Try.prog 28 #[.pointer (some ⟨f, 0, none⟩), .int .i64 k] w fun e w' => ∃ H', e = .returned (.int .i64 (turnEL n L k true)) ∧ RFld w' base f g b s p n H' (turnL n L k true) told ∧ Ch (FldS f g H n) w w' := by
  obtain ⟨v4, cp, h1, h2⟩ := h.fv
  obtain ⟨gc, h3, h4⟩ := h.gv
  have c3 : w.cell? ⟨f, 3, none⟩ = some (.slice (some ⟨g, 0, none⟩) n cp) := (blk_cell h1 3).trans rfl
  by_cases hk : 0 ≤ k ∧ k < n
  · obtain ⟨kn, rfl⟩ : ∃ kn : Nat, k = (kn : Int) := ⟨k.toNat, (Int.toNat_of_nonneg hk.1).symm⟩
    have hkn : kn < n := by omega
    have cg : w.cell? ⟨g, kn, none⟩ = some (ptr (H kn)) := (blk_cell h3 kn).trans (h4 _ hkn)
    have fg := blk_frozen h3 kn
    have u1 : decide ((kn : Int) < 0) = false := decide_eq_false (by omega)
    have u2 : decide ((kn : Int) ≥ (n : Int)) = false := decide_eq_false (by omega)
    have u3 : decide ((n : Int) ≤ (kn : Int)) = false := decide_eq_false (by omega)
    have u5 : decide (n ≤ kn) = false := decide_eq_false (by omega)
    have u6 : (0 ≤ (kn : Int)) = True := eq_true (by omega)
    have u7 : ((kn : Int) < (n : Int)) = True := eq_true (by omega)
    have u8 : (kn < n) = True := eq_true hkn
    have e1 : turnEL n L (kn : Int) true = if (L kn).isSome = true then 8 else 0 := if_pos hk
    have hs := (h.nd.at_ kn hkn).some
    have H0 := Aside0.mk h
    have HK := Aside0.mk hkn
    have HBS := Aside0.mk hb
    have N1 := Aside0.mk n1
    have HR := Aside0.mk hr
    have HRK : Aside0 (rankB (kn : Int) = true) := ⟨decide_eq_true (by omega)⟩
    have HK2 := Aside0.mk hk
    clear hkn hb n1 hr hk
    cases hq : H kn with
    | some q =>
      rw [hq] at hs cg
      have hs' : (L kn).isSome = true := hs.symm
      have e2 : turnL n L (kn : Int) true = L := if_neg (fun q => q.2.2 hs')
      rw [e1, if_pos hs', e2]
      have cg' : w.cell? ⟨g, kn, none⟩ = some (.pointer (some ⟨q, 0, none⟩)) := cg
      clear e1 e2 hs hs' hq cg h1 h2 h3 h4 h
      go_enter Try.func28, Try.ntmps28
      go_wp2_with fail
      go_ret
      exact ⟨H, rfl, H0.out, Ch.refl _ _⟩
    | none =>
      rw [hq] at hs cg
      have hs' : (L kn).isSome = false := hs.symm
      have e2 : turnL n L (kn : Int) true = upd L kn (some ⟨false, 0, 0⟩) := by
        unfold turnL
        rw [if_pos ⟨HK2.out.1, HK2.out.2, by rw [Int.toNat_natCast, hs']; decide⟩]
        rfl
      rw [e1, if_neg (by rw [hs']; decide), e2]
      have cg' : w.cell? ⟨g, kn, none⟩ = some (.pointer none) := cg
      have d0 : w.cell? ⟨f, 0, none⟩ = some (.int .i64 b) := (blk_cell h1 0).trans rfl
      have d1 : w.cell? ⟨f, 1, none⟩ = some (.int .i64 s) := (blk_cell h1 1).trans rfl
      have d2 : w.cell? ⟨f, 2, none⟩ = some (.int .i64 p) := (blk_cell h1 2).trans rfl
      have hu28 := Try.underlying28
      clear e1 e2 hs hs' hq cg h1 h2 h3 h4 h
      go_enter Try.func28, Try.ntmps28
      go_wp2_with fail
      (with_reducible refine (RNew_yes b s p kn _ HR.out HRK.out).mono ?_); rintro e w5 ⟨q, rfl, hq, hn, hb5⟩
      have F5 := Aside0.mk (H0.out.below hb5)
      have HQ : Aside0 (w.heap.size ≤ q) := ⟨hq⟩
      have HN := Aside0.mk hn
      have HB5 := Aside0.mk hb5
      obtain ⟨v6, cp6, i1, i2⟩ := F5.out.fv
      obtain ⟨gc6, i3, i4⟩ := F5.out.gv
      have e3 := (blk_cell i1 3).trans rfl
      have eg := (blk_cell i3 kn).trans (i4 kn HK.out)
      have ef := blk_frozen i3 kn
      clear hq hn hb5 i1 i2 i3 i4 c3 d0 d1 d2 cg' fg
      go_wp2_with fail
      go_ret
      exact ⟨_, rfl, H0.out.put HK.out (some q) (some ⟨false, 0, 0⟩) HB5.out HN.out (fun i e => by cases e; exact HQ.out) HBS.out, ((Ch.refl _ _).step HB5.out).set (p := ⟨g, kn, none⟩) (.inl (.inr (.inl rfl))) _⟩
  · have e1 : turnEL n L k true = 7 := if_neg hk
    have e2 : turnL n L k true = L := if_neg (fun q => hk ⟨q.1, q.2.1⟩)
    rw [e1, e2]
    have H0 := Aside0.mk h
    by_cases k0 : k < 0
    · have u1 : decide (k < 0) = true := decide_eq_true k0
      clear h h1 h2 h3 h4 hk k0 e1 e2
      go_enter Try.func28, Try.ntmps28
      go_wp2_with fail
      go_ret
      exact ⟨H, rfl, H0.out, Ch.refl _ _⟩
    · have u1 : decide (k < 0) = false := decide_eq_false k0
      have u2 : decide (k ≥ (n : Int)) = true := decide_eq_true (by omega)
      have u3 : decide ((n : Int) ≤ k) = true := decide_eq_true (by omega)
      clear h h1 h2 h3 h4 hk k0 e1 e2
      go_enter Try.func28, Try.ntmps28
      go_wp2_with fail
      go_ret
      exact ⟨H, rfl, H0.out, Ch.refl _ _⟩
set_option maxHeartbeats 4000000 in
set_option maxRecDepth 100000 in
theorem RMasters_calls (base f g n : Nat) (b s p : Int) (H : Nat → Option Nat) (L : Nat → Option Nd) (told : List Int) (w : World) (h : RFld w base f g b s p n H L told) (n1 : n ≤ 32) :
    Calls Try.prog 34 #[.pointer (some ⟨f, 0, none⟩)] w fun e w' => ∃ v, e = .returned v ∧ Kd.R (Kd.int .i64) 3 w' w.heap.size (fun _ => True) v (toldL (fun j => mO (L j)) n) ∧ Below w.heap.size w w' := by
  have hu47 := Try.underlying47
  have H0 := Aside0.mk h
  have N1 := Aside0.mk n1
  clear h n1
  go_enter Try.func34, Try.ntmps34
  go_wp2_with fail
  go_loopg [4, 3] n (fun kq v4 v3 w' => ∃ k : Nat, v4 = .int .i64 (k : Int) ∧ Aside0 (k + kq = n) ∧ Aside0 (Kd.R (Kd.int .i64) 3 w' w.heap.size (fun _ => True) v3 (toldL (fun j => mO (L j)) k)) ∧ Aside0 (Below w.heap.size w w'))
  case atStart => exact ⟨0, rfl, ⟨by omega⟩, ⟨Kd.R_nil _ _ _ _ _⟩, ⟨Below.refl _ _⟩⟩
  case round =>
    obtain ⟨k, rfl, HJ, HR2, HC⟩ := hrel
    have FX := Aside0.mk (H0.out.below HC.out)
    obtain ⟨v4, cp, h1, h2⟩ := FX.out.fv
    obtain ⟨gc, h3, h4⟩ := FX.out.gv
    have c3 : wr.cell? ⟨f, 3, none⟩ = some (.slice (some ⟨g, 0, none⟩) n cp) := (blk_cell h1 3).trans rfl
    cases gk with
    | zero =>
      obtain rfl : k = n := by have := HJ.out; omega
      have u1 : decide ((k : Int) < (k : Int)) = false := decide_eq_false (by omega)
      clear h1 h2 h3 h4
      go_wp2_with fail
      obtain ⟨A, c, rfl⟩ := Kd.R_slice HR2.out
      go_ret
      exact ⟨_, rfl, HR2.out, HC.out⟩
    | succ k1 =>
      have hk : k < n := by have := HJ.out; omega
      have HK := Aside0.mk hk
      have u1 : decide ((k : Int) < (n : Int)) = true := decide_eq_true (by omega)
      have u2 : (0 ≤ (k : Int)) = True := eq_true (by omega)
      have u3 : ((k : Int) < (n : Int)) = True := eq_true (by omega)
      have u4 : decide (k < n) = true := decide_eq_true hk
      have u5' : (k < n) = True := eq_true hk
      have hgk : wr.cell? ⟨g, k, none⟩ = some (ptr (H k)) := (blk_cell h3 k).trans (h4 k hk)
      have hx0 := FX.out.nd.at_ k hk
      have hi1 : wrap64 ((k : Int) + 1) = ((k + 1 : Nat) : Int) := by rw [i64w _ (by omega) (by have := HK.out; have := N1.out; omega)]; rfl
      clear hk h1 h2 h3 h4
      cases hq : H k with
      | none =>
        rw [hq] at hgk hx0
        have hgk' : wr.cell? ⟨g, k, none⟩ = some (.pointer none) := hgk
        have hm : mO (L k) = false := by
          cases e : L k with
          | none => rfl
          | some x => rw [e] at hx0; exact hx0.elim
        clear hgk hx0 hq
        go_wp2_with fail
        go_roundg k1
        case measure => omega
        case rel =>
          refine ⟨k + 1, by first | rw [hi1] | rfl, ⟨by have := HJ.out; omega⟩, ⟨?_⟩, HC⟩
          rw [toldL, if_neg (by rw [hm]; decide)]
          exact HR2.out
      | some q =>
        rw [hq] at hgk hx0
        have hgk' : wr.cell? ⟨g, k, none⟩ = some (.pointer (some ⟨q, 0, none⟩)) := hgk
        cases e : L k with
        | none => rw [e] at hx0; exact hx0.elim
        | some x =>
          rw [e] at hx0
          have hx1 : RAt wr q b s p (k : Int) x := hx0
          have m4 := hx1.cells.2.2.2.2.1
          have HE : Aside0 (mO (L k) = x.m) := ⟨by rw [e]; rfl⟩
          clear hgk hx0 hq hx1 e
          cases ht : x.m
          · rw [ht] at m4 HE
            clear ht
            go_wp2_with fail
            go_roundg k1
            case measure => omega
            case rel =>
              refine ⟨k + 1, by first | rw [hi1] | rfl, ⟨by have := HJ.out; omega⟩, ⟨?_⟩, HC⟩
              rw [toldL, if_neg (by rw [HE.out]; decide)]
              exact HR2.out
          · rw [ht] at m4 HE
            clear ht
            go_wp2_with (first | ((with_reducible refine gate_builtin (b := .append) (xs := #[.tmp 38, .tmp 40]) rfl ?_); at_builtin; refine Kd.R_append (Kd.int .i64) (w0 := wr) w.heap.size rfl (.tmp 38) (.tmp 40) 43 3 (.int .i64 0) 8 rfl Try.underlying43 info3 rfl (by decide) (by omega) _ (toldL (fun j => mO (L j)) k) (k : Int) [.int .i64 (k : Int)] (fun _ => True) (fun _ => False) rfl rfl ?aP (fun _ hk => hk.elim) ?aF ?aO ?aB ?aS ?aL ?_; (case aP => exact rfl); (case aB => exact Below.refl _ _); (case aF => exact (fun _ _ => trivial)); (case aO => exact HR2.out); (case aS => exact HC.out.size); (case aL => have := toldL_len (fun j => mO (L j)) k; have := HK.out; have := N1.out; omega); intro v3 w3 ho hb hg hat; have HR3 := Aside0.mk ho; have HB3 := Aside0.mk hb; clear ho hb hg hat))
            go_roundg k1
            case measure => omega
            case rel =>
              refine ⟨k + 1, by first | rw [hi1] | rfl, ⟨by have := HJ.out; omega⟩, ⟨?_⟩, ⟨HC.out.trans HB3.out⟩⟩
              rw [toldL, if_pos HE.out]
              exact HR3.out
set_option maxHeartbeats 8000000 in
set_option maxRecDepth 100000 in
theorem RFTick_heard (base f g n : Nat) (b s p : Int) (H : Nat → Option Nat) (L : Nat → Option Nd) (told : List Int) (w : World) (h : RFld w base f g b s p n H L told) (hbase : base ≤ w.heap.size) (n1 : n ≤ 32)
    (hr : rightB b s p = true) (ok : FOk (WJ b s p) p n L) :
    Calls Try.prog 31 #[.pointer (some ⟨f, 0, none⟩), .bool false] w fun e w' => (∃ v, e = .returned v) ∧ RFld w' base f g b s p n H (tickL (WJ b s p) p L told false) (tickT (WJ b s p) p n L told false) ∧ Ch (FldS f g H n) w w' := by
  have H0 := Aside0.mk h
  have N1 := Aside0.mk n1
  have HBS := Aside0.mk hbase
  have OK : Aside0 (∀ j y, j < n → L j = some y → NdOk (WJ b s p j) p y) := ⟨ok⟩
  have PP : Aside0 (p ≤ 1000) := ⟨(right_of hr).2.1⟩
  obtain ⟨v4, cp, h1, h2⟩ := h.fv
  obtain ⟨A, c, rfl, hl, hC⟩ := Kd.R_reads h2
  have HF := Aside0.mk h1
  have HZ : Aside0 (Kd.R (Kd.int .i64) 3 w 0 (fun _ => True) (.slice A told.length c) told) := ⟨Kd.R_lower h2 (Nat.zero_le _)⟩
  have HN := Aside0.mk h.nd
  have c4 : w.cell? ⟨f, 4, none⟩ = some (.slice A told.length c) := (blk_cell h1 4).trans rfl
  clear h n1 hbase ok hr h1 h2 hl hC
  go_enter Try.func31, Try.ntmps31
  go_wp2_with fail
  clear c4
  go_loopg [6, 5] n (fun kq v6 v5 w' => ∃ k : Nat, v6 = .int .i64 (k : Int) ∧ Aside0 (k + kq = n) ∧ Aside0 (Kd.R (Kd.int .i64) 3 w' w.heap.size (fun _ => True) v5 (toldL (fun j => (tickO (WJ b s p j) p j told (L j)).1) k)) ∧ Aside0 (Ch (FS H n) w w') ∧ Aside0 (∀ j, j < n → RNO w' b s p j (H j) (mixL (fun j => (tickO (WJ b s p j) p j told (L j)).2) L k j)))
  case atStart => exact ⟨0, rfl, ⟨by omega⟩, ⟨Kd.R_nil _ _ _ _ _⟩, ⟨Ch.refl _ _⟩, ⟨fun j hj => HN.out.at_ j hj⟩⟩
  case round =>
    obtain ⟨k, rfl, HJ, HR, HC, HM⟩ := hrel
    have hF := HC.out.blk HF.out (not_RFS HN.out HF.out (by decide))
    have c3 : wr.cell? ⟨f, 3, none⟩ = some (.slice (some ⟨g, 0, none⟩) n cp) := (blk_cell hF 3).trans rfl
    cases gk with
    | zero =>
      obtain rfl : k = n := by have := HJ.out; omega
      have u1 : decide ((k : Int) < (k : Int)) = false := decide_eq_false (by omega)
      have c4 := (blk_cell hF 4).trans rfl
      have f4 := blk_frozen hF 4
      clear hF
      obtain ⟨A5, c5, rfl⟩ := Kd.R_slice HR.out
      go_wp2_with fail
      go_end0
      have fin := RFTick_fin (L' := (fun j => (tickO (WJ b s p j) p j told (L j)).2)) (T := toldL (fun j => (tickO (WJ b s p j) p j told (L j)).1) k) H0.out HBS.out HF.out (Below.refl _ _) HR.out HC.out ⟨fun j hj => (by
        have := HM.out j hj
        rw [mixL, if_pos hj] at this
        exact this), HN.out.inj⟩
      exact ⟨⟨_, rfl⟩, fin.1, fin.2.1⟩
    | succ k1 =>
      have hk : k < n := by have := HJ.out; omega
      have HK := Aside0.mk hk
      have u1 : decide ((k : Int) < (n : Int)) = true := decide_eq_true (by omega)
      have u2 : (0 ≤ (k : Int)) = True := eq_true (by omega)
      have u3 : ((k : Int) < (n : Int)) = True := eq_true (by omega)
      have u4 : decide (k < n) = true := decide_eq_true hk
      have u5' : (k < n) = True := eq_true hk
      have hi1 : wrap64 ((k : Int) + 1) = ((k + 1 : Nat) : Int) := by rw [i64w _ (by omega) (by have := HK.out; have := N1.out; omega)]; rfl
      obtain ⟨gc, hG0, hgc⟩ := H0.out.gv
      have hG := HC.out.blk hG0 (not_RFS HN.out hG0 (by decide))
      have hgk : wr.cell? ⟨g, k, none⟩ = some (ptr (H k)) := (blk_cell hG k).trans (hgc k hk)
      clear hk hG hG0 hgc hF
      go_wp2_with fail
      have hx0 : RNO wr b s p k (H k) (L k) := by
        have := HM.out k HK.out
        rw [mixL, if_neg (by omega)] at this
        exact this
      have hZ := R_ch HZ.out HC.out (fun q cs hs hh => by obtain ⟨cs', hc'⟩ := FS.rtyped HN.out hs; exact absurd (blk_type hh hc') (by decide))
      obtain ⟨A', c', e1, hl', hzz⟩ := Kd.R_reads hZ
      injection e1 with e1 e2 e3
      subst e1; subst e3
      (with_reducible refine (RTickO_calls (H k) b s p k (L k) A c told.length told _ hx0 rfl hl' hzz (fun y e => OK.out k y HK.out e) PP.out).mono ?_); rintro e w2 ⟨rfl, h1, h2⟩
      have HR2 : Aside0 (Kd.R (Kd.int .i64) 3 w2 w.heap.size (fun _ => True) _ (toldL (fun j => (tickO (WJ b s p j) p j told (L j)).1) k)) := ⟨R_ch HR.out h2 (fun q cs hs hh => by obtain ⟨cs', hc'⟩ := hx0.typed hs; exact absurd (blk_type hh hc') (by decide))⟩
      have HC2 : Aside0 (Ch (FS H n) w w2) := ⟨HC.out.trans (h2.mono fun q e => ⟨k, HK.out, e⟩)⟩
      have HM2 : Aside0 (∀ j, j < n → RNO w2 b s p j (H j) (mixL (fun j => (tickO (WJ b s p j) p j told (L j)).2) L (k + 1) j)) := ⟨fun j hj => by
        by_cases ej : j = k
        · subst ej
          rw [mixL, if_pos (by omega)]
          exact h1
        · have h3 := HM.out j hj
          have e4 : mixL (fun j => (tickO (WJ b s p j) p j told (L j)).2) L (k + 1) j = mixL (fun j => (tickO (WJ b s p j) p j told (L j)).2) L k j := by
            unfold mixL
            by_cases hlt : j < k
            · rw [if_pos hlt, if_pos (by omega)]
            · rw [if_neg hlt, if_neg (by omega)]
          rw [e4]
          exact h3.keep fun q hq => h2.keep q (h3.lt hq) (fun e => ej (HN.out.inj j k q hj HK.out hq e))⟩
      clear h1 h2 hzz hl' hx0 hgk HM HC HR c3
      cases ht : (tickO (WJ b s p k) p k told (L k)).1
      · have HT := Aside0.mk ht
        have ht' : (tickO (waitV b s p (k : Int)) p k told (L k)).1 = false := ht
        clear ht
        try rw [ht']
        go_wp2_with fail
        go_roundg k1
        case measure => omega
        case rel =>
          refine ⟨k + 1, by first | rw [hi1] | rfl, ⟨by have := HJ.out; omega⟩, ⟨?_⟩, HC2, HM2⟩
          rw [toldL, if_neg (by rw [HT.out]; decide)]
          exact HR2.out
      · have HT := Aside0.mk ht
        have ht' : (tickO (waitV b s p (k : Int)) p k told (L k)).1 = true := ht
        clear ht
        try rw [ht']
        go_wp2_with (first | ((with_reducible refine gate_builtin (b := .append) (xs := #[.tmp 32, .tmp 34]) rfl ?_); at_builtin; refine Kd.R_append (Kd.int .i64) (w0 := w2) w.heap.size rfl (.tmp 32) (.tmp 34) 43 3 (.int .i64 0) 8 rfl Try.underlying43 info3 rfl (by decide) (by omega) _ (toldL (fun j => (tickO (WJ b s p j) p j told (L j)).1) k) (k : Int) [.int .i64 (k : Int)] (fun _ => True) (fun _ => False) rfl rfl ?aP (fun _ hk => hk.elim) ?aF ?aO ?aB ?aS ?aL ?_; (case aP => exact rfl); (case aB => exact Below.refl _ _); (case aF => exact (fun _ _ => trivial)); (case aO => exact HR2.out); (case aS => exact HC2.out.size); (case aL => have := toldL_len (fun j => (tickO (WJ b s p j) p j told (L j)).1) k; have := HK.out; have := N1.out; omega); intro v3 w3 ho hb hg hat; have HR3 := Aside0.mk ho; have HB3 := Aside0.mk hb; clear ho hb hg hat))
        go_roundg k1
        case measure => omega
        case rel =>
          refine ⟨k + 1, by first | rw [hi1] | rfl, ⟨by have := HJ.out; omega⟩, ⟨?_⟩, ⟨HC2.out.step' HB3.out⟩, ⟨fun j hj => ?_⟩⟩
          · rw [toldL, if_pos HT.out]
            exact HR3.out
          · have h3 := HM2.out j hj
            exact h3.keep fun q hq => HB3.out.block q ((HN.out.at_ j hj).lt hq)
set_option maxHeartbeats 8000000 in
set_option maxRecDepth 100000 in
theorem RFTick_lost (base f g n : Nat) (b s p : Int) (H : Nat → Option Nat) (L : Nat → Option Nd) (told : List Int) (w : World) (h : RFld w base f g b s p n H L told) (hbase : base ≤ w.heap.size) (n1 : n ≤ 32)
    (hr : rightB b s p = true) (ok : FOk (WJ b s p) p n L) :
    Calls Try.prog 31 #[.pointer (some ⟨f, 0, none⟩), .bool true] w fun e w' => (∃ v, e = .returned v) ∧ RFld w' base f g b s p n H (tickL (WJ b s p) p L told true) (tickT (WJ b s p) p n L told true) ∧ Ch (FldS f g H n) w w' := by
  have H0 := Aside0.mk h
  have N1 := Aside0.mk n1
  have HBS := Aside0.mk hbase
  have OK : Aside0 (∀ j y, j < n → L j = some y → NdOk (WJ b s p j) p y) := ⟨ok⟩
  have PP : Aside0 (p ≤ 1000) := ⟨(right_of hr).2.1⟩
  obtain ⟨v4, cp, h1, h2⟩ := h.fv
  obtain ⟨A, c, rfl, hl, hC⟩ := Kd.R_reads h2
  have HF := Aside0.mk h1
  have HZ : Aside0 (Kd.R (Kd.int .i64) 3 w 0 (fun _ => True) (.slice A told.length c) told) := ⟨Kd.R_lower h2 (Nat.zero_le _)⟩
  have HN := Aside0.mk h.nd
  have c4 : w.cell? ⟨f, 4, none⟩ = some (.slice A told.length c) := (blk_cell h1 4).trans rfl
  clear h n1 hbase ok hr h1 h2 hl hC
  go_enter Try.func31, Try.ntmps31
  go_wp2_with fail
  clear c4
  go_loopg [6, 5] n (fun kq v6 v5 w' => ∃ k : Nat, v6 = .int .i64 (k : Int) ∧ Aside0 (k + kq = n) ∧ Aside0 (Kd.R (Kd.int .i64) 3 w' w.heap.size (fun _ => True) v5 (toldL (fun j => (tickO (WJ b s p j) p j [] (L j)).1) k)) ∧ Aside0 (Ch (FS H n) w w') ∧ Aside0 (∀ j, j < n → RNO w' b s p j (H j) (mixL (fun j => (tickO (WJ b s p j) p j [] (L j)).2) L k j)))
  case atStart => exact ⟨0, rfl, ⟨by omega⟩, ⟨Kd.R_nil _ _ _ _ _⟩, ⟨Ch.refl _ _⟩, ⟨fun j hj => HN.out.at_ j hj⟩⟩
  case round =>
    obtain ⟨k, rfl, HJ, HR, HC, HM⟩ := hrel
    have hF := HC.out.blk HF.out (not_RFS HN.out HF.out (by decide))
    have c3 : wr.cell? ⟨f, 3, none⟩ = some (.slice (some ⟨g, 0, none⟩) n cp) := (blk_cell hF 3).trans rfl
    cases gk with
    | zero =>
      obtain rfl : k = n := by have := HJ.out; omega
      have u1 : decide ((k : Int) < (k : Int)) = false := decide_eq_false (by omega)
      have c4 := (blk_cell hF 4).trans rfl
      have f4 := blk_frozen hF 4
      clear hF
      obtain ⟨A5, c5, rfl⟩ := Kd.R_slice HR.out
      go_wp2_with fail
      go_end0
      have fin := RFTick_fin (L' := (fun j => (tickO (WJ b s p j) p j [] (L j)).2)) (T := toldL (fun j => (tickO (WJ b s p j) p j [] (L j)).1) k) H0.out HBS.out HF.out (Below.refl _ _) HR.out HC.out ⟨fun j hj => (by
        have := HM.out j hj
        rw [mixL, if_pos hj] at this
        exact this), HN.out.inj⟩
      exact ⟨⟨_, rfl⟩, fin.1, fin.2.1⟩
    | succ k1 =>
      have hk : k < n := by have := HJ.out; omega
      have HK := Aside0.mk hk
      have u1 : decide ((k : Int) < (n : Int)) = true := decide_eq_true (by omega)
      have u2 : (0 ≤ (k : Int)) = True := eq_true (by omega)
      have u3 : ((k : Int) < (n : Int)) = True := eq_true (by omega)
      have u4 : decide (k < n) = true := decide_eq_true hk
      have u5' : (k < n) = True := eq_true hk
      have hi1 : wrap64 ((k : Int) + 1) = ((k + 1 : Nat) : Int) := by rw [i64w _ (by omega) (by have := HK.out; have := N1.out; omega)]; rfl
      obtain ⟨gc, hG0, hgc⟩ := H0.out.gv
      have hG := HC.out.blk hG0 (not_RFS HN.out hG0 (by decide))
      have hgk : wr.cell? ⟨g, k, none⟩ = some (ptr (H k)) := (blk_cell hG k).trans (hgc k hk)
      clear hk hG hG0 hgc hF
      go_wp2_with fail
      have hx0 : RNO wr b s p k (H k) (L k) := by
        have := HM.out k HK.out
        rw [mixL, if_neg (by omega)] at this
        exact this
      have hl' : ([] : List Int).length ≤ 0 := Nat.le_refl _
      have hzz : Kd.C (Kd.int .i64) wr none ([] : List Int).length [] := ⟨rfl, by decide, fun h => absurd h (Nat.lt_irrefl _)⟩
      (with_reducible refine (RTickO_calls (H k) b s p k (L k) none 0 0 [] _ hx0 rfl hl' hzz (fun y e => OK.out k y HK.out e) PP.out).mono ?_); rintro e w2 ⟨rfl, h1, h2⟩
      have HR2 : Aside0 (Kd.R (Kd.int .i64) 3 w2 w.heap.size (fun _ => True) _ (toldL (fun j => (tickO (WJ b s p j) p j [] (L j)).1) k)) := ⟨R_ch HR.out h2 (fun q cs hs hh => by obtain ⟨cs', hc'⟩ := hx0.typed hs; exact absurd (blk_type hh hc') (by decide))⟩
      have HC2 : Aside0 (Ch (FS H n) w w2) := ⟨HC.out.trans (h2.mono fun q e => ⟨k, HK.out, e⟩)⟩
      have HM2 : Aside0 (∀ j, j < n → RNO w2 b s p j (H j) (mixL (fun j => (tickO (WJ b s p j) p j [] (L j)).2) L (k + 1) j)) := ⟨fun j hj => by
        by_cases ej : j = k
        · subst ej
          rw [mixL, if_pos (by omega)]
          exact h1
        · have h3 := HM.out j hj
          have e4 : mixL (fun j => (tickO (WJ b s p j) p j [] (L j)).2) L (k + 1) j = mixL (fun j => (tickO (WJ b s p j) p j [] (L j)).2) L k j := by
            unfold mixL
            by_cases hlt : j < k
            · rw [if_pos hlt, if_pos (by omega)]
            · rw [if_neg hlt, if_neg (by omega)]
          rw [e4]
          exact h3.keep fun q hq => h2.keep q (h3.lt hq) (fun e => ej (HN.out.inj j k q hj HK.out hq e))⟩
      clear h1 h2 hzz hl' hx0 hgk HM HC HR c3
      cases ht : (tickO (WJ b s p k) p k [] (L k)).1
      · have HT := Aside0.mk ht
        have ht' : (tickO (waitV b s p (k : Int)) p k [] (L k)).1 = false := ht
        clear ht
        try rw [ht']
        go_wp2_with fail
        go_roundg k1
        case measure => omega
        case rel =>
          refine ⟨k + 1, by first | rw [hi1] | rfl, ⟨by have := HJ.out; omega⟩, ⟨?_⟩, HC2, HM2⟩
          rw [toldL, if_neg (by rw [HT.out]; decide)]
          exact HR2.out
      · have HT := Aside0.mk ht
        have ht' : (tickO (waitV b s p (k : Int)) p k [] (L k)).1 = true := ht
        clear ht
        try rw [ht']
        go_wp2_with (first | ((with_reducible refine gate_builtin (b := .append) (xs := #[.tmp 32, .tmp 34]) rfl ?_); at_builtin; refine Kd.R_append (Kd.int .i64) (w0 := w2) w.heap.size rfl (.tmp 32) (.tmp 34) 43 3 (.int .i64 0) 8 rfl Try.underlying43 info3 rfl (by decide) (by omega) _ (toldL (fun j => (tickO (WJ b s p j) p j [] (L j)).1) k) (k : Int) [.int .i64 (k : Int)] (fun _ => True) (fun _ => False) rfl rfl ?aP (fun _ hk => hk.elim) ?aF ?aO ?aB ?aS ?aL ?_; (case aP => exact rfl); (case aB => exact Below.refl _ _); (case aF => exact (fun _ _ => trivial)); (case aO => exact HR2.out); (case aS => exact HC2.out.size); (case aL => have := toldL_len (fun j => (tickO (WJ b s p j) p j [] (L j)).1) k; have := HK.out; have := N1.out; omega); intro v3 w3 ho hb hg hat; have HR3 := Aside0.mk ho; have HB3 := Aside0.mk hb; clear ho hb hg hat))
        go_roundg k1
        case measure => omega
        case rel =>
          refine ⟨k + 1, by first | rw [hi1] | rfl, ⟨by have := HJ.out; omega⟩, ⟨?_⟩, ⟨HC2.out.step' HB3.out⟩, ⟨fun j hj => ?_⟩⟩
          · rw [toldL, if_pos HT.out]
            exact HR3.out
          · have h3 := HM2.out j hj
            exact h3.keep fun q hq => HB3.out.block q ((HN.out.at_ j hj).lt hq)
end Go.Proofs.Ytcgkbbfnlbjblaa.P
