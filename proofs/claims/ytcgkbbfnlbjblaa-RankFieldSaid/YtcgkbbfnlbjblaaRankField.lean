/- A field of nodes by the program: who is master, a tick, and a node switched on or off. Conditions: the ranges that each lemma names. -/
import Derived.Test.YtcgkbbfnlbjblaaRankThose
namespace Go.Proofs.Ytcgkbbfnlbjblaa.P
open Go.RowKit Go.Proofs.YtcgkbbfnlbjblaaW.PrintWords Go.Proofs.YtcgkbbfnlbjblaaW.PrintLast Go.Proofs.YtcgkbbfnlbjblaaW.PrintMore
set_option linter.unusedVariables false
set_option linter.unusedSimpArgs false
def mO : Option Nd → Bool
  | none => false
  | some x => x.m
theorem MasterO_calls (h : Option Nat) (b s p : Int) (j : Nat) (x : Option Nd) (w : World) (hn : NO w b s p j h x) :
    Calls Try.prog 20 #[ptr h] w fun e w' => e = .returned (.bool (mO x)) ∧ Drawn0 w w' := by
  cases h with
  | none =>
    cases x with
    | some x => exact hn.elim
    | none =>
      show Calls Try.prog 20 #[.pointer none] w fun e w' => e = .returned (.bool false) ∧ Drawn0 w w'
      go_enter Try.func20, Try.ntmps20
      go_wp2_with fail
      repeat (go_quiet (fail); try go_wp2)
      go_ret
      exact ⟨rfl, by repeat (first | exact Drawn0.refl _ | apply Drawn0.step)⟩
  | some g =>
    cases x with
    | none => exact hn.elim
    | some x =>
      obtain ⟨c0, c1, c2, c3, c4, c5, c6⟩ := NdAt.cells hn
      show Calls Try.prog 20 #[.pointer (some ⟨g, 0, none⟩)] w fun e w' => e = .returned (.bool x.m) ∧ Drawn0 w w'
      clear hn
      go_enter Try.func20, Try.ntmps20
      go_wp2_with fail
      repeat (go_quiet (fail); try go_wp2)
      go_ret
      exact ⟨rfl, by repeat (first | exact Drawn0.refl _ | apply Drawn0.step)⟩
set_option maxHeartbeats 4000000 in
set_option maxRecDepth 100000 in
theorem ThoseMaster_calls (f g n : Nat) (b s p : Int) (fc : Array Value) (gc : Array Value) (H : Nat → Option Nat) (L : Nat → Option Nd) (v4 : Value) (w : World)
    (hf : w.heap[f]? = some (.cells #[.int .i64 b, .int .i64 s, .int .i64 p, .slice (some ⟨g, 0, none⟩) n n, v4] 81 (0, 0))) (hg : w.heap[g]? = some (.cells gc 36 (0, 0))) (hgc : ∀ j, j < n → gc[j]? = some (ptr (H j)))
    (hN : Nds w b s p n H L) (n1 : n ≤ 32) :
    Calls Try.prog 44 #[.pointer (some ⟨f, 0, none⟩), .func (.func 20) #[] #[]] w fun e w' => ∃ v, e = .returned v ∧ Kd.R (Kd.int .i64) 3 w' w.heap.size (fun _ => True) v (toldL (fun j => mO (L j)) n) ∧ Below w.heap.size w w' := by
  have HF := Aside0.mk hf
  have HG := Aside0.mk hg
  have HGC := Aside0.mk hgc
  have HN := Aside0.mk hN
  have N1 := Aside0.mk n1
  have cf := (blk_cell hf 3).trans (show _ = some (Value.slice (some ⟨g, 0, none⟩) n n) from rfl)
  clear hf hg hgc hN n1
  go_enter Try.func44, Try.ntmps44
  go_wp2_with fail
  go_loopg [15, 5] n (fun kq v15 v5 w' => ∃ k : Nat, v15 = .int .i64 (k : Int) ∧ Aside0 (k + kq = n) ∧ Aside0 (Kd.R (Kd.int .i64) 3 w' w.heap.size (fun _ => True) v5 (toldL (fun j => mO (L j)) k)) ∧ Aside0 (Below w.heap.size w w'))
  case atStart => exact ⟨0, rfl, ⟨by omega⟩, ⟨Kd.R_nil _ _ _ _ _⟩, ⟨Below.refl _ _⟩⟩
  case round =>
    obtain ⟨k, rfl, HJ, HR, HC⟩ := hrel
    cases gk with
    | zero =>
      obtain rfl : k = n := by have := HJ.out; omega
      go_wp2_with fail
      go_ret
      exact ⟨_, rfl, HR.out, HC.out⟩
    | succ k1 =>
      have hk : k < n := by have := HJ.out; omega
      have HK := Aside0.mk hk
      have u1 : decide ((k : Int) < (n : Int)) = true := decide_eq_true (by omega)
      have u2 : (0 ≤ (k : Int)) = True := eq_true (by omega)
      have u3 : ((k : Int) < (n : Int)) = True := eq_true (by omega)
      have u4 : decide (k < n) = true := decide_eq_true hk
      have hG := blk_below HG.out HC.out
      have hgk : wr.cell? ⟨g, k, none⟩ = some (ptr (H k)) := (blk_cell hG k).trans (HGC.out k hk)
      clear hk hG
      go_wp2_with fail
      have hx0 : NO wr b s p k (H k) (L k) := (HN.out.at_ k HK.out).keep fun q e => HC.out.block q ((HN.out.at_ k HK.out).lt e)
      (with_reducible refine (MasterO_calls (H k) b s p k (L k) _ hx0).mono ?_); rintro e w2 ⟨rfl, h2⟩
      have HR2 : Aside0 (Kd.R (Kd.int .i64) 3 w2 w.heap.size (fun _ => True) u5 (toldL (fun j => mO (L j)) k)) := ⟨Kd.R_below HR.out h2.below⟩
      have HC2 : Aside0 (Below w.heap.size w w2) := ⟨below_step HC.out h2.below⟩
      clear h2 hx0 hgk HC HR
      cases ht : mO (L k)
      · go_wp2_with fail
        go_roundg k1
        case measure => omega
        case rel =>
          refine ⟨k + 1, ?_, ⟨by have := HJ.out; omega⟩, ⟨?_⟩, HC2⟩
          · rw [i64w _ (by omega) (by have := HK.out; have := N1.out; omega)]; rfl
          · rw [toldL, if_neg (by rw [ht]; decide)]
            exact HR2.out
      · have HT := Aside0.mk ht
        clear ht
        go_wp2_with (first | ((with_reducible refine gate_builtin (b := .append) (xs := #[.tmp 23, .tmp 25]) rfl ?_); at_builtin; refine Kd.R_append (Kd.int .i64) (w0 := w2) w.heap.size rfl (.tmp 23) (.tmp 25) 43 3 (.int .i64 0) 8 rfl Try.underlying43 info3 rfl (by decide) (by omega) u5 (toldL (fun j => mO (L j)) k) (k : Int) [.int .i64 (k : Int)] (fun _ => True) (fun _ => False) rfl rfl ?aP (fun _ hk => hk.elim) ?aF ?aO ?aB ?aS ?aL ?_; (case aP => exact rfl); (case aB => exact Below.refl _ _); (case aF => exact (fun _ _ => trivial)); (case aO => exact HR2.out); (case aS => exact HC2.out.size); (case aL => have := toldL_len (fun j => mO (L j)) k; have := HK.out; have := N1.out; omega); intro v3 w3 ho hb hg hat; have HR3 := Aside0.mk ho; have HB3 := Aside0.mk hb; clear ho hb hg hat))
        go_roundg k1
        case measure => omega
        case rel =>
          refine ⟨k + 1, ?_, ⟨by have := HJ.out; omega⟩, ⟨?_⟩, ⟨HC2.out.trans HB3.out⟩⟩
          · rw [i64w _ (by omega) (by have := HK.out; have := N1.out; omega)]; rfl
          · rw [toldL, if_pos HT.out]
            exact HR3.out
end Go.Proofs.Ytcgkbbfnlbjblaa.P
