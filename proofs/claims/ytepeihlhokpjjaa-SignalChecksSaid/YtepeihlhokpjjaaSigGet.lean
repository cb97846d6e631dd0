/- What stands where a signal's bits stand. Conditions: those that each lemma names. -/
import Derived.Test.YtepeihlhokpjjaaPx
namespace Go.Proofs.Ytepeihlhokpjjaa.P
open Go.RowKit Go.Proofs.YtepeihlhokpjjaaW.PrintWords Go.Proofs.YtepeihlhokpjjaaW.PrintLast Go.Proofs.YtepeihlhokpjjaaW.PrintMore
set_option linter.unusedVariables false
set_option linter.unusedSimpArgs false
def Sg.of (x : S23) : Sg := ⟨x.f0, x.f1, x.f2, x.f3, x.f4, x.f5⟩
def bytesA (d : List Int) : Array Value := (d.map (Value.int .u8)).toArray
theorem bytesA_at {w : World} {g : Nat} {d : List Int} (h : w.heap[g]? = some (.cells (bytesA d) 24 (0, 0))) (q : Int) (h0 : 0 ≤ q) (h1 : q < d.length) : w.cell? ⟨g, q.toNat, none⟩ = some (.int .u8 (rd d q)) := by
  rw [blk_cell h]
  unfold bytesA
  have : q.toNat < d.length := by omega
  simp [this, rd]
/-- Every place lies within 64 bits. -/
theorem goL_range (big : Bool) : ∀ (k : Nat) (a : Int), ∀ x ∈ goL big k a, 0 ≤ x ∧ x < 64
  | 0, _, x, h => by cases h
  | k + 1, a, x, h => by
    unfold goL at h
    split at h
    · rcases List.mem_cons.1 h with rfl | h
      · assumption
      · exact goL_range big k _ x h
    · cases h
theorem placesV_range (s : Sg) : ∀ x ∈ placesV s, 0 ≤ x ∧ x < 64 := by
  intro x h
  unfold placesV at h
  split at h
  · cases h
  · split at h
    · exact goL_range _ _ _ x (List.mem_reverse.1 h)
    · exact goL_range _ _ _ x h
theorem placesV_len (s : Sg) : (placesV s).length ≤ 64 := by
  unfold placesV
  split
  · exact Nat.zero_le _
  · split
    · rw [List.length_reverse]
      exact walkL_len s
    · exact walkL_len s
/-- One bit that is got. -/
def getS (d : List Int) (a : Int) (i : Int) (n : Int) : Int := Go.bits .or .i64 n (wrap64 (wrap64 (Go.bits .and .u8 (rd d (Int.tdiv a 8) / 2 ^ min (IntKind.u64.wrap (Int.tmod a 8)).toNat 8) 1) * 2 ^ min (IntKind.u64.wrap i).toNat 64))
def getL (d : List Int) : List Int → Nat → Int → Int
  | [], _, n => n
  | a :: r, i, n => getL d r (i + 1) (getS d a (i : Int) n)
/-- Bytes and a signal in memory, the call's own. -/
structure Gb (d : List Int) (s : Sg) (b1 b2 : Nat) (w W : World) : Prop where
  kd : W.heap[b1]? = some (.cells (bytesA d) 24 (0, 0))
  ks : W.heap[b2]? = some s.cs
  B : Below w.heap.size w W
theorem Gb.below {d : List Int} {s : Sg} {b1 b2 : Nat} {w W W' : World} (h : Gb d s b1 b2 w W) (hb : Below W.heap.size W W') : Gb d s b1 b2 w W' := ⟨blk_below h.kd hb, blk_below h.ks hb, below_step h.B hb⟩
theorem Gb.made (d : List Int) (s : Sg) (w : World) : Gb d s w.heap.size (w.heap.size + 1) w ((w.alloc (.cells (bytesA d) 24)).alloc s.cs) :=
  ⟨blk_below (blk_new w _) (below_alloc (Below.refl _ _) _), blk_new2 _ _ _, below_alloc (below_alloc (Below.refl _ _) _) _⟩
/-- What is got, before its sign. -/
def getN (d l : List Int) : Int := getL d l 0 0
def getV (d : List Int) (s : Sg) : Int :=
  let l := placesV s
  let n := getN d l
  if s.sgn = true ∧ (l.length : Int) > 0 then wrap64 (n * 2 ^ min (IntKind.u64.wrap (64 - (l.length : Int))).toNat 64) / 2 ^ min (IntKind.u64.wrap (64 - (l.length : Int))).toNat 64 else n
theorem drop_rd {l : List Int} {k : Nat} (h : k < l.length) : l.drop k = rd l (k : Int) :: l.drop (k + 1) := by
  rw [List.drop_eq_getElem_cons h]
  congr 1
  simp [rd, h]
theorem rd_mem {l : List Int} {k : Nat} (h : k < l.length) : rd l (k : Int) ∈ l := by
  have : rd l (k : Int) = l[k] := by simp [rd, h]
  rw [this]
  exact List.getElem_mem h
set_option maxHeartbeats 4000000 in
set_option maxRecDepth 100000 in
theorem Get_walk (d : List Int) (hd : d.length = 8) (s : Sg) (w : World) : Calls Try.prog 22 #[.agg (bytesA d), s.g] w fun e w' => e = .returned (.int .i64 (getV d s)) ∧ Below w.heap.size w w' := by
  have hu23 := Try.underlying23
  have hu24 := Try.underlying24
  have hu35 := Try.underlying35
  have PC := Aside0.mk (Places_walk s)
  have PR := Aside0.mk (placesV_range s)
  have PL := Aside0.mk (placesV_len s)
  have GV : Aside0 (getV d s = if s.sgn = true ∧ ((placesV s).length : Int) > 0 then wrap64 (getN d (placesV s) * 2 ^ min (IntKind.u64.wrap (64 - ((placesV s).length : Int))).toNat 64) / 2 ^ min (IntKind.u64.wrap (64 - ((placesV s).length : Int))).toNat 64 else (getN d (placesV s))) := ⟨rfl⟩
  generalize getV d s = r at GV ⊢
  generalize placesV s = l at PC PR PL GV
  have D8 := Aside0.mk hd
  clear hd
  have Z := Aside0.mk (Gb.made d s w)
  go_enter Try.func22, Try.ntmps22
  go_wp2_with fail
  (with_reducible refine (PC.out _).mono ?_)
  rintro e W ⟨v, rfl, hR, _, hb⟩
  obtain ⟨A, cp, ev, hl, hC0⟩ := Kd.R_reads hR
  subst ev
  have Z2 := Aside0.mk (Z.out.below hb)
  have HC := Aside0.mk hC0
  clear Z hb hR hC0
  have Z := Z2
  clear Z2
  obtain ⟨N, hN⟩ : ∃ N, getN d l = N := ⟨_, rfl⟩
  rw [hN] at GV
  have H0 : Aside0 (getL d (l.drop 0) 0 0 = N) := ⟨hN⟩
  clear hN
  go_wp2
  go_loopg [6, 14] (l.length + 1) (fun kq v6 v14 w' => ∃ (k : Nat) (n : Int), v6 = .int .i64 n ∧ v14 = .int .i64 (k : Int) ∧ Aside0 (k ≤ l.length ∧ l.length < k + kq) ∧ Aside0 (getL d (l.drop k) k n = N) ∧ Aside0 (Gb d s w.heap.size (w.heap.size + 1) w w') ∧ Aside0 ((Kd.int .i64).C w' A l.length l))
  case atStart => exact ⟨0, 0, rfl, rfl, ⟨by omega⟩, H0, Z, HC⟩
  case round =>
    clear H0 Z HC
    obtain ⟨k, n, rfl, rfl, HK, HL, Z, HC⟩ := hrel
    cases gk with
    | zero => exact absurd HK.out (by omega)
    | succ k1 =>
      by_cases hlt : k < l.length
      · have u1 : decide ((k : Int) < (l.length : Int)) = true := decide_eq_true (by omega)
        have u1b : decide (k < l.length) = true := decide_eq_true hlt
        have p1 : (0 ≤ (k : Int)) = True := eq_true (by omega)
        have q1 : ((k : Int) < (l.length : Int)) = True := eq_true (by omega)
        obtain ⟨ad, ea, hx⟩ := Kd.at_int HC.out (k : Int) (by omega) (by omega)
        cases ea
        rw [Int.toNat_natCast] at hx
        have hrg := PR.out _ (rd_mem hlt)
        have HL2 : Aside0 (getL d (l.drop (k + 1)) (k + 1) (getS d (rd l (k : Int)) (k : Int) n) = N) := ⟨by
          have := HL.out
          rw [drop_rd hlt] at this
          exact this⟩
        generalize rd l (k : Int) = a at hx hrg HL2
        have t1 : 0 ≤ Int.tdiv a 8 ∧ Int.tdiv a 8 < 8 := by rw [Int.tdiv_eq_ediv_of_nonneg hrg.1]; omega
        have hby := bytesA_at Z.out.kd (Int.tdiv a 8) t1.1 (by rw [D8.out]; exact t1.2)
        have p2 : (0 ≤ Int.tdiv a 8) = True := eq_true t1.1
        have q2 : (Int.tdiv a 8 < 8) = True := eq_true t1.2
        have e8 : wrap64 (Int.tdiv a 8) = Int.tdiv a 8 := wr_small _ (by omega) (by omega)
        have k1' : wrap64 ((k : Int) + 1) = ((k + 1 : Nat) : Int) := by rw [wr_small _ (by omega) (by have := PL.out; omega)]; rfl
        clear t1 hrg
        go_wp2
        go_roundg k1
        case rel => exact ⟨k + 1, _, rfl, by rw [k1'], ⟨by have := HK.out; omega⟩, HL2, Z, HC⟩
        case measure => omega
      · have u1 : decide ((k : Int) < (l.length : Int)) = false := decide_eq_false (by omega)
        have u1b : decide (k < l.length) = false := decide_eq_false hlt
        have EN : Aside0 (n = N) := ⟨by
          have := HL.out
          rw [show k = l.length by have := HK.out; omega, List.drop_length] at this
          exact this⟩
        have c3 : wr.cell? ⟨w.heap.size + 1, 3, none⟩ = some (.bool s.sgn) := (blk_cell Z.out.ks 3).trans rfl
        clear hlt HL
        by_cases hs : s.sgn = true
        · rw [hs] at c3
          by_cases hp : (l.length : Int) > 0
          · have u2 : decide ((l.length : Int) > 0) = true := decide_eq_true hp
            have u2b : decide (l.length > 0) = true := decide_eq_true (by omega)
            have e9 : wrap64 (64 - (l.length : Int)) = 64 - (l.length : Int) := wr_small _ (by have := PL.out; omega) (by omega)
            have ER := GV.out
            rw [if_pos ⟨hs, hp⟩] at ER
            have ER := Aside0.mk ER
            clear hs hp
            go_wp2
            go_ret
            exact ⟨by rw [ER.out, ← EN.out]; rfl, Z.out.B⟩
          · have u2 : decide ((l.length : Int) > 0) = false := decide_eq_false hp
            have u2b : decide (l.length > 0) = false := decide_eq_false (by omega)
            have ER := GV.out
            rw [if_neg (fun h => hp h.2)] at ER
            have ER := Aside0.mk ER
            clear hs hp
            go_wp2
            go_ret
            exact ⟨by rw [ER.out, EN.out]; rfl, Z.out.B⟩
        · have hs2 : s.sgn = false := by simpa using hs
          rw [hs2] at c3
          have ER := GV.out
          rw [if_neg (fun h => hs h.1)] at ER
          have ER := Aside0.mk ER
          clear hs hs2
          go_wp2
          go_ret
          exact ⟨by rw [ER.out, EN.out]; rfl, Z.out.B⟩
end Go.Proofs.Ytepeihlhokpjjaa.P
