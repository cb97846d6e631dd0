/- A shift moves what a clock has by just so much, a new rate by nothing: the walk, for every acts and one more. Condition: the slice's cells can be read. -/
import Derived.Test.YtamdilpcjcmomaaClockActs
namespace Go.Proofs.Ytamdilpcjcmomaa.P
open Go.RowKit Go.Proofs.YtamdilpcjcmomaaW.PrintWords Go.Proofs.YtamdilpcjcmomaaW.PrintLast Go.Proofs.YtamdilpcjcmomaaW.PrintMore
set_option linter.unusedVariables false
set_option linter.unusedSimpArgs false
theorem look_here (c n k : Int) (h : wi n = true) : lookV c n k c = (n, true) := by
  have e : (c - c) * k / 1048576 = 0 := by rw [Int.sub_self, Int.zero_mul]; rfl
  unfold lookV
  rw [e, Int.sub_self, Int.zero_add, if_pos ⟨by unfold In64; omega, by unfold In64; omega, h⟩]
/-- What one more shift, and a new rate, come to. -/
theorem moves_plain (r b k a y k' : Int) (h0 : 1044480 ≤ k') (h1 : k' ≤ 1052672) : ∃ (t0 : Int) (ok : Bool) (e1 r1 b1 k1 t1 : Int) (is : Bool) (e2 r2 b2 k2 : Int), lookV r b k a = (t0, ok) ∧ onV r b k a y k = (e1, r1, b1, k1) ∧ lookV r1 b1 k1 a = (t1, is) ∧ tuneV r1 b1 k1 a k' = (e2, r2, b2, k2) ∧ lookV r2 b2 k2 a = (t1, is) ∧
    ((e1 = 0 ∧ ok = true ∧ is = true ∧ t1 - t0 = y ∧ wi t1 = true ∧ wi t0 = true) ∨ (e1 = 9 ∧ t1 = t0 ∧ is = ok)) ∧ ((is = true ∧ e2 = 0) ∨ (is = false ∧ e2 = 9)) := by
  have tune : ∀ (r1 b1 k1 t1 : Int) (is : Bool), lookV r1 b1 k1 a = (t1, is) → ∃ e2 r2 b2 k2, tuneV r1 b1 k1 a k' = (e2, r2, b2, k2) ∧ lookV r2 b2 k2 a = (t1, is) ∧ ((is = true ∧ e2 = 0) ∨ (is = false ∧ e2 = 9)) := fun r1 b1 k1 t1 is hl => by
    unfold tuneV onV
    rw [if_pos ⟨h0, h1⟩, hl]
    cases is with
    | true =>
      have hw := look_ok hl
      rw [if_pos (by simp only [Int.add_zero, true_and]; exact hw)]
      exact ⟨0, a, t1 + 0, k', rfl, by rw [Int.add_zero]; exact look_here a t1 k' hw, .inl ⟨rfl, rfl⟩⟩
    | false =>
      rw [if_neg (by simp)]
      exact ⟨9, r1, b1, k1, rfl, hl, .inr ⟨rfl, rfl⟩⟩
  rcases hl : lookV r b k a with ⟨t0, ok⟩
  by_cases c : ok = true ∧ wi (t0 + y) = true
  · obtain ⟨rfl, c2⟩ := c
    have hh := look_here a (t0 + y) k c2
    obtain ⟨e2, r2, b2, k2, g1, g2, g3⟩ := tune a (t0 + y) k (t0 + y) true hh
    exact ⟨t0, true, 0, a, t0 + y, k, t0 + y, true, e2, r2, b2, k2, rfl, by unfold onV; rw [hl, if_pos ⟨rfl, c2⟩], hh, g1, g2, .inl ⟨rfl, rfl, rfl, by omega, c2, look_ok hl⟩, g3⟩
  · obtain ⟨e2, r2, b2, k2, g1, g2, g3⟩ := tune r b k t0 ok hl
    exact ⟨t0, ok, 9, r, b, k, t0, ok, e2, r2, b2, k2, rfl, by unfold onV; rw [hl, if_neg c], hl, g1, g2, .inr ⟨rfl, rfl, rfl⟩, g3⟩
set_option maxHeartbeats 8000000 in
set_option maxRecDepth 100000 in
theorem Moves_yes (A : Option Addr) (len cap : Nat) (a y m k' : Int) (w : World) (h : Acts w A len) (ha : In64 a) (hy : In64 y) (e1 : Int.tmod y 4097 = m) (e2 : wrap64 (1048576 + m) = k') (h0 : 1044480 ≤ k') (h1 : k' ≤ 1052672) :
    Calls Try.prog 5 #[.slice A len cap, .int .i64 a, .int .i64 y] w fun e w' => e = .returned (.bool true) ∧ Below w.heap.size w w' := by
  have HR := Aside0.mk h
  have HA := Aside0.mk (And.intro ha hy)
  have HK := Aside0.mk (And.intro h0 h1)
  clear h ha hy h0 h1
  have hu28 := Try.underlying28
  go_enter Try.func5, Try.ntmps5
  go_wp2_with fail
  refine (New_calls _).mono ?_
  rintro e w1 ⟨g, hg, rfl, h1, hb1⟩
  have ST1 : Aside0 (C1 44 w w1 g 0 0 1048576 0) := ⟨⟨h1, by decide, by decide, by decide, by decide, hb1, hg⟩⟩
  clear hg h1 hb1
  go_wp2
  go_loopg [8] 40 (fun kq v8 w' => ∃ (i r b k l : Int), v8 = .int .i64 i ∧ Aside0 (0 ≤ i ∧ i + kq = 40) ∧ Aside0 (C1 44 w w' g r b k l))
  case atStart => exact ⟨0, 0, 0, 1048576, 0, rfl, ⟨by omega⟩, ST1⟩
  case round =>
    obtain ⟨i, r, b, k, l, rfl, HI, ST⟩ := hrel
    clear ST1
    by_cases t1 : i < (len : Int)
    · have u1 : decide (i < (len : Int)) = true := decide_eq_true t1
      by_cases t2 : i < 40
      · have u2 : decide (i < 40) = true := decide_eq_true t2
        obtain ⟨kr, rfl⟩ : ∃ kr, gk = kr + 1 := ⟨gk - 1, by have := HI.out; omega⟩
        have hlt : i.toNat < len := by have := HI.out; omega
        obtain ⟨ad, z0, z1, z2, rfl, a0, a1, a2, j0, j1, j2⟩ := HR.out i.toNat hlt
        obtain ⟨b1, b2⟩ := act_cells a1 a2
        have JJ := Aside0.mk (And.intro j0 (And.intro j1 j2))
        have AA := Aside0.mk (And.intro a0 (And.intro b1 b2))
        clear a0 a1 a2 b1 b2
        have c0 := pw_cell_below ST.out.B AA.out.1
        have c1 := pw_cell_below ST.out.B AA.out.2.1
        have c2 := pw_cell_below ST.out.B AA.out.2.2
        have HI' : Aside0 (0 ≤ i + 1 ∧ i + 1 + kr = 40) := ⟨by have := HI.out; omega⟩
        have hi1 : wrap64 (i + 1) = i + 1 := wr64 _ (by have := HI.out; omega) (by have := HI.out; omega)
        have p0 : (0 ≤ i) = True := eq_true HI.out.1
        have q0 : (i < (len : Int)) = True := eq_true t1
        clear hlt t1 t2 j0 j1 j2
        by_cases y2 : z0 = 2
        · have v2 : (z0 == 2) = true := by rw [y2]; rfl
          have v3 : (z0 == 3) = false := by rw [y2]; rfl
          clear y2
          obtain ⟨f1, r1, b1, kk, ho⟩ : ∃ f1 r1 b1 kk, onV r b k z1 z2 k = (f1, r1, b1, kk) := ⟨_, _, _, _, rfl⟩
          have HO := Aside0.mk ho
          clear ho
          have N64 := Aside0.mk (on_64 HO.out ST.out.r ST.out.b ST.out.k JJ.out.2.1 ST.out.k)
          go_wp2_with fail
          go_region_held3 (fun w' => w'.cell? ⟨(ad.add (i.toNat * 3)).block, (ad.add (i.toNat * 3)).off + 1, none⟩ = some (.int .i64 z1) ∧ w'.cell? ⟨(ad.add (i.toNat * 3)).block, (ad.add (i.toNat * 3)).off + 2, none⟩ = some (.int .i64 z2)) (go_keep)
            (first
              | (go_at_call 11; (with_reducible refine (Shift_calls g r b k l z1 z2 f1 r1 b1 kk _ ST.out.drew.c ST.out.r ST.out.b ST.out.k JJ.out.2.1 JJ.out.2.2 HO.out).mono ?_); rintro e w5 hp; have ST5 := Aside0.mk (ST.out.drew.step hp N64.out.1 N64.out.2.1 N64.out.2.2 ST.out.l); obtain rfl := hp.1; clear hp c0 c1 c2; have c0 := pw_cell_below ST5.out.B AA.out.1; have c1 := pw_cell_below ST5.out.B AA.out.2.1; have c2 := pw_cell_below ST5.out.B AA.out.2.2))
          go_wp2
          go_roundg kr
          case measure => omega
          case rel => exact ⟨i + 1, r1, b1, kk, l, by rw [hi1], HI', ST5⟩
        have v2 : (z0 == 2) = false := by rw [beq_eq_false_iff_ne]; exact y2
        clear y2
        by_cases y3 : z0 = 3
        · have v3 : (z0 == 3) = true := by rw [y3]; rfl
          clear y3
          obtain ⟨f1, r1, b1, kk, ho⟩ : ∃ f1 r1 b1 kk, tuneV r b k z1 z2 = (f1, r1, b1, kk) := ⟨_, _, _, _, rfl⟩
          have HO := Aside0.mk ho
          clear ho
          have N64 := Aside0.mk (tune_64 HO.out ST.out.r ST.out.b ST.out.k JJ.out.2.1)
          go_wp2_with fail
          go_region_held3 (fun w' => w'.cell? ⟨(ad.add (i.toNat * 3)).block, (ad.add (i.toNat * 3)).off + 1, none⟩ = some (.int .i64 z1) ∧ w'.cell? ⟨(ad.add (i.toNat * 3)).block, (ad.add (i.toNat * 3)).off + 2, none⟩ = some (.int .i64 z2)) (go_keep)
            (first
              | (go_at_call 13; (with_reducible refine (Tune_calls g r b k l z1 z2 f1 r1 b1 kk _ ST.out.drew.c ST.out.r ST.out.b ST.out.k JJ.out.2.1 HO.out).mono ?_); rintro e w5 hp; have ST5 := Aside0.mk (ST.out.drew.step hp N64.out.1 N64.out.2.1 N64.out.2.2 ST.out.l); obtain rfl := hp.1; clear hp c0 c1 c2; have c0 := pw_cell_below ST5.out.B AA.out.1; have c1 := pw_cell_below ST5.out.B AA.out.2.1; have c2 := pw_cell_below ST5.out.B AA.out.2.2))
          go_wp2
          go_roundg kr
          case measure => omega
          case rel => exact ⟨i + 1, r1, b1, kk, l, by rw [hi1], HI', ST5⟩
        have v3 : (z0 == 3) = false := by rw [beq_eq_false_iff_ne]; exact y3
        clear y3
        go_wp2
        go_roundg kr
        case measure => omega
        case rel => exact ⟨i + 1, r, b, k, l, by rw [hi1], HI', ST⟩
      · have u2 : decide (i < 40) = false := decide_eq_false t2
        clear t1 t2
        obtain ⟨t0, ok, f1, r1, b1, kk, q1, is, f2, r2, b2, k2, h1, h2, h3, h4, h5, hs, ht⟩ := moves_plain r b k a y k' HK.out.1 HK.out.2
        have H1 := Aside0.mk h1
        have H2 := Aside0.mk h2
        have H3 := Aside0.mk h3
        have H4 := Aside0.mk h4
        have H5 := Aside0.mk h5
        have N64 := Aside0.mk (on_64 h2 ST.out.r ST.out.b ST.out.k HA.out.1 ST.out.k)
        have M64 := Aside0.mk (tune_64 h4 N64.out.1 N64.out.2.1 N64.out.2.2 HA.out.1)
        have HT := Aside0.mk ht
        have ne0 : (q1 != q1) = false := by simp
        have ne1 : (is != is) = false := by cases is <;> rfl
        have ne2 : (y != y) = false := by simp
        have ne3 : (q1 == q1) = true := by simp
        have ne4 : (is == is) = true := by simp
        clear h1 h2 h3 h4 h5 ht
        have part : ∀ P : Prop, ((f1 = 0 ∧ ok = true ∧ is = true ∧ wrap64 (q1 - t0) = y) → P) → ((f1 = 9 ∧ q1 = t0 ∧ is = ok) → P) → P := fun P p1 p2 => by
          rcases hs with ⟨x1, x2, x3, x4, x5, x6⟩ | x
          · have := wi_bounds x5
            have := wi_bounds x6
            exact p1 ⟨x1, x2, x3, by rw [wr64 _ (by omega) (by omega)]; exact x4⟩
          · exact p2 x
        clear hs
        refine part _ ?_ ?_
        case' refine_1 =>
          rintro ⟨rfl, rfl, rfl, x4⟩
          obtain rfl : f2 = 0 := by rcases HT.out with x | x; exact x.2; cases x.1
        case' refine_2 =>
          rintro ⟨rfl, rfl, rfl⟩
          rcases HT.out with ⟨rfl, rfl⟩ | ⟨rfl, rfl⟩
        all_goals
          clear part
          go_wp2_with fail
          refine (Look_calls g r b k l a _ _ _ ST.out.c ST.out.r ST.out.b ST.out.k HA.out.1 H1.out).mono ?_
          rintro e w5 ⟨rfl, hb⟩
          have ST5 := Aside0.mk (ST.out.below hb); clear hb
          go_wp2_with fail
          refine (Shift_calls g r b k l a y _ r1 b1 kk _ ST5.out.c ST.out.r ST.out.b ST.out.k HA.out.1 HA.out.2 H2.out).mono ?_
          rintro e w6 hp
          have ST6 := Aside0.mk (ST5.out.step hp N64.out.1 N64.out.2.1 N64.out.2.2 ST.out.l)
          obtain rfl := hp.1
          clear hp
          go_wp2_with fail
          refine (Look_calls g r1 b1 kk l a _ _ _ ST6.out.c N64.out.1 N64.out.2.1 N64.out.2.2 HA.out.1 H3.out).mono ?_
          rintro e w7 ⟨rfl, hb⟩
          have ST7 := Aside0.mk (ST6.out.below hb); clear hb
          go_wp2_with fail
          refine (Tune_calls g r1 b1 kk l a k' _ r2 b2 k2 _ ST7.out.c N64.out.1 N64.out.2.1 N64.out.2.2 HA.out.1 H4.out).mono ?_
          rintro e w8 hp
          have ST8 := Aside0.mk (ST7.out.step hp M64.out.1 M64.out.2.1 M64.out.2.2 ST.out.l)
          obtain rfl := hp.1
          clear hp
          go_wp2_with fail
          refine (Look_calls g r2 b2 k2 l a _ _ _ ST8.out.c M64.out.1 M64.out.2.1 M64.out.2.2 HA.out.1 H5.out).mono ?_
          rintro e w9 ⟨rfl, hb⟩
          have ST9 := Aside0.mk (ST8.out.below hb); clear hb
          go_wp2_with fail
          (with_reducible refine (live_walk _).mono ?_); rintro e w10 ⟨rfl, hb⟩
          have ST10 := Aside0.mk (ST9.out.below hb); clear hb
          go_wp2_with fail
          go_ret
          exact ⟨rfl, ST10.out.B⟩
    · have u1 : decide (i < (len : Int)) = false := decide_eq_false t1
      clear t1
      obtain ⟨t0, ok, f1, r1, b1, kk, q1, is, f2, r2, b2, k2, h1, h2, h3, h4, h5, hs, ht⟩ := moves_plain r b k a y k' HK.out.1 HK.out.2
      have H1 := Aside0.mk h1
      have H2 := Aside0.mk h2
      have H3 := Aside0.mk h3
      have H4 := Aside0.mk h4
      have H5 := Aside0.mk h5
      have N64 := Aside0.mk (on_64 h2 ST.out.r ST.out.b ST.out.k HA.out.1 ST.out.k)
      have M64 := Aside0.mk (tune_64 h4 N64.out.1 N64.out.2.1 N64.out.2.2 HA.out.1)
      have HT := Aside0.mk ht
      have ne0 : (q1 != q1) = false := by simp
      have ne1 : (is != is) = false := by cases is <;> rfl
      have ne2 : (y != y) = false := by simp
      have ne3 : (q1 == q1) = true := by simp
      have ne4 : (is == is) = true := by simp
      clear h1 h2 h3 h4 h5 ht
      have part : ∀ P : Prop, ((f1 = 0 ∧ ok = true ∧ is = true ∧ wrap64 (q1 - t0) = y) → P) → ((f1 = 9 ∧ q1 = t0 ∧ is = ok) → P) → P := fun P p1 p2 => by
        rcases hs with ⟨x1, x2, x3, x4, x5, x6⟩ | x
        · have := wi_bounds x5
          have := wi_bounds x6
          exact p1 ⟨x1, x2, x3, by rw [wr64 _ (by omega) (by omega)]; exact x4⟩
        · exact p2 x
      clear hs
      refine part _ ?_ ?_
      case' refine_1 =>
        rintro ⟨rfl, rfl, rfl, x4⟩
        obtain rfl : f2 = 0 := by rcases HT.out with x | x; exact x.2; cases x.1
      case' refine_2 =>
        rintro ⟨rfl, rfl, rfl⟩
        rcases HT.out with ⟨rfl, rfl⟩ | ⟨rfl, rfl⟩
      all_goals
        clear part
        go_wp2_with fail
        refine (Look_calls g r b k l a _ _ _ ST.out.c ST.out.r ST.out.b ST.out.k HA.out.1 H1.out).mono ?_
        rintro e w5 ⟨rfl, hb⟩
        have ST5 := Aside0.mk (ST.out.below hb); clear hb
        go_wp2_with fail
        refine (Shift_calls g r b k l a y _ r1 b1 kk _ ST5.out.c ST.out.r ST.out.b ST.out.k HA.out.1 HA.out.2 H2.out).mono ?_
        rintro e w6 hp
        have ST6 := Aside0.mk (ST5.out.step hp N64.out.1 N64.out.2.1 N64.out.2.2 ST.out.l)
        obtain rfl := hp.1
        clear hp
        go_wp2_with fail
        refine (Look_calls g r1 b1 kk l a _ _ _ ST6.out.c N64.out.1 N64.out.2.1 N64.out.2.2 HA.out.1 H3.out).mono ?_
        rintro e w7 ⟨rfl, hb⟩
        have ST7 := Aside0.mk (ST6.out.below hb); clear hb
        go_wp2_with fail
        refine (Tune_calls g r1 b1 kk l a k' _ r2 b2 k2 _ ST7.out.c N64.out.1 N64.out.2.1 N64.out.2.2 HA.out.1 H4.out).mono ?_
        rintro e w8 hp
        have ST8 := Aside0.mk (ST7.out.step hp M64.out.1 M64.out.2.1 M64.out.2.2 ST.out.l)
        obtain rfl := hp.1
        clear hp
        go_wp2_with fail
        refine (Look_calls g r2 b2 k2 l a _ _ _ ST8.out.c M64.out.1 M64.out.2.1 M64.out.2.2 HA.out.1 H5.out).mono ?_
        rintro e w9 ⟨rfl, hb⟩
        have ST9 := Aside0.mk (ST8.out.below hb); clear hb
        go_wp2_with fail
        (with_reducible refine (live_walk _).mono ?_); rintro e w10 ⟨rfl, hb⟩
        have ST10 := Aside0.mk (ST9.out.below hb); clear hb
        go_wp2_with fail
        go_ret
        exact ⟨rfl, ST10.out.B⟩
theorem ClockMoves_walk (A : Option Addr) (len cap : Nat) (a1 a2 : Int) (w : World) (h : (A = none ∧ len = 0 ∧ cap = 0) ∨ ∃ x, A = some x ∧ len ≤ cap ∧ cap ≤ maxLen ∧ ∀ i, i < len → ∃ (z0 : Int) (z1 : Int) (z2 : Int), w.cell? (x.add (i * 3 + 0)) = some (.int .i64 z0) ∧ w.cell? (x.add (i * 3 + 1)) = some (.int .i64 z1) ∧ w.cell? (x.add (i * 3 + 2)) = some (.int .i64 z2) ∧ (Lit.int .i64 z0).wf = true ∧ (Lit.int .i64 z1).wf = true ∧ (Lit.int .i64 z2).wf = true) (w1 : (Lit.int .i64 a1).wf = true) (w2 : (Lit.int .i64 a2).wf = true) :
    Calls Try.prog 5 #[.slice A len cap, .int .i64 a1, .int .i64 a2] w fun e w' => e = .returned (.bool true) ∧ Below w.heap.size w w' := by
  have h1 := Int.tmod_lt_of_pos a2 (show (0 : Int) < 4097 by omega)
  have h2 := Int.lt_tmod_of_pos a2 (show (0 : Int) < 4097 by omega)
  exact Moves_yes A len cap a1 a2 _ _ w (acts_row h) (wf64 w1) (wf64 w2) rfl (wr64 _ (by omega) (by omega)) (by omega) (by omega)
end Go.Proofs.Ytamdilpcjcmomaa.P
