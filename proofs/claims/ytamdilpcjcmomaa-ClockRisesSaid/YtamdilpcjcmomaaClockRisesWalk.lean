/- Whatever is shifted and tuned, and wherever it is read, a clock never goes back: the walk, for every acts. Condition: the slice's cells can be read. -/
import Derived.Test.YtamdilpcjcmomaaClockActs
namespace Go.Proofs.Ytamdilpcjcmomaa.P
open Go.RowKit Go.Proofs.YtamdilpcjcmomaaW.PrintWords Go.Proofs.YtamdilpcjcmomaaW.PrintLast Go.Proofs.YtamdilpcjcmomaaW.PrintMore
set_option linter.unusedVariables false
set_option linter.unusedSimpArgs false
set_option maxHeartbeats 4000000 in
set_option maxRecDepth 100000 in
theorem Rises_yes (A : Option Addr) (len cap : Nat) (w : World) (h : Acts w A len) : Calls Try.prog 4 #[.slice A len cap] w fun e w' => e = .returned (.bool true) ∧ Below w.heap.size w w' := by
  have HR := Aside0.mk h
  clear h
  have hu28 := Try.underlying28
  go_enter Try.func4, Try.ntmps4
  go_wp2_with fail
  refine (New_calls _).mono ?_
  rintro e w1 ⟨g, hg, rfl, h1, hb1⟩
  have ST1 : Aside0 (C1 44 w w1 g 0 0 1048576 0) := ⟨⟨h1, by decide, by decide, by decide, by decide, hb1, hg⟩⟩
  clear hg h1 hb1
  go_wp2
  go_loopg [4, 5] 80 (fun kq v4 v5 w' => ∃ (i r b k l : Int), v5 = .int .i64 i ∧ v4 = .int .i64 l ∧ Aside0 (0 ≤ i ∧ i + kq = 80) ∧ Aside0 (C1 44 w w' g r b k l))
  case atStart => exact ⟨0, 0, 0, 1048576, 0, rfl, rfl, ⟨by omega⟩, ST1⟩
  case round =>
    obtain ⟨i, r, b, k, l, rfl, rfl, HI, ST⟩ := hrel
    clear ST1
    by_cases t1 : i < (len : Int)
    · have u1 : decide (i < (len : Int)) = true := decide_eq_true t1
      by_cases t2 : i < 80
      · have u2 : decide (i < 80) = true := decide_eq_true t2
        obtain ⟨k1, rfl⟩ : ∃ k1, gk = k1 + 1 := ⟨gk - 1, by have := HI.out; omega⟩
        have hlt : i.toNat < len := by have := HI.out; omega
        obtain ⟨ad, z0, z1, z2, rfl, a0, a1, a2, j0, j1, j2⟩ := (HR.out.below ST.out.B) i.toNat hlt
        obtain ⟨b1, b2⟩ := act_cells a1 a2
        have JJ := Aside0.mk (And.intro j0 (And.intro j1 j2))
        have HI' : Aside0 (0 ≤ i + 1 ∧ i + 1 + k1 = 80) := ⟨by have := HI.out; omega⟩
        have hi1 : wrap64 (i + 1) = i + 1 := wr64 _ (by have := HI.out; omega) (by have := HI.out; omega)
        have p0 : (0 ≤ i) = True := eq_true HI.out.1
        have q0 : (i < (len : Int)) = True := eq_true t1
        have HNE : Aside0 (wr.heap.size ≠ g) := ⟨by have := blk_lt ST.out.c; omega⟩
        clear hlt t1 t2 j0 j1 j2
        have BX : Aside0 ((wr.alloc (.cells #[.int .i64 z0, .int .i64 z1, .int .i64 z2] 28)).heap[wr.heap.size]? = some (.cells #[.int .i64 z0, .int .i64 z1, .int .i64 z2] 28 (0, 0))) := ⟨blk_new wr _⟩
        have ST2 := Aside0.mk (ST.out.alloc (.cells #[.int .i64 z0, .int .i64 z1, .int .i64 z2] 28))
        by_cases y2 : z0 = 2
        · have v2 : (z0 == 2) = true := by rw [y2]; rfl
          clear y2
          obtain ⟨e1, r1, b1, kk, ho⟩ : ∃ e1 r1 b1 kk, onV r b k z1 z2 k = (e1, r1, b1, kk) := ⟨_, _, _, _, rfl⟩
          have HO := Aside0.mk ho
          clear ho
          go_wp2_with fail
          refine (Shift_calls g r b k l z1 z2 e1 r1 b1 kk _ ST2.out.c ST.out.r ST.out.b ST.out.k JJ.out.2.1 JJ.out.2.2 HO.out).mono ?_
          rintro e w5 hp
          have n64 := on_64 HO.out ST.out.r ST.out.b ST.out.k JJ.out.2.1 ST.out.k
          have ST5 := Aside0.mk (C1.step ST2.out hp n64.1 n64.2.1 n64.2.2 ST.out.l)
          have BX5 := Aside0.mk (hp.box BX.out HNE.out)
          obtain rfl := hp.1
          clear hp n64 BX ST2 ST
          obtain ⟨d0, d1, d2⟩ := cells3k BX5.out
          obtain ⟨t, ok, hlk⟩ : ∃ t ok, lookV r1 b1 kk z1 = (t, ok) := ⟨_, _, rfl⟩
          have HLK := Aside0.mk hlk
          clear hlk
          obtain ⟨l', hl'⟩ : ∃ l', readV l t ok = l' := ⟨_, rfl⟩
          have h64 : Aside0 (In64 l') := ⟨hl' ▸ read_64 HLK.out ST5.out.l⟩
          have hle : decide (l' < l) = false := decide_eq_false (by have := read_le l t ok; omega)
          have HL' := Aside0.mk hl'
          clear hl'
          go_wp2_with fail
          refine (Read_to g r1 b1 kk l z1 t l' ok _ ST5.out.c ST5.out.r ST5.out.b ST5.out.k JJ.out.2.1 HLK.out HL'.out).mono ?_
          rintro e w9 hp
          have ST9 := Aside0.mk (C1.step ST5.out hp ST5.out.r ST5.out.b ST5.out.k h64.out)
          obtain rfl := hp.1
          clear hp
          go_wp2
          go_roundg k1
          case measure => omega
          case rel => exact ⟨i + 1, r1, b1, kk, l', by rw [hi1], rfl, HI', ST9⟩
        · have v2 : (z0 == 2) = false := by rw [beq_eq_false_iff_ne]; exact y2
          clear y2
          by_cases y3 : z0 = 3
          · have v3 : (z0 == 3) = true := by rw [y3]; rfl
            clear y3
            obtain ⟨e1, r1, b1, kk, ho⟩ : ∃ e1 r1 b1 kk, tuneV r b k z1 z2 = (e1, r1, b1, kk) := ⟨_, _, _, _, rfl⟩
            have HO := Aside0.mk ho
            clear ho
            go_wp2_with fail
            refine (Tune_calls g r b k l z1 z2 e1 r1 b1 kk _ ST2.out.c ST.out.r ST.out.b ST.out.k JJ.out.2.1 HO.out).mono ?_
            rintro e w5 hp
            have n64 := tune_64 HO.out ST.out.r ST.out.b ST.out.k JJ.out.2.1
            have ST5 := Aside0.mk (C1.step ST2.out hp n64.1 n64.2.1 n64.2.2 ST.out.l)
            have BX5 := Aside0.mk (hp.box BX.out HNE.out)
            obtain rfl := hp.1
            clear hp n64 BX ST2 ST
            obtain ⟨d0, d1, d2⟩ := cells3k BX5.out
            obtain ⟨t, ok, hlk⟩ : ∃ t ok, lookV r1 b1 kk z1 = (t, ok) := ⟨_, _, rfl⟩
            have HLK := Aside0.mk hlk
            clear hlk
            obtain ⟨l', hl'⟩ : ∃ l', readV l t ok = l' := ⟨_, rfl⟩
            have h64 : Aside0 (In64 l') := ⟨hl' ▸ read_64 HLK.out ST5.out.l⟩
            have hle : decide (l' < l) = false := decide_eq_false (by have := read_le l t ok; omega)
            have HL' := Aside0.mk hl'
            clear hl'
            go_wp2_with fail
            refine (Read_to g r1 b1 kk l z1 t l' ok _ ST5.out.c ST5.out.r ST5.out.b ST5.out.k JJ.out.2.1 HLK.out HL'.out).mono ?_
            rintro e w9 hp
            have ST9 := Aside0.mk (C1.step ST5.out hp ST5.out.r ST5.out.b ST5.out.k h64.out)
            obtain rfl := hp.1
            clear hp
            go_wp2
            go_roundg k1
            case measure => omega
            case rel => exact ⟨i + 1, r1, b1, kk, l', by rw [hi1], rfl, HI', ST9⟩
          · have v3 : (z0 == 3) = false := by rw [beq_eq_false_iff_ne]; exact y3
            clear y3
            obtain ⟨t, ok, hlk⟩ : ∃ t ok, lookV r b k z1 = (t, ok) := ⟨_, _, rfl⟩
            have HLK := Aside0.mk hlk
            clear hlk ST
            obtain ⟨d0, d1, d2⟩ := cells3k BX.out
            obtain ⟨l', hl'⟩ : ∃ l', readV l t ok = l' := ⟨_, rfl⟩
            have h64 : Aside0 (In64 l') := ⟨hl' ▸ read_64 HLK.out ST2.out.l⟩
            have hle : decide (l' < l) = false := decide_eq_false (by have := read_le l t ok; omega)
            have HL' := Aside0.mk hl'
            clear hl'
            go_wp2_with fail
            refine (Read_to g r b k l z1 t l' ok _ ST2.out.c ST2.out.r ST2.out.b ST2.out.k JJ.out.2.1 HLK.out HL'.out).mono ?_
            rintro e w9 hp
            have ST9 := Aside0.mk (C1.step ST2.out hp ST2.out.r ST2.out.b ST2.out.k h64.out)
            obtain rfl := hp.1
            clear hp
            go_wp2
            go_roundg k1
            case measure => omega
            case rel => exact ⟨i + 1, r, b, k, l', by rw [hi1], rfl, HI', ST9⟩
      · have u2 : decide (i < 80) = false := decide_eq_false t2
        clear t1 t2
        go_wp2_with fail
        (with_reducible refine (live_walk _).mono ?_); rintro e w5 ⟨rfl, hb⟩
        have ST5 := Aside0.mk (ST.out.below hb); clear hb
        go_wp2_with fail
        refine (Last_calls g r b k l _ ST5.out.c).mono ?_
        rintro e w6 ⟨rfl, rfl⟩
        go_wp2_with fail
        go_ret
        exact ⟨by simp, ST5.out.B⟩
    · have u1 : decide (i < (len : Int)) = false := decide_eq_false t1
      clear t1
      go_wp2_with fail
      (with_reducible refine (live_walk _).mono ?_); rintro e w5 ⟨rfl, hb⟩
      have ST5 := Aside0.mk (ST.out.below hb); clear hb
      go_wp2_with fail
      refine (Last_calls g r b k l _ ST5.out.c).mono ?_
      rintro e w6 ⟨rfl, rfl⟩
      go_wp2_with fail
      go_ret
      exact ⟨by simp, ST5.out.B⟩
theorem ClockRises_walk (A : Option Addr) (len cap : Nat) (w : World) (h : (A = none ∧ len = 0 ∧ cap = 0) ∨ ∃ x, A = some x ∧ len ≤ cap ∧ cap ≤ maxLen ∧ ∀ i, i < len → ∃ (z0 : Int) (z1 : Int) (z2 : Int), w.cell? (x.add (i * 3 + 0)) = some (.int .i64 z0) ∧ w.cell? (x.add (i * 3 + 1)) = some (.int .i64 z1) ∧ w.cell? (x.add (i * 3 + 2)) = some (.int .i64 z2) ∧ (Lit.int .i64 z0).wf = true ∧ (Lit.int .i64 z1).wf = true ∧ (Lit.int .i64 z2).wf = true) :
    Calls Try.prog 4 #[.slice A len cap] w fun e w' => e = .returned (.bool true) ∧ Below w.heap.size w w' := Rises_yes A len cap w (acts_row h)
end Go.Proofs.Ytamdilpcjcmomaa.P
