/- Whatever is read, shifted and tuned: both clocks answer alike: the walk, for every acts. Condition: the slice's cells can be read. -/
import Derived.Test.YtamdilpcjcmomaaClockActs
namespace Go.Proofs.Ytamdilpcjcmomaa.P
open Go.RowKit Go.Proofs.YtamdilpcjcmomaaW.PrintWords Go.Proofs.YtamdilpcjcmomaaW.PrintLast Go.Proofs.YtamdilpcjcmomaaW.PrintMore
set_option linter.unusedVariables false
set_option linter.unusedSimpArgs false
/-- Both clocks, apart from one another. -/
structure C2 (w W : World) (g q : Nat) (r b k l r' b' k' l' : Int) : Prop where
  c : C1 44 w W g r b k l
  d : C1 35 w W q r' b' k' l'
  ne : g ≠ q
theorem C2.below {w W W' : World} {g q : Nat} {r b k l r' b' k' l' : Int} (h : C2 w W g q r b k l r' b' k' l') (hb : Below W.heap.size W W') : C2 w W' g q r b k l r' b' k' l' := ⟨h.c.below hb, h.d.below hb, h.ne⟩
theorem C2.alloc {w W : World} {g q : Nat} {r b k l r' b' k' l' : Int} (h : C2 w W g q r b k l r' b' k' l') (o : Obj) : C2 w (W.alloc o) g q r b k l r' b' k' l' := ⟨h.c.alloc o, h.d.alloc o, h.ne⟩
theorem C2.drew {w W : World} {g q : Nat} {r b k l r' b' k' l' : Int} (h : C2 w W g q r b k l r' b' k' l') : C2 w W.drew g q r b k l r' b' k' l' := ⟨h.c.drew, h.d.drew, h.ne⟩
theorem C2.stepc {w W W' : World} {g q : Nat} {r b k l r' b' k' l' r1 b1 k1 l1 : Int} {v : Value} {e : Ending} (h : C2 w W g q r b k l r' b' k' l') (hp : P4 44 g r1 b1 k1 l1 v W e W') (hr : In64 r1) (hb : In64 b1) (hk : In64 k1) (hl : In64 l1) : C2 w W' g q r1 b1 k1 l1 r' b' k' l' :=
  ⟨h.c.step hp hr hb hk hl, ⟨hp.box h.d.c (Ne.symm h.ne), h.d.r, h.d.b, h.d.k, h.d.l, h.c.B.trans (hp.2.2.2 _ h.c.G h.c.B.size), h.d.G⟩, h.ne⟩
theorem C2.stepd {w W W' : World} {g q : Nat} {r b k l r' b' k' l' r1 b1 k1 l1 : Int} {v : Value} {e : Ending} (h : C2 w W g q r b k l r' b' k' l') (hp : P4 35 q r1 b1 k1 l1 v W e W') (hr : In64 r1) (hb : In64 b1) (hk : In64 k1) (hl : In64 l1) : C2 w W' g q r b k l r1 b1 k1 l1 :=
  ⟨⟨hp.box h.c.c h.ne, h.c.r, h.c.b, h.c.k, h.c.l, h.d.B.trans (hp.2.2.2 _ h.d.G h.d.B.size), h.c.G⟩, h.d.step hp hr hb hk hl, h.ne⟩
set_option maxHeartbeats 8000000 in
set_option maxRecDepth 100000 in
theorem Plays_yes (A : Option Addr) (len cap : Nat) (w : World) (h : Acts w A len) : Calls Try.prog 3 #[.slice A len cap] w fun e w' => e = .returned (.bool true) ∧ Below w.heap.size w w' := by
  have HR := Aside0.mk h
  clear h
  have hu28 := Try.underlying28
  have hu35 := Try.underlying35
  go_enter Try.func3, Try.ntmps3
  go_wp2_with fail
  refine (New_calls _).mono ?_
  rintro e w1 ⟨g, hg, rfl, h1, hb1⟩
  go_wp2_with fail
  refine (RefNew_calls _).mono ?_
  rintro e w2 ⟨q, hq, rfl, h2, hb2⟩
  have ST1 : Aside0 (C2 w w2 g q 0 0 1048576 0 0 0 1048576 0) := ⟨⟨⟨h1.below hb2, by decide, by decide, by decide, by decide, below_step hb1 hb2, hg⟩, ⟨h2, by decide, by decide, by decide, by decide, below_step hb1 hb2, Nat.le_trans hb1.size hq⟩, by have := blk_lt h1; omega⟩⟩
  clear hg h1 hb1 hq h2 hb2
  go_wp2
  go_loopg [5] 80 (fun kq v5 w' => ∃ (i r b k l : Int), v5 = .int .i64 i ∧ Aside0 (0 ≤ i ∧ i + kq = 80) ∧ Aside0 (C2 w w' g q r b k l r b k l))
  case atStart => exact ⟨0, 0, 0, 1048576, 0, rfl, ⟨by omega⟩, ST1⟩
  case round =>
    obtain ⟨i, r, b, k, l, rfl, HI, ST⟩ := hrel
    clear ST1
    by_cases t1 : i < (len : Int)
    · have u1 : decide (i < (len : Int)) = true := decide_eq_true t1
      by_cases t2 : i < 80
      · have u2 : decide (i < 80) = true := decide_eq_true t2
        obtain ⟨k1, rfl⟩ : ∃ k1, gk = k1 + 1 := ⟨gk - 1, by have := HI.out; omega⟩
        have hlt : i.toNat < len := by have := HI.out; omega
        obtain ⟨ad, z0, z1, z2, rfl, a0, a1, a2, j0, j1, j2⟩ := (HR.out.below ST.out.c.B) i.toNat hlt
        obtain ⟨b1, b2⟩ := act_cells a1 a2
        have JJ := Aside0.mk (And.intro j0 (And.intro j1 j2))
        have HI' : Aside0 (0 ≤ i + 1 ∧ i + 1 + k1 = 80) := ⟨by have := HI.out; omega⟩
        have hi1 : wrap64 (i + 1) = i + 1 := wr64 _ (by have := HI.out; omega) (by have := HI.out; omega)
        have p0 : (0 ≤ i) = True := eq_true HI.out.1
        have q0 : (i < (len : Int)) = True := eq_true t1
        have HNG : Aside0 (wr.heap.size ≠ g) := ⟨by have := blk_lt ST.out.c.c; omega⟩
        have HNQ : Aside0 (wr.heap.size ≠ q) := ⟨by have := blk_lt ST.out.d.c; omega⟩
        clear hlt t1 t2 j0 j1 j2
        have BX : Aside0 ((wr.alloc (.cells #[.int .i64 z0, .int .i64 z1, .int .i64 z2] 28)).heap[wr.heap.size]? = some (.cells #[.int .i64 z0, .int .i64 z1, .int .i64 z2] 28 (0, 0))) := ⟨blk_new wr _⟩
        have ST2 := Aside0.mk (ST.out.alloc (.cells #[.int .i64 z0, .int .i64 z1, .int .i64 z2] 28))
        by_cases y1 : z0 = 1
        · have v1 : (z0 == 1) = true := by rw [y1]; rfl
          clear y1
          obtain ⟨t, ok, hlk⟩ : ∃ t ok, lookV r b k z1 = (t, ok) := ⟨_, _, rfl⟩
          have HLK := Aside0.mk hlk
          have ne3 : (t != t) = false := by simp
          have ne4 : (ok != ok) = false := by cases ok <;> rfl
          clear hlk ST
          obtain ⟨d0, d1, d2⟩ := cells3k BX.out
          go_wp2_with fail
          refine (Look_calls g r b k l z1 t ok _ ST2.out.c.c ST2.out.c.r ST2.out.c.b ST2.out.c.k JJ.out.2.1 HLK.out).mono ?_
          rintro e w5 ⟨rfl, hb⟩
          have ST5 := Aside0.mk (ST2.out.below hb)
          have BX5 := Aside0.mk (blk_below BX.out hb)
          clear hb d0 d1 d2 BX ST2
          obtain ⟨d0, d1, d2⟩ := cells3k BX5.out
          go_wp2_with fail
          refine (RefLook_calls q r b k l z1 t ok _ ST5.out.d.c ST5.out.c.r ST5.out.c.b ST5.out.c.k JJ.out.2.1 HLK.out).mono ?_
          rintro e w6 ⟨rfl, hb⟩
          have ST6 := Aside0.mk (ST5.out.below hb)
          clear hb d0 d1 d2 BX5 ST5
          obtain ⟨m0, m1, m2, m3, m4, m5, m6, m7⟩ := cells4k ST6.out.d.c
          have ne1 : (k != k) = false := by simp
          have ne2 : (l != l) = false := by simp
          go_wp2_with fail
          go_region_held3 (fun w' => w'.cell? ⟨q, 2, none⟩ = some (.int .i64 k) ∧ w'.cell? ⟨q, 3, none⟩ = some (.int .i64 l)) (go_keep)
            (first
              | (go_at_call 17; (with_reducible refine (Rate_calls g r b k l _ ST6.out.drew.c.c).mono ?_); rintro e w17 ⟨rfl, rfl⟩)
              | (go_at_call 18; (with_reducible refine (Last_calls g r b k l _ ST6.out.drew.c.c).mono ?_); rintro e w18 ⟨rfl, rfl⟩))
          have ST9 := Aside0.mk ST6.out.drew
          go_wp2
          go_roundg k1
          case measure => omega
          case rel => exact ⟨i + 1, r, b, k, l, by rw [hi1], HI', ST9⟩
        have v1 : (z0 == 1) = false := by rw [beq_eq_false_iff_ne]; exact y1
        clear y1
        by_cases y2 : z0 = 2
        · have v2 : (z0 == 2) = true := by rw [y2]; rfl
          clear y2
          obtain ⟨e1, r1, b1, kk, ho⟩ : ∃ e1 r1 b1 kk, onV r b k z1 z2 k = (e1, r1, b1, kk) := ⟨_, _, _, _, rfl⟩
          have HO := Aside0.mk ho
          have ne3 : (e1 != e1) = false := by simp
          clear ho ST
          obtain ⟨d0, d1, d2⟩ := cells3k BX.out
          have N64 := Aside0.mk (on_64 HO.out ST2.out.c.r ST2.out.c.b ST2.out.c.k JJ.out.2.1 ST2.out.c.k)
          go_wp2_with fail
          go_region_held3 (fun w' => w'.cell? ⟨wr.heap.size, 1, none⟩ = some (.int .i64 z1) ∧ w'.cell? ⟨wr.heap.size, 2, none⟩ = some (.int .i64 z2)) (go_keep)
            (first
              | (go_at_call 11; (with_reducible refine (Shift_calls g r b k l z1 z2 e1 r1 b1 kk _ ST2.out.drew.c.c ST2.out.c.r ST2.out.c.b ST2.out.c.k JJ.out.2.1 JJ.out.2.2 HO.out).mono ?_); rintro e w5 hp; have ST5 := Aside0.mk (ST2.out.drew.stepc hp N64.out.1 N64.out.2.1 N64.out.2.2 ST2.out.c.l); have BX5 := Aside0.mk (hp.box (blk_drew BX.out) HNG.out); obtain rfl := hp.1; clear hp d0 d1 d2; obtain ⟨d0, d1, d2⟩ := cells3k BX5.out)
              | (go_at_call 12; (with_reducible refine (RefShift_calls q r b k l z1 z2 e1 r1 b1 kk _ ST5.out.d.c ST5.out.d.r ST5.out.d.b ST5.out.d.k JJ.out.2.1 JJ.out.2.2 HO.out).mono ?_); rintro e w6 hp; have ST6 := Aside0.mk (ST5.out.stepd hp N64.out.1 N64.out.2.1 N64.out.2.2 ST2.out.c.l); have BX6 := Aside0.mk (hp.box BX5.out HNQ.out); obtain rfl := hp.1; clear hp d0 d1 d2; obtain ⟨d0, d1, d2⟩ := cells3k BX6.out))
          clear d0 d1 d2 BX ST2 ST5 BX5 BX6
          obtain ⟨m0, m1, m2, m3, m4, m5, m6, m7⟩ := cells4k ST6.out.d.c
          have ne1 : (kk != kk) = false := by simp
          have ne2 : (l != l) = false := by simp
          go_wp2_with fail
          go_region_held3 (fun w' => w'.cell? ⟨q, 2, none⟩ = some (.int .i64 kk) ∧ w'.cell? ⟨q, 3, none⟩ = some (.int .i64 l)) (go_keep)
            (first
              | (go_at_call 17; (with_reducible refine (Rate_calls g r1 b1 kk l _ ST6.out.drew.c.c).mono ?_); rintro e w17 ⟨rfl, rfl⟩)
              | (go_at_call 18; (with_reducible refine (Last_calls g r1 b1 kk l _ ST6.out.drew.c.c).mono ?_); rintro e w18 ⟨rfl, rfl⟩))
          have ST9 := Aside0.mk ST6.out.drew
          go_wp2
          go_roundg k1
          case measure => omega
          case rel => exact ⟨i + 1, r1, b1, kk, l, by rw [hi1], HI', ST9⟩
        have v2 : (z0 == 2) = false := by rw [beq_eq_false_iff_ne]; exact y2
        clear y2
        by_cases y3 : z0 = 3
        · have v3 : (z0 == 3) = true := by rw [y3]; rfl
          clear y3
          obtain ⟨e1, r1, b1, kk, ho⟩ : ∃ e1 r1 b1 kk, tuneV r b k z1 z2 = (e1, r1, b1, kk) := ⟨_, _, _, _, rfl⟩
          have HO := Aside0.mk ho
          have ne3 : (e1 != e1) = false := by simp
          clear ho ST
          obtain ⟨d0, d1, d2⟩ := cells3k BX.out
          have N64 := Aside0.mk (tune_64 HO.out ST2.out.c.r ST2.out.c.b ST2.out.c.k JJ.out.2.1)
          go_wp2_with fail
          go_region_held3 (fun w' => w'.cell? ⟨wr.heap.size, 1, none⟩ = some (.int .i64 z1) ∧ w'.cell? ⟨wr.heap.size, 2, none⟩ = some (.int .i64 z2)) (go_keep)
            (first
              | (go_at_call 13; (with_reducible refine (Tune_calls g r b k l z1 z2 e1 r1 b1 kk _ ST2.out.drew.c.c ST2.out.c.r ST2.out.c.b ST2.out.c.k JJ.out.2.1 HO.out).mono ?_); rintro e w5 hp; have ST5 := Aside0.mk (ST2.out.drew.stepc hp N64.out.1 N64.out.2.1 N64.out.2.2 ST2.out.c.l); have BX5 := Aside0.mk (hp.box (blk_drew BX.out) HNG.out); obtain rfl := hp.1; clear hp d0 d1 d2; obtain ⟨d0, d1, d2⟩ := cells3k BX5.out)
              | (go_at_call 14; (with_reducible refine (RefTune_calls q r b k l z1 z2 e1 r1 b1 kk _ ST5.out.d.c ST5.out.d.r ST5.out.d.b ST5.out.d.k JJ.out.2.1 HO.out).mono ?_); rintro e w6 hp; have ST6 := Aside0.mk (ST5.out.stepd hp N64.out.1 N64.out.2.1 N64.out.2.2 ST2.out.c.l); have BX6 := Aside0.mk (hp.box BX5.out HNQ.out); obtain rfl := hp.1; clear hp d0 d1 d2; obtain ⟨d0, d1, d2⟩ := cells3k BX6.out))
          clear d0 d1 d2 BX ST2 ST5 BX5 BX6
          obtain ⟨m0, m1, m2, m3, m4, m5, m6, m7⟩ := cells4k ST6.out.d.c
          have ne1 : (kk != kk) = false := by simp
          have ne2 : (l != l) = false := by simp
          go_wp2_with fail
          go_region_held3 (fun w' => w'.cell? ⟨q, 2, none⟩ = some (.int .i64 kk) ∧ w'.cell? ⟨q, 3, none⟩ = some (.int .i64 l)) (go_keep)
            (first
              | (go_at_call 17; (with_reducible refine (Rate_calls g r1 b1 kk l _ ST6.out.drew.c.c).mono ?_); rintro e w17 ⟨rfl, rfl⟩)
              | (go_at_call 18; (with_reducible refine (Last_calls g r1 b1 kk l _ ST6.out.drew.c.c).mono ?_); rintro e w18 ⟨rfl, rfl⟩))
          have ST9 := Aside0.mk ST6.out.drew
          go_wp2
          go_roundg k1
          case measure => omega
          case rel => exact ⟨i + 1, r1, b1, kk, l, by rw [hi1], HI', ST9⟩
        have v3 : (z0 == 3) = false := by rw [beq_eq_false_iff_ne]; exact y3
        clear y3
        obtain ⟨t, ok, hlk⟩ : ∃ t ok, lookV r b k z1 = (t, ok) := ⟨_, _, rfl⟩
        obtain ⟨l', hl'⟩ : ∃ l', readV l t ok = l' := ⟨_, rfl⟩
        have HLK := Aside0.mk hlk
        have HL' := Aside0.mk hl'
        have h64 : Aside0 (In64 l') := ⟨hl' ▸ read_64 hlk ST.out.c.l⟩
        have ne3 : (l' != l') = false := by simp
        have ne4 : (ok != ok) = false := by cases ok <;> rfl
        clear hlk hl' ST
        obtain ⟨d0, d1, d2⟩ := cells3k BX.out
        go_wp2_with fail
        refine (Read_to g r b k l z1 t l' ok _ ST2.out.c.c ST2.out.c.r ST2.out.c.b ST2.out.c.k JJ.out.2.1 HLK.out HL'.out).mono ?_
        rintro e w5 hp
        have ST5 := Aside0.mk (ST2.out.stepc hp ST2.out.c.r ST2.out.c.b ST2.out.c.k h64.out)
        have BX5 := Aside0.mk (hp.box BX.out HNG.out)
        obtain rfl := hp.1
        clear hp d0 d1 d2 BX ST2
        obtain ⟨d0, d1, d2⟩ := cells3k BX5.out
        go_wp2_with fail
        refine (RefRead_to q r b k l z1 t l' ok _ ST5.out.d.c ST5.out.d.r ST5.out.d.b ST5.out.d.k JJ.out.2.1 HLK.out HL'.out).mono ?_
        rintro e w6 hp
        have ST6 := Aside0.mk (ST5.out.stepd hp ST5.out.d.r ST5.out.d.b ST5.out.d.k h64.out)
        obtain rfl := hp.1
        clear hp d0 d1 d2 BX5 ST5
        obtain ⟨m0, m1, m2, m3, m4, m5, m6, m7⟩ := cells4k ST6.out.d.c
        have ne1 : (k != k) = false := by simp
        have ne2 : (l' != l') = false := by simp
        go_wp2_with fail
        go_region_held3 (fun w' => w'.cell? ⟨q, 2, none⟩ = some (.int .i64 k) ∧ w'.cell? ⟨q, 3, none⟩ = some (.int .i64 l')) (go_keep)
          (first
            | (go_at_call 17; (with_reducible refine (Rate_calls g r b k l' _ ST6.out.drew.c.c).mono ?_); rintro e w17 ⟨rfl, rfl⟩)
            | (go_at_call 18; (with_reducible refine (Last_calls g r b k l' _ ST6.out.drew.c.c).mono ?_); rintro e w18 ⟨rfl, rfl⟩))
        have ST9 := Aside0.mk ST6.out.drew
        go_wp2
        go_roundg k1
        case measure => omega
        case rel => exact ⟨i + 1, r, b, k, l', by rw [hi1], HI', ST9⟩
      · have u2 : decide (i < 80) = false := decide_eq_false t2
        clear t1 t2
        go_wp2_with fail
        (with_reducible refine (live_walk _).mono ?_); rintro e w5 ⟨rfl, hb⟩
        have ST5 := Aside0.mk (ST.out.below hb); clear hb
        go_wp2_with fail
        go_ret
        exact ⟨rfl, ST5.out.c.B⟩
    · have u1 : decide (i < (len : Int)) = false := decide_eq_false t1
      clear t1
      go_wp2_with fail
      (with_reducible refine (live_walk _).mono ?_); rintro e w5 ⟨rfl, hb⟩
      have ST5 := Aside0.mk (ST.out.below hb); clear hb
      go_wp2_with fail
      go_ret
      exact ⟨rfl, ST5.out.c.B⟩
theorem ClockPlays_walk (A : Option Addr) (len cap : Nat) (w : World) (h : (A = none ∧ len = 0 ∧ cap = 0) ∨ ∃ x, A = some x ∧ len ≤ cap ∧ cap ≤ maxLen ∧ ∀ i, i < len → ∃ (z0 : Int) (z1 : Int) (z2 : Int), w.cell? (x.add (i * 3 + 0)) = some (.int .i64 z0) ∧ w.cell? (x.add (i * 3 + 1)) = some (.int .i64 z1) ∧ w.cell? (x.add (i * 3 + 2)) = some (.int .i64 z2) ∧ (Lit.int .i64 z0).wf = true ∧ (Lit.int .i64 z1).wf = true ∧ (Lit.int .i64 z2).wf = true) :
    Calls Try.prog 3 #[.slice A len cap] w fun e w' => e = .returned (.bool true) ∧ Below w.heap.size w w' := Plays_yes A len cap w (acts_row h)
end Go.Proofs.Ytamdilpcjcmomaa.P
