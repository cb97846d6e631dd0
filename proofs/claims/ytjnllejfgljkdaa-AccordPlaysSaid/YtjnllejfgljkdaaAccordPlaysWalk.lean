/- Whatever ticks go by, is noted and applied: both pairs answer alike: the walk, for every config, start and acts. Condition: the slice's cells can be read. -/
import Derived.Test.YtjnllejfgljkdaaAccordBoundsPlain
import Derived.Test.YtjnllejfgljkdaaAccordRef2
namespace Go.Proofs.Ytjnllejfgljkdaa.P
open Go.RowKit Go.Proofs.YtjnllejfgljkdaaW.PrintWords Go.Proofs.YtjnllejfgljkdaaW.PrintLast Go.Proofs.YtjnllejfgljkdaaW.PrintMore
set_option linter.unusedVariables false
set_option linter.unusedSimpArgs false
theorem keepA {w W W' : World} {p mo mc so sc : Nat} {n d tu : Int} {S : AS} {vn va : Value} (h5 : Keep5 W W' p mo mc so sc) (h : PA w W p mo mc so sc n d tu S vn va) {k : Nat} {cs : Array Value} {t : TypeId} (hk : W.heap[k]? = some (.cells cs t (0, 0))) (t1 : t ≠ 70) (t2 : t ≠ 107) (t3 : t ≠ 102) : W'.heap[k]? = some (.cells cs t (0, 0)) :=
  (h5.2 k (blk_lt hk) (ne_type hk h.pr t1) (ne_type hk h.om t2) (ne_type hk h.tm t3) (ne_type hk h.os t2) (ne_type hk h.ts t3)).trans hk
theorem keepR {w W W' : World} {p mo mc so sc : Nat} {n d tu : Int} {S : AS} {nb : Bool} {mi it at_ : Int} {ab : Bool} {si : Int} (h5 : Keep5 W W' p mo mc so sc) (h : PR w W p mo mc so sc n d tu S nb mi it at_ ab si) {k : Nat} {cs : Array Value} {t : TypeId} (hk : W.heap[k]? = some (.cells cs t (0, 0))) (t1 : t ≠ 55) (t2 : t ≠ 79) (t3 : t ≠ 51) : W'.heap[k]? = some (.cells cs t (0, 0)) :=
  (h5.2 k (blk_lt hk) (ne_type hk h.pr t1) (ne_type hk h.om t2) (ne_type hk h.tm t3) (ne_type hk h.os t2) (ne_type hk h.ts t3)).trans hk
theorem noteBase {w v V : World} {o : Option (Int × Int × Int)} {x : Value} (k : NoteIs v V x o) (hz : w.heap.size ≤ v.heap.size) : NoteIs w V x o := by
  unfold NoteIs at *
  split at k
  · exact k
  · obtain ⟨g, e, hg, hb⟩ := k
    exact ⟨g, e, hg, Nat.le_trans hz hb⟩
theorem PA.base {v w W : World} {p mo mc so sc : Nat} {n d tu : Int} {S : AS} {vn va : Value} (h : PA v W p mo mc so sc n d tu S vn va) (hb : Below w.heap.size w v) : PA w W p mo mc so sc n d tu S vn va :=
  ⟨h.pr, h.om, h.os, h.tm, h.ts, noteBase h.nn hb.size, noteBase h.na hb.size, below_step hb h.B, ⟨Nat.le_trans hb.size h.g.1, Nat.le_trans hb.size h.g.2.1, Nat.le_trans hb.size h.g.2.2.1, Nat.le_trans hb.size h.g.2.2.2.1, Nat.le_trans hb.size h.g.2.2.2.2⟩, h.ne, h.ok⟩
/-- Both pairs, alike. -/
structure Two (w W : World) (p mo mc so sc q mo' mc' so' sc' : Nat) (n d tu : Int) (S : AS) (vn va : Value) (nb : Bool) (mi it at_ : Int) (ab : Bool) (si : Int) : Prop where
  a : PA w W p mo mc so sc n d tu S vn va
  r : PR w W q mo' mc' so' sc' n d tu S nb mi it at_ ab si
def TwoEx (w W : World) (p mo mc so sc q mo' mc' so' sc' : Nat) (n d tu : Int) (S : AS) : Prop := ∃ vn va nb mi it at_ ab si, Two w W p mo mc so sc q mo' mc' so' sc' n d tu S vn va nb mi it at_ ab si
theorem TwoEx.below {w W W' : World} {p mo mc so sc q mo' mc' so' sc' : Nat} {n d tu : Int} {S : AS} (h : TwoEx w W p mo mc so sc q mo' mc' so' sc' n d tu S) (hb : Below W.heap.size W W') : TwoEx w W' p mo mc so sc q mo' mc' so' sc' n d tu S := by
  obtain ⟨vn, va, nb, mi, it, at_, ab, si, h⟩ := h
  exact ⟨vn, va, nb, mi, it, at_, ab, si, ⟨h.a.below hb, h.r.below hb⟩⟩
theorem TwoEx.B {w W : World} {p mo mc so sc q mo' mc' so' sc' : Nat} {n d tu : Int} {S : AS} (h : TwoEx w W p mo mc so sc q mo' mc' so' sc' n d tu S) : Below w.heap.size w W := by
  obtain ⟨vn, va, nb, mi, it, at_, ab, si, h⟩ := h
  exact h.a.B
/-- The program's pair has gone on, the reference's not yet. -/
structure Mid (w W : World) (p mo mc so sc q mo' mc' so' sc' : Nat) (n d tu : Int) (S S' : AS) (vn va : Value) (nb : Bool) (mi it at_ : Int) (ab : Bool) (si : Int) : Prop where
  a : PA w W p mo mc so sc n d tu S' vn va
  r : PR w W q mo' mc' so' sc' n d tu S nb mi it at_ ab si
theorem Mid.of {w W W' : World} {p mo mc so sc q mo' mc' so' sc' : Nat} {n d tu : Int} {S S' : AS} {vn va vn' va' : Value} {nb : Bool} {mi it at_ : Int} {ab : Bool} {si : Int} (h : Two w W p mo mc so sc q mo' mc' so' sc' n d tu S vn va nb mi it at_ ab si) (ha : PA w W' p mo mc so sc n d tu S' vn' va') (h5 : Keep5 W W' p mo mc so sc) :
    Mid w W' p mo mc so sc q mo' mc' so' sc' n d tu S S' vn' va' nb mi it at_ ab si :=
  ⟨ha, ⟨keepA h5 h.a h.r.pr (by decide) (by decide) (by decide), keepA h5 h.a h.r.om (by decide) (by decide) (by decide), keepA h5 h.a h.r.os (by decide) (by decide) (by decide), keepA h5 h.a h.r.tm (by decide) (by decide) (by decide), keepA h5 h.a h.r.ts (by decide) (by decide) (by decide), h.r.nn, h.r.na, ha.B, h.r.g, h.r.ne, h.r.ok⟩⟩
theorem Mid.two {w W W' : World} {p mo mc so sc q mo' mc' so' sc' : Nat} {n d tu : Int} {S S' : AS} {vn va : Value} {nb : Bool} {mi it at_ : Int} {ab : Bool} {si : Int} (h : Mid w W p mo mc so sc q mo' mc' so' sc' n d tu S S' vn va nb mi it at_ ab si) (hr : PREx w W' q mo' mc' so' sc' n d tu S') (h5 : Keep5 W W' q mo' mc' so' sc') :
    TwoEx w W' p mo mc so sc q mo' mc' so' sc' n d tu S' := by
  obtain ⟨nb', mi', it', at', ab', si', hr⟩ := hr
  exact ⟨vn, va, nb', mi', it', at', ab', si', ⟨⟨keepR h5 h.r h.a.pr (by decide) (by decide) (by decide), keepR h5 h.r h.a.om (by decide) (by decide) (by decide), keepR h5 h.r h.a.os (by decide) (by decide) (by decide), keepR h5 h.r h.a.tm (by decide) (by decide) (by decide), keepR h5 h.r h.a.ts (by decide) (by decide) (by decide), NoteIs.keep h.a.nn fun g cs hg => keepR h5 h.r hg (by decide) (by decide) (by decide), NoteIs.keep h.a.na fun g cs hg => keepR h5 h.r hg (by decide) (by decide) (by decide), hr.B, h.a.g, h.a.ne, h.a.ok⟩, hr⟩⟩
theorem PR.base {v w W : World} {p mo mc so sc : Nat} {n d tu : Int} {S : AS} {nb : Bool} {mi it at_ : Int} {ab : Bool} {si : Int} (h : PR v W p mo mc so sc n d tu S nb mi it at_ ab si) (hb : Below w.heap.size w v) : PR w W p mo mc so sc n d tu S nb mi it at_ ab si :=
  ⟨h.pr, h.om, h.os, h.tm, h.ts, h.nn, h.na, below_step hb h.B, ⟨Nat.le_trans hb.size h.g.1, Nat.le_trans hb.size h.g.2.1, Nat.le_trans hb.size h.g.2.2.1, Nat.le_trans hb.size h.g.2.2.2.1, Nat.le_trans hb.size h.g.2.2.2.2⟩, h.ne, h.ok⟩
theorem cell_last {t : TypeId} {w : World} {g : Nat} {r b k l : Int} (h : At4 t w g r b k l) : w.cell? ⟨g, 3, none⟩ = some (.int .i64 l) := (blk_cell h 3).trans rfl
/-- What the law looks at behind each act. -/
theorem Two.look {w W : World} {p mo mc so sc q mo' mc' so' sc' : Nat} {n d tu : Int} {S : AS} {vn va : Value} {nb : Bool} {mi it at_ : Int} {ab : Bool} {si : Int} (h : Two w W p mo mc so sc q mo' mc' so' sc' n d tu S vn va nb mi it at_ ab si) :
    W.cell? ⟨q, 5, none⟩ = some (.pointer (some ⟨mc', 0, none⟩)) ∧ W.cell? ⟨mc', 3, none⟩ = some (.int .i64 S.lm) ∧ W.cell? ⟨q, 6, none⟩ = some (.pointer (some ⟨sc', 0, none⟩)) ∧ W.cell? ⟨sc', 3, none⟩ = some (.int .i64 S.ls) ∧ W.cell? ⟨q, 14, none⟩ = some (.bool S.follows) :=
  ⟨(blk_cell h.r.pr 5).trans rfl, cell_last h.r.tm, (blk_cell h.r.pr 6).trans rfl, cell_last h.r.ts, (blk_cell h.r.pr 14).trans rfl⟩
theorem Two.drew {w W : World} {p mo mc so sc q mo' mc' so' sc' : Nat} {n d tu : Int} {S : AS} {vn va : Value} {nb : Bool} {mi it at_ : Int} {ab : Bool} {si : Int} (h : Two w W p mo mc so sc q mo' mc' so' sc' n d tu S vn va nb mi it at_ ab si) : Two w W.drew p mo mc so sc q mo' mc' so' sc' n d tu S vn va nb mi it at_ ab si := ⟨h.a.drew, h.r.drew⟩
theorem Two.below {w W W' : World} {p mo mc so sc q mo' mc' so' sc' : Nat} {n d tu : Int} {S : AS} {vn va : Value} {nb : Bool} {mi it at_ : Int} {ab : Bool} {si : Int} (h : Two w W p mo mc so sc q mo' mc' so' sc' n d tu S vn va nb mi it at_ ab si) (hb : Below W.heap.size W W') : Two w W' p mo mc so sc q mo' mc' so' sc' n d tu S vn va nb mi it at_ ab si := ⟨h.a.below hb, h.r.below hb⟩
set_option maxHeartbeats 16000000 in
set_option maxRecDepth 100000 in
theorem Plays_yes (n d tu st : Int) (A : Option Addr) (len cap : Nat) (w : World) (h : Acts5 w A len) (hr : rB n d tu = true) (s0 : 0 ≤ st) (s1 : st ≤ 1125899906842624) :
    Calls Try.prog 4 #[.agg #[.int .i64 n, .int .i64 d, .int .i64 tu], .int .i64 st, .slice A len cap] w fun e w' => e = .returned (.bool true) ∧ Below w.heap.size w w' := by
  have HR := Aside0.mk h
  have f := rB_facts hr
  have HN : Aside0 (1 ≤ n ∧ n ≤ 1048576 ∧ 0 ≤ d ∧ d < n) := ⟨by omega⟩
  have HT : Aside0 (0 ≤ tu ∧ tu ≤ 4096) := ⟨by omega⟩
  have hrr : rightB n d = true := by unfold rB at hr; rw [Bool.and_eq_true] at hr; exact hr.1
  have F1 : Aside0 (accord_Right.f n d tu = some true) := ⟨by rw [accRight_eq n d tu (by omega) (by omega), hr]⟩
  have F2 : Aside0 (osc_Right.f n d = some true) := ⟨by rw [Right_eq n d (by omega) (by omega), hrr]⟩
  have F3 : Aside0 (bellbuoyref19_Right.f n d tu = some true) := ⟨by rw [refRight19, hr]⟩
  have F4 : Aside0 (bellbuoyref16_Right.f n d = some true) := ⟨by rw [refRight_eq, hrr]⟩
  have F5 := Aside0.mk (start_within st s0 s1)
  have F6 : Aside0 (bellbuoylaw19_plain.f n d tu = some (n, d, tu)) := ⟨rfl⟩
  have HS := Aside0.mk (And.intro s0 s1)
  clear h hr f hrr s0 s1
  have hu25 := Try.underlying25
  have hu46 := Try.underlying46
  have hu55 := Try.underlying55
  have hu51 := Try.underlying51
  have X0 := Aside0.mk (blk_new w (.cells #[.int .i64 n, .int .i64 d, .int .i64 tu] 25))
  have B0 := Aside0.mk (below_alloc (Below.refl w.heap.size w) (.cells #[.int .i64 n, .int .i64 d, .int .i64 tu] 25))
  obtain ⟨c0, c1, c2⟩ := cells3a X0.out
  go_enter Try.func4, Try.ntmps4
  go_wp2_with fail
  (with_reducible refine (PNew_yes n d tu st _ F1.out F2.out F5.out HS.out.1 HS.out.2).mono ?_)
  rintro e w1 ⟨p, mo, mc, so, sc, rfl, h1⟩
  have K1 := Aside0.mk (h1.base B0.out)
  have X1 := Aside0.mk (blk_below X0.out h1.B)
  clear h1 c0 c1 c2 X0
  obtain ⟨c0, c1, c2⟩ := cells3a X1.out
  go_wp2_with fail
  (with_reducible refine (bellbuoylaw19_plain.calls n d tu n d tu _ F6.out).mono ?_); rintro e w2 ⟨rfl, hb⟩
  have K2 := Aside0.mk (K1.out.below hb)
  clear hb K1 X1 c0 c1 c2
  go_wp2_with fail
  (with_reducible refine (RNew_yes n d tu st _ F3.out F4.out HS.out.1 HS.out.2).mono ?_)
  rintro e w3 ⟨q, mo', mc', so', sc', rfl, h3⟩
  have T3 : Aside0 (TwoEx w w3 p mo mc so sc q mo' mc' so' sc' n d tu (S0 st)) := ⟨⟨_, _, _, _, _, _, _, _, ⟨K2.out.below h3.B, h3.base K2.out.B⟩⟩⟩
  clear h3 K2
  go_wp2
  go_loopg [11] 40 (fun kq v11 w' => ∃ (i : Int) (S : AS), v11 = .int .i64 i ∧ Aside0 (0 ≤ i ∧ i + kq = 40) ∧ Aside0 (TwoEx w w' p mo mc so sc q mo' mc' so' sc' n d tu S))
  case atStart => exact ⟨0, S0 st, rfl, ⟨by omega⟩, T3⟩
  case round =>
    obtain ⟨i, S, rfl, HI, TW⟩ := hrel
    clear T3
    by_cases t1 : i < (len : Int)
    · have u1 : decide (i < (len : Int)) = true := decide_eq_true t1
      by_cases t2 : i < 40
      · have u2 : decide (i < 40) = true := decide_eq_true t2
        obtain ⟨k1, rfl⟩ : ∃ k1, gk = k1 + 1 := ⟨gk - 1, by have := HI.out; omega⟩
        have hlt : i.toNat < len := by have := HI.out; omega
        obtain ⟨ad, z0, z1, z2, z3, z4, rfl, AA, j0, j1, j2, j3, j4⟩ := HR.out i.toNat hlt
        have BW := Aside0.mk TW.out.B
        have a0 := pw_cell_below BW.out AA.1
        have a1 := pw_cell_below BW.out AA.2.1
        have a2 := pw_cell_below BW.out AA.2.2.1
        have a3 := pw_cell_below BW.out AA.2.2.2.1
        have a4 := pw_cell_below BW.out AA.2.2.2.2
        have HI' : Aside0 (0 ≤ i + 1 ∧ i + 1 + k1 = 40) := ⟨by have := HI.out; omega⟩
        have hi1 : wrap64 (i + 1) = i + 1 := wr64 _ (by have := HI.out; omega) (by have := HI.out; omega)
        have p0 : (0 ≤ i) = True := eq_true HI.out.1
        have q0 : (i < (len : Int)) = True := eq_true t1
        obtain ⟨vn, va, nb, mi, it, at_, ab, si, h2⟩ := TW.out
        have T2 := Aside0.mk (h2.below (below_alloc (Below.refl _ _) (.cells #[.int .i64 z0, .int .i64 z1, .int .i64 z2, .int .i64 z3, .int .i64 z4] 46)))
        have BX := Aside0.mk (blk_new wr (.cells #[.int .i64 z0, .int .i64 z1, .int .i64 z2, .int .i64 z3, .int .i64 z4] 46))
        obtain ⟨x0, x1, x2, x3, x4⟩ := cells5a BX.out
        obtain ⟨bq, hbq⟩ : ∃ bq, wr.heap.size = bq := ⟨_, rfl⟩
        rw [hbq] at BX x0 x1 x2 x3 x4
        clear hlt t1 t2 j0 j1 j2 j3 j4 AA h2
        by_cases y0 : z0 = 0
        · have v0 : (z0 == 0) = true := by rw [y0]; rfl
          clear y0
          obtain ⟨rr, S', ho⟩ : ∃ rr S', capS S = (rr, S') := ⟨_, _, rfl⟩
          have HO := Aside0.mk ho
          have ne : (rr != rr) = false := by cases rr <;> rfl
          clear ho
          go_wp2_with fail
          (with_reducible refine (PCapture _ _ p mo mc so sc n d tu S _ _ rr S' T2.out.a HO.out).mono ?_); rintro e w5 ⟨rfl, vn', h5, hk5⟩
          have M5 := Aside0.mk (Mid.of T2.out h5 hk5)
          clear h5 hk5 T2 x0 x1 x2 x3 x4
          go_wp2_with fail
          (with_reducible refine (RCapture _ _ q mo' mc' so' sc' n d tu S _ _ _ _ _ _ rr S' M5.out.r HO.out).mono ?_); rintro e w6 ⟨rfl, h6, hk6⟩
          have T6 := Aside0.mk (Mid.two M5.out h6 hk6)
          clear h6 hk6 M5
          obtain ⟨vn9, va9, nb9, mi9, it9, at9, ab9, si9, h9⟩ := T6.out
          have T9 := Aside0.mk h9
          clear h9
          obtain ⟨m1, m2, m3, m4, m5⟩ := T9.out.look
          obtain ⟨gp, hgp⟩ : ∃ gp, gapS S' = gp := ⟨_, rfl⟩
          have HGP := Aside0.mk hgp
          clear hgp
          have n1 : (S'.lm != S'.lm) = false := by simp
          have n2 : (S'.ls != S'.ls) = false := by simp
          have n3 : (S'.follows != S'.follows) = false := by cases S'.follows <;> rfl
          have n4 : (gp != gp) = false := by simp
          go_wp2_with fail
          go_region_held3 (fun w' => w'.cell? ⟨q, 5, none⟩ = some (.pointer (some ⟨mc', 0, none⟩)) ∧ w'.cell? ⟨mc', 3, none⟩ = some (.int .i64 S'.lm) ∧ w'.cell? ⟨q, 6, none⟩ = some (.pointer (some ⟨sc', 0, none⟩)) ∧ w'.cell? ⟨sc', 3, none⟩ = some (.int .i64 S'.ls) ∧ w'.cell? ⟨q, 14, none⟩ = some (.bool S'.follows)) (go_keep)
            (first
              | (go_at_call 23; (with_reducible refine (PMaster _ _ p mo mc so sc n d tu S' _ _ T9.out.drew.a).mono ?_); rintro e w11 ⟨rfl, rfl⟩)
              | (go_at_call 24; (with_reducible refine (PSlave _ _ p mo mc so sc n d tu S' _ _ T9.out.drew.a).mono ?_); rintro e w12 ⟨rfl, rfl⟩)
              | (go_at_call 25; (with_reducible refine (PSettled _ _ p mo mc so sc n d tu S' _ _ T9.out.drew.a).mono ?_); rintro e w13 ⟨rfl, rfl⟩)
              | (go_at_call 26; (with_reducible refine (PGap _ _ p mo mc so sc n d tu S' _ _ T9.out.drew.a).mono ?_); rintro e w14 ⟨rfl, hb⟩; rw [HGP.out]; have T10 := Aside0.mk (T9.out.drew.below hb); clear hb m1 m2 m3 m4 m5; obtain ⟨m1, m2, m3, m4, m5⟩ := T10.out.look)
              | (go_at_call 27; (with_reducible refine (RGap _ _ q mo' mc' so' sc' n d tu S' _ _ _ _ _ _ T10.out.r).mono ?_); rintro e w15 ⟨rfl, hb⟩; rw [HGP.out]; have T11 := Aside0.mk (T10.out.below hb); clear hb m1 m2 m3 m4 m5; obtain ⟨m1, m2, m3, m4, m5⟩ := T11.out.look))
          go_wp2
          go_roundg k1
          case measure => omega
          case rel => exact ⟨i + 1, S', by rw [hi1], HI', ⟨⟨_, _, _, _, _, _, _, _, T11.out⟩⟩⟩

        have v0 : (z0 == 0) = false := by rw [beq_eq_false_iff_ne]; exact y0
        clear y0
        by_cases y1 : z0 = 1
        · have v1 : (z0 == 1) = true := by rw [y1]; rfl
          clear y1
          obtain ⟨rr, S', ho⟩ : ∃ rr S', appS tu S z4 = (rr, S') := ⟨_, _, rfl⟩
          have HO := Aside0.mk ho
          have ne : (rr != rr) = false := by simp
          clear ho
          go_wp2_with fail
          go_region_held3 (fun w' => w'.cell? ⟨bq, 4, none⟩ = some (.int .i64 z4)) (go_keep)
            (first
              | (go_at_call 19; (with_reducible refine (PApply _ _ p mo mc so sc n d tu S _ _ z4 rr S' T2.out.drew.a HT.out.1 HT.out.2 HO.out).mono ?_); rintro e w5 ⟨rfl, vn', va', h5, hk5⟩; have M5 := Aside0.mk (Mid.of T2.out.drew h5 hk5); have BX5 := Aside0.mk (keepA hk5 T2.out.drew.a (blk_drew BX.out) (by decide) (by decide) (by decide)); clear h5 hk5 x0 x1 x2 x3 x4; obtain ⟨x0, x1, x2, x3, x4⟩ := cells5a BX5.out)
              | (go_at_call 20; (with_reducible refine (RApply _ _ q mo' mc' so' sc' n d tu S _ _ _ _ _ _ z4 rr S' M5.out.r HT.out.1 HT.out.2 HO.out).mono ?_); rintro e w6 ⟨rfl, h6, hk6⟩; have T6 := Aside0.mk (Mid.two M5.out h6 hk6); have BX6 := Aside0.mk (keepR hk6 M5.out.r BX5.out (by decide) (by decide) (by decide)); clear h6 hk6 x0 x1 x2 x3 x4; obtain ⟨x0, x1, x2, x3, x4⟩ := cells5a BX6.out))
          clear x0 x1 x2 x3 x4 T2 M5 BX BX5 BX6
          obtain ⟨vn9, va9, nb9, mi9, it9, at9, ab9, si9, h9⟩ := T6.out
          have T9 := Aside0.mk h9
          clear h9
          obtain ⟨m1, m2, m3, m4, m5⟩ := T9.out.look
          obtain ⟨gp, hgp⟩ : ∃ gp, gapS S' = gp := ⟨_, rfl⟩
          have HGP := Aside0.mk hgp
          clear hgp
          have n1 : (S'.lm != S'.lm) = false := by simp
          have n2 : (S'.ls != S'.ls) = false := by simp
          have n3 : (S'.follows != S'.follows) = false := by cases S'.follows <;> rfl
          have n4 : (gp != gp) = false := by simp
          go_wp2_with fail
          go_region_held3 (fun w' => w'.cell? ⟨q, 5, none⟩ = some (.pointer (some ⟨mc', 0, none⟩)) ∧ w'.cell? ⟨mc', 3, none⟩ = some (.int .i64 S'.lm) ∧ w'.cell? ⟨q, 6, none⟩ = some (.pointer (some ⟨sc', 0, none⟩)) ∧ w'.cell? ⟨sc', 3, none⟩ = some (.int .i64 S'.ls) ∧ w'.cell? ⟨q, 14, none⟩ = some (.bool S'.follows)) (go_keep)
            (first
              | (go_at_call 23; (with_reducible refine (PMaster _ _ p mo mc so sc n d tu S' _ _ T9.out.drew.a).mono ?_); rintro e w11 ⟨rfl, rfl⟩)
              | (go_at_call 24; (with_reducible refine (PSlave _ _ p mo mc so sc n d tu S' _ _ T9.out.drew.a).mono ?_); rintro e w12 ⟨rfl, rfl⟩)
              | (go_at_call 25; (with_reducible refine (PSettled _ _ p mo mc so sc n d tu S' _ _ T9.out.drew.a).mono ?_); rintro e w13 ⟨rfl, rfl⟩)
              | (go_at_call 26; (with_reducible refine (PGap _ _ p mo mc so sc n d tu S' _ _ T9.out.drew.a).mono ?_); rintro e w14 ⟨rfl, hb⟩; rw [HGP.out]; have T10 := Aside0.mk (T9.out.drew.below hb); clear hb m1 m2 m3 m4 m5; obtain ⟨m1, m2, m3, m4, m5⟩ := T10.out.look)
              | (go_at_call 27; (with_reducible refine (RGap _ _ q mo' mc' so' sc' n d tu S' _ _ _ _ _ _ T10.out.r).mono ?_); rintro e w15 ⟨rfl, hb⟩; rw [HGP.out]; have T11 := Aside0.mk (T10.out.below hb); clear hb m1 m2 m3 m4 m5; obtain ⟨m1, m2, m3, m4, m5⟩ := T11.out.look))
          go_wp2
          go_roundg k1
          case measure => omega
          case rel => exact ⟨i + 1, S', by rw [hi1], HI', ⟨⟨_, _, _, _, _, _, _, _, T11.out⟩⟩⟩

        have v1 : (z0 == 1) = false := by rw [beq_eq_false_iff_ne]; exact y1
        clear y1
        go_wp2
        obtain ⟨wo, rfl⟩ : ∃ wo : World, wo = wr := ⟨_, rfl⟩
        go_loopg [13] 30 (fun kq v13 w' => ∃ (k : Int) (S : AS), v13 = .int .i64 k ∧ Aside0 (0 ≤ k ∧ k + kq = 30) ∧ Aside0 (TwoEx w w' p mo mc so sc q mo' mc' so' sc' n d tu S) ∧ Aside0 (w'.heap[bq]? = some (.cells #[.int .i64 z0, .int .i64 z1, .int .i64 z2, .int .i64 z3, .int .i64 z4] 46 (0, 0))))
        case atStart => exact ⟨0, S, rfl, ⟨by omega⟩, ⟨⟨_, _, _, _, _, _, _, _, T2.out⟩⟩, BX⟩
        case round =>
          clear T2 BX x0 x1 x2 x3 x4
          obtain ⟨k, S, rfl, HK, TS, BX⟩ := hrel
          obtain ⟨x0, x1, x2, x3, x4⟩ := cells5a BX.out
          by_cases s1 : k < z1
          · have m1 : decide (k < z1) = true := decide_eq_true s1
            by_cases s2 : k < 30
            · have m2 : decide (k < 30) = true := decide_eq_true s2
              obtain ⟨k2, rfl⟩ : ∃ k2, gk = k2 + 1 := ⟨gk - 1, by have := HK.out; omega⟩
              have HK' : Aside0 (0 ≤ k + 1 ∧ k + 1 + k2 = 30) := ⟨by have := HK.out; omega⟩
              have hk1 : wrap64 (k + 1) = k + 1 := wr64 _ (by have := HK.out; omega) (by have := HK.out; omega)
              obtain ⟨vn, va, nb, mi, it, at_, ab, si, h2⟩ := TS.out
              have T2 := Aside0.mk h2
              obtain ⟨rr, S', ho⟩ : ∃ rr S', stepS n d S z2 z3 = (rr, S') := ⟨_, _, rfl⟩
              have HO := Aside0.mk ho
              have ne : (rr != rr) = false := by simp
              clear ho h2 s1 s2
              go_wp2_with fail
              go_region_held3 (fun w' => w'.cell? ⟨bq, 2, none⟩ = some (.int .i64 z2) ∧ w'.cell? ⟨bq, 3, none⟩ = some (.int .i64 z3)) (go_keep)
                (first
                  | (go_at_call 21; (with_reducible refine (PStep _ _ p mo mc so sc n d tu S _ _ z2 z3 rr S' T2.out.drew.a HN.out.1 HN.out.2.1 HO.out).mono ?_); rintro e w5 ⟨rfl, h5, hk5⟩; have M5 := Aside0.mk (Mid.of T2.out.drew h5 hk5); have BX5 := Aside0.mk (keepA hk5 T2.out.drew.a (blk_drew BX.out) (by decide) (by decide) (by decide)); clear h5 hk5 x0 x1 x2 x3 x4; obtain ⟨x0, x1, x2, x3, x4⟩ := cells5a BX5.out)
                  | (go_at_call 22; (with_reducible refine (RStep _ _ q mo' mc' so' sc' n d tu S _ _ _ _ _ _ z2 z3 rr S' M5.out.r HN.out.1 HN.out.2.1 HN.out.2.2.1 HN.out.2.2.2 HO.out).mono ?_); rintro e w6 ⟨rfl, h6, hk6⟩; have T6 := Aside0.mk (Mid.two M5.out ⟨_, _, _, _, _, _, h6⟩ hk6); have BX6 := Aside0.mk (keepR hk6 M5.out.r BX5.out (by decide) (by decide) (by decide)); clear h6 hk6 x0 x1 x2 x3 x4; obtain ⟨x0, x1, x2, x3, x4⟩ := cells5a BX6.out))
              clear x0 x1 x2 x3 x4 T2 M5 BX BX5 TS
              go_wp2
              go_roundg k2
              case measure => omega
              case rel => exact ⟨k + 1, S', by rw [hk1], HK', T6, BX6⟩
            · have m2 : decide (k < 30) = false := decide_eq_false s2
              clear s1 s2
              obtain ⟨S', hS'⟩ : ∃ S', S = S' := ⟨_, rfl⟩
              have T6 : Aside0 (TwoEx w _ p mo mc so sc q mo' mc' so' sc' n d tu S') := ⟨hS' ▸ TS.out⟩
              clear hS' TS BX
              obtain ⟨vn9, va9, nb9, mi9, it9, at9, ab9, si9, h9⟩ := T6.out
              have T9 := Aside0.mk h9
              clear h9
              obtain ⟨m1, m2, m3, m4, m5⟩ := T9.out.look
              obtain ⟨gp, hgp⟩ : ∃ gp, gapS S' = gp := ⟨_, rfl⟩
              have HGP := Aside0.mk hgp
              clear hgp
              have n1 : (S'.lm != S'.lm) = false := by simp
              have n2 : (S'.ls != S'.ls) = false := by simp
              have n3 : (S'.follows != S'.follows) = false := by cases S'.follows <;> rfl
              have n4 : (gp != gp) = false := by simp
              go_wp2
              (try go_wp2_with fail)
              go_region_held3 (fun w' => w'.cell? ⟨q, 5, none⟩ = some (.pointer (some ⟨mc', 0, none⟩)) ∧ w'.cell? ⟨mc', 3, none⟩ = some (.int .i64 S'.lm) ∧ w'.cell? ⟨q, 6, none⟩ = some (.pointer (some ⟨sc', 0, none⟩)) ∧ w'.cell? ⟨sc', 3, none⟩ = some (.int .i64 S'.ls) ∧ w'.cell? ⟨q, 14, none⟩ = some (.bool S'.follows)) (go_keep)
                (first
                  | (go_at_call 23; (with_reducible refine (PMaster _ _ p mo mc so sc n d tu S' _ _ T9.out.drew.a).mono ?_); rintro e w11 ⟨rfl, rfl⟩)
                  | (go_at_call 24; (with_reducible refine (PSlave _ _ p mo mc so sc n d tu S' _ _ T9.out.drew.a).mono ?_); rintro e w12 ⟨rfl, rfl⟩)
                  | (go_at_call 25; (with_reducible refine (PSettled _ _ p mo mc so sc n d tu S' _ _ T9.out.drew.a).mono ?_); rintro e w13 ⟨rfl, rfl⟩)
                  | (go_at_call 26; (with_reducible refine (PGap _ _ p mo mc so sc n d tu S' _ _ T9.out.drew.a).mono ?_); rintro e w14 ⟨rfl, hb⟩; rw [HGP.out]; have T10 := Aside0.mk (T9.out.drew.below hb); clear hb m1 m2 m3 m4 m5; obtain ⟨m1, m2, m3, m4, m5⟩ := T10.out.look)
                  | (go_at_call 27; (with_reducible refine (RGap _ _ q mo' mc' so' sc' n d tu S' _ _ _ _ _ _ T10.out.r).mono ?_); rintro e w15 ⟨rfl, hb⟩; rw [HGP.out]; have T11 := Aside0.mk (T10.out.below hb); clear hb m1 m2 m3 m4 m5; obtain ⟨m1, m2, m3, m4, m5⟩ := T11.out.look))
              go_wp2
              go_roundg k1
              case measure => omega
              case rel => exact ⟨i + 1, S', by rw [hi1], HI', ⟨⟨_, _, _, _, _, _, _, _, T11.out⟩⟩⟩

          · have m1 : decide (k < z1) = false := decide_eq_false s1
            clear s1
            obtain ⟨S', hS'⟩ : ∃ S', S = S' := ⟨_, rfl⟩
            have T6 : Aside0 (TwoEx w _ p mo mc so sc q mo' mc' so' sc' n d tu S') := ⟨hS' ▸ TS.out⟩
            clear hS' TS BX
            obtain ⟨vn9, va9, nb9, mi9, it9, at9, ab9, si9, h9⟩ := T6.out
            have T9 := Aside0.mk h9
            clear h9
            obtain ⟨m1, m2, m3, m4, m5⟩ := T9.out.look
            obtain ⟨gp, hgp⟩ : ∃ gp, gapS S' = gp := ⟨_, rfl⟩
            have HGP := Aside0.mk hgp
            clear hgp
            have n1 : (S'.lm != S'.lm) = false := by simp
            have n2 : (S'.ls != S'.ls) = false := by simp
            have n3 : (S'.follows != S'.follows) = false := by cases S'.follows <;> rfl
            have n4 : (gp != gp) = false := by simp
            go_wp2
            (try go_wp2_with fail)
            go_region_held3 (fun w' => w'.cell? ⟨q, 5, none⟩ = some (.pointer (some ⟨mc', 0, none⟩)) ∧ w'.cell? ⟨mc', 3, none⟩ = some (.int .i64 S'.lm) ∧ w'.cell? ⟨q, 6, none⟩ = some (.pointer (some ⟨sc', 0, none⟩)) ∧ w'.cell? ⟨sc', 3, none⟩ = some (.int .i64 S'.ls) ∧ w'.cell? ⟨q, 14, none⟩ = some (.bool S'.follows)) (go_keep)
              (first
                | (go_at_call 23; (with_reducible refine (PMaster _ _ p mo mc so sc n d tu S' _ _ T9.out.drew.a).mono ?_); rintro e w11 ⟨rfl, rfl⟩)
                | (go_at_call 24; (with_reducible refine (PSlave _ _ p mo mc so sc n d tu S' _ _ T9.out.drew.a).mono ?_); rintro e w12 ⟨rfl, rfl⟩)
                | (go_at_call 25; (with_reducible refine (PSettled _ _ p mo mc so sc n d tu S' _ _ T9.out.drew.a).mono ?_); rintro e w13 ⟨rfl, rfl⟩)
                | (go_at_call 26; (with_reducible refine (PGap _ _ p mo mc so sc n d tu S' _ _ T9.out.drew.a).mono ?_); rintro e w14 ⟨rfl, hb⟩; rw [HGP.out]; have T10 := Aside0.mk (T9.out.drew.below hb); clear hb m1 m2 m3 m4 m5; obtain ⟨m1, m2, m3, m4, m5⟩ := T10.out.look)
                | (go_at_call 27; (with_reducible refine (RGap _ _ q mo' mc' so' sc' n d tu S' _ _ _ _ _ _ T10.out.r).mono ?_); rintro e w15 ⟨rfl, hb⟩; rw [HGP.out]; have T11 := Aside0.mk (T10.out.below hb); clear hb m1 m2 m3 m4 m5; obtain ⟨m1, m2, m3, m4, m5⟩ := T11.out.look))
            go_wp2
            go_roundg k1
            case measure => omega
            case rel => exact ⟨i + 1, S', by rw [hi1], HI', ⟨⟨_, _, _, _, _, _, _, _, T11.out⟩⟩⟩


      · have u2 : decide (i < 40) = false := decide_eq_false t2
        clear t1 t2
        go_wp2_with fail
        (with_reducible refine (live_walk _).mono ?_); rintro e w5 ⟨rfl, hb⟩
        go_wp2_with fail
        go_ret
        exact ⟨rfl, below_step TW.out.B hb⟩
    · have u1 : decide (i < (len : Int)) = false := decide_eq_false t1
      clear t1
      go_wp2_with fail
      (with_reducible refine (live_walk _).mono ?_); rintro e w5 ⟨rfl, hb⟩
      go_wp2_with fail
      go_ret
      exact ⟨rfl, below_step TW.out.B hb⟩
set_option maxHeartbeats 4000000 in
set_option maxRecDepth 100000 in
theorem Plays_no (n d tu st : Int) (a b : Bool) (A : Option Addr) (len cap : Nat) (w : World) (h1 : accord_Right.f n d tu = some a) (h2 : accord_within.f st 1125899906842624 = some b) (h3 : bellbuoyref19_Right.f n d tu = some a) (hab : (a && b) = false) (hst : a = false ∨ st < 0 ∨ 1125899906842624 < st) :
    Calls Try.prog 4 #[.agg #[.int .i64 n, .int .i64 d, .int .i64 tu], .int .i64 st, .slice A len cap] w fun e w' => e = .returned (.bool true) ∧ Below w.heap.size w w' := by
  have F1 := Aside0.mk h1
  have F2 := Aside0.mk h2
  have F3 := Aside0.mk h3
  have HAB := Aside0.mk hab
  have HST := Aside0.mk hst
  have F6 : Aside0 (bellbuoylaw19_plain.f n d tu = some (n, d, tu)) := ⟨rfl⟩
  clear h1 h2 h3 hab hst
  have hu25 := Try.underlying25
  have X0 := Aside0.mk (blk_new w (.cells #[.int .i64 n, .int .i64 d, .int .i64 tu] 25))
  have B0 := Aside0.mk (below_alloc (Below.refl w.heap.size w) (.cells #[.int .i64 n, .int .i64 d, .int .i64 tu] 25))
  obtain ⟨c0, c1, c2⟩ := cells3a X0.out
  go_enter Try.func4, Try.ntmps4
  go_wp2_with fail
  (with_reducible refine (PNew_no n d tu st a b _ F1.out F2.out HAB.out).mono ?_); rintro e w1 ⟨rfl, hb⟩
  have X1 := Aside0.mk (blk_below X0.out hb)
  have B1 := Aside0.mk (below_step B0.out hb)
  clear hb X0 B0 c0 c1 c2
  obtain ⟨c0, c1, c2⟩ := cells3a X1.out
  go_wp2_with fail
  (with_reducible refine (bellbuoylaw19_plain.calls n d tu n d tu _ F6.out).mono ?_); rintro e w2 ⟨rfl, hb⟩
  have B2 := Aside0.mk (below_step B1.out hb)
  clear hb X1 B1 c0 c1 c2
  go_wp2_with fail
  (with_reducible refine (RNew_no n d tu st a _ F3.out HST.out).mono ?_); rintro e w3 ⟨rfl, hb⟩
  have B3 := Aside0.mk (below_step B2.out hb)
  clear hb B2
  go_wp2_with fail
  (with_reducible refine (live_walk _).mono ?_); rintro e w4 ⟨rfl, hb⟩
  go_wp2_with fail
  go_ret
  exact ⟨rfl, below_step B3.out hb⟩
theorem AccordPlays_walk (a0_0 a0_1 a0_2 a1 : Int) (A : Option Addr) (len cap : Nat) (w : World) (w0_0 : (Lit.int .i64 a0_0).wf = true) (w0_1 : (Lit.int .i64 a0_1).wf = true) (w0_2 : (Lit.int .i64 a0_2).wf = true) (w1 : (Lit.int .i64 a1).wf = true)
    (h : (A = none ∧ len = 0 ∧ cap = 0) ∨ ∃ x, A = some x ∧ len ≤ cap ∧ cap ≤ maxLen ∧ ∀ i, i < len → ∃ (z0 : Int) (z1 : Int) (z2 : Int) (z3 : Int) (z4 : Int), w.cell? (x.add (i * 5 + 0)) = some (.int .i64 z0) ∧ w.cell? (x.add (i * 5 + 1)) = some (.int .i64 z1) ∧ w.cell? (x.add (i * 5 + 2)) = some (.int .i64 z2) ∧ w.cell? (x.add (i * 5 + 3)) = some (.int .i64 z3) ∧ w.cell? (x.add (i * 5 + 4)) = some (.int .i64 z4) ∧ (Lit.int .i64 z0).wf = true ∧ (Lit.int .i64 z1).wf = true ∧ (Lit.int .i64 z2).wf = true ∧ (Lit.int .i64 z3).wf = true ∧ (Lit.int .i64 z4).wf = true) :
    Calls Try.prog 4 #[.agg #[.int .i64 a0_0, .int .i64 a0_1, .int .i64 a0_2], .int .i64 a1, .slice A len cap] w fun e w' => e = .returned (.bool true) ∧ Below w.heap.size w w' := by
  have b0 := (wf64 w0_0).def
  have hw : accord_within.f a1 1125899906842624 = some (decide (0 ≤ a1 ∧ a1 ≤ 1125899906842624)) := by
    unfold accord_within.f exact_Clamp.f mn
    by_cases h1 : a1 < 0
    · rw [if_pos h1]
      simp only [Option.bind_some]
      congr 1
      rw [Bool.eq_iff_iff, beq_iff_eq, decide_eq_true_eq]; omega
    · rw [if_neg h1]
      simp only [Option.bind_some]
      congr 1
      rw [Bool.eq_iff_iff, beq_iff_eq, decide_eq_true_eq]
      split <;> omega
  cases hr : rB a0_0 a0_1 a0_2 with
  | false => exact Plays_no a0_0 a0_1 a0_2 a1 false _ A len cap w (by rw [accRight_eq _ _ _ b0.1 b0.2, hr]) hw (by rw [refRight19, hr]) (Bool.false_and _) (.inl rfl)
  | true =>
    by_cases c : 0 ≤ a1 ∧ a1 ≤ 1125899906842624
    · exact Plays_yes a0_0 a0_1 a0_2 a1 A len cap w (acts5_row h) hr c.1 c.2
    · exact Plays_no a0_0 a0_1 a0_2 a1 true _ A len cap w (by rw [accRight_eq _ _ _ b0.1 b0.2, hr]) hw (by rw [refRight19, hr]) (by rw [decide_eq_false c]; rfl) (by right; omega)
end Go.Proofs.Ytjnllejfgljkdaa.P
