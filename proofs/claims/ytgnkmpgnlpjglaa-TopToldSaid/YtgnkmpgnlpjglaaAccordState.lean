/- What a pair of clocks comes to, in plain Lean: a bit goes by, what both have is noted, and applied. No condition. -/
import Derived.Test.YtgnkmpgnlpjglaaAccordOsc
namespace Go.Proofs.Ytgnkmpgnlpjglaa.P
open Go.RowKit Go.Proofs.YtgnkmpgnlpjglaaW.PrintWords Go.Proofs.YtgnkmpgnlpjglaaW.PrintLast Go.Proofs.YtgnkmpgnlpjglaaW.PrintMore
set_option linter.unusedVariables false
set_option linter.unusedSimpArgs false
/-- How a pair stands. -/
structure AS where
  cm : Int
  wm : Bool
  cs : Int
  ws : Bool
  rm : Int
  bm : Int
  km : Int
  lm : Int
  rs : Int
  bs : Int
  ks : Int
  ls : Int
  bits : Int
  noted : Option (Int × Int × Int)
  applied : Option (Int × Int × Int)
  follows : Bool
/-- Behind a bit that went by on both sides. -/
def AS.next (S : AS) (c1 : Int) (w1 : Bool) (c2 : Int) (w2 : Bool) : AS :=
  { S with cm := c1, wm := w1, cs := c2, ws := w2, bits := wrap64 (S.bits + 1), lm := readV S.lm (lookV S.rm S.bm S.km c1).1 (lookV S.rm S.bm S.km c1).2, ls := readV S.ls (lookV S.rs S.bs S.ks c2).1 (lookV S.rs S.bs S.ks c2).2, follows := S.follows || (S.applied.isSome && (lookV S.rs S.bs S.ks c2).2 && ((lookV S.rs S.bs S.ks c2).1 == readV S.ls (lookV S.rs S.bs S.ks c2).1 (lookV S.rs S.bs S.ks c2).2)) }
def stepS (n d : Int) (S : AS) (x y : Int) : Int × AS :=
  if (stepF n d S.cm S.wm x).1 = 0 then
    if (stepF n d S.cs S.ws y).1 = 0 then (0, S.next (stepF n d S.cm S.wm x).2.1 (stepF n d S.cm S.wm x).2.2 (stepF n d S.cs S.ws y).2.1 (stepF n d S.cs S.ws y).2.2)
    else ((stepF n d S.cs S.ws y).1, S)
  else ((stepF n d S.cm S.wm x).1, S)
def capS (S : AS) : Bool × AS :=
  if ((lookV S.rm S.bm S.km S.cm).2 && (lookV S.rs S.bs S.ks S.cs).2) = true then (true, { S with noted := some ((lookV S.rm S.bm S.km S.cm).1, (lookV S.rs S.bs S.ks S.cs).1, S.bits) }) else (false, S)
/-- The slave's clock on another line. -/
def AS.line (S : AS) (r b k : Int) : AS := { S with rs := r, bs := b, ks := k }
def AS.done (S : AS) (m s b : Int) : AS := { S with applied := some (m, s, b), noted := none }
def appS (tu : Int) (S : AS) (rate : Int) : Int × AS :=
  match S.noted with
  | none => (8, S)
  | some (m, s, b) =>
    if 1048576 - tu ≤ rate ∧ rate ≤ 1048576 + tu then
      let t := tuneV S.rs S.bs S.ks S.cs rate
      if t.1 = 0 then
        let u := onV t.2.1 t.2.2.1 t.2.2.2 S.cs (wrap64 (m - s)) t.2.2.2
        if u.1 = 0 then (0, (S.line u.2.1 u.2.2.1 u.2.2.2).done m s b) else (u.1, S.line u.2.1 u.2.2.1 u.2.2.2)
      else (t.1, S)
    else (1, S)
def gapS (S : AS) : Int := match S.applied with | none => 0 | some (_, _, b) => wrap64 (S.bits - b)
/-- What holds of the numbers however a pair is led. -/
structure Ok (S : AS) : Prop where
  cm : 0 ≤ S.cm ∧ S.cm ≤ 1152921504606846976
  cs : 0 ≤ S.cs ∧ S.cs ≤ 1152921504606846976
  rm : In64 S.rm
  bm : In64 S.bm
  km : In64 S.km
  lm : In64 S.lm
  rs : In64 S.rs
  bs : In64 S.bs
  ks : In64 S.ks
  ls : In64 S.ls
theorem stepF_bounds {n d c t r c' : Int} {wl wl' : Bool} (hs : stepF n d c wl t = (r, c', wl')) (h0 : 0 ≤ c) (h1 : c ≤ 1152921504606846976) : 0 ≤ c' ∧ c' ≤ 1152921504606846976 := by
  unfold stepF at hs
  split at hs
  · simp only [Prod.mk.injEq] at hs; omega
  · split at hs
    · simp only [Prod.mk.injEq] at hs; omega
    · simp only [Prod.mk.injEq] at hs; omega
theorem stepF_same {n d c t r c' : Int} {wl wl' : Bool} (hs : stepF n d c wl t = (r, c', wl')) (h : r ≠ 0) : c' = c ∧ wl' = wl := by
  unfold stepF at hs
  split at hs
  · simp only [Prod.mk.injEq] at hs; exact ⟨hs.2.1.symm, hs.2.2.symm⟩
  · split at hs
    · simp only [Prod.mk.injEq] at hs; exact ⟨hs.2.1.symm, hs.2.2.symm⟩
    · simp only [Prod.mk.injEq] at hs; exact absurd hs.1.symm h
theorem Ok.next {S : AS} (h : Ok S) {c1 c2 : Int} {w1 w2 : Bool} (h1 : 0 ≤ c1 ∧ c1 ≤ 1152921504606846976) (h2 : 0 ≤ c2 ∧ c2 ≤ 1152921504606846976) : Ok (S.next c1 w1 c2 w2) :=
  ⟨h1, h2, h.rm, h.bm, h.km, read_64 rfl h.lm, h.rs, h.bs, h.ks, read_64 rfl h.ls⟩
theorem Ok.line {S : AS} (h : Ok S) {r b k : Int} (hr : In64 r) (hb : In64 b) (hk : In64 k) : Ok (S.line r b k) := ⟨h.cm, h.cs, h.rm, h.bm, h.km, h.lm, hr, hb, hk, h.ls⟩
theorem Ok.done {S : AS} (h : Ok S) (m s b : Int) : Ok (S.done m s b) := ⟨h.cm, h.cs, h.rm, h.bm, h.km, h.lm, h.rs, h.bs, h.ks, h.ls⟩
theorem in64_of {x : Int} (h : 0 ≤ x ∧ x ≤ 1152921504606846976) : In64 x := by unfold In64; omega
end Go.Proofs.Ytgnkmpgnlpjglaa.P
