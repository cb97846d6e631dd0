/- What is proved here: each Go function that this text names answers as the Lean function of its name says, whenever that one answers; and a law's row follows from its plain statement. Laid by a program of the session over the kit's print. -/
import Derived.Test.YtjhnkncmdeineaaDoorProg
import Derived.Below
import Derived.Deep.Draws
import Derived.Deep.AppendLies
import Derived.Maps.AppendAt
import Derived.OwnWalk
import Derived.Laws.BytesArg
import Derived.Laws.MakeOwn
import Derived.Laws.OwnMore
import Derived.Deep.OwnRows
import Derived.Tactics
import Derived.Lib.ConvBytes
import Derived.Laws.Slices
import Derived.WalkKit
import Derived.KernelRfl
import Derived.RowKit3
import Derived.Deep.LoopGhost
import Derived.Deep.QuietTactic
import Derived.BigQuiet
import Derived.WideLaws
import Derived.Deep.DeepCutAuto
import Derived.Deep.CutBlock
import Derived.Deep.RegionHeld3
import Derived.Laws.Rows
import Derived.Lib.AppendStr
import Derived.ArgAppend
import Derived.Laws.IdiomCopy
import Derived.OrdersHeld
import Derived.Laws.BitsLemmas
import Derived.RowKit
import Derived.Test.YtjhnkncmdeineaaDoorWWords
import Derived.Test.YtjhnkncmdeineaaDoorWLast
import Derived.Test.YtjhnkncmdeineaaDoorWTab
import Derived.Test.YtjhnkncmdeineaaDoorWFour
import Derived.Test.YtjhnkncmdeineaaDoorWQPut
import Derived.Test.YtjhnkncmdeineaaDoorWApart
import Derived.Test.YtjhnkncmdeineaaDoorWArr
import Derived.Test.YtjhnkncmdeineaaDoorWZeros
import Derived.Test.YtjhnkncmdeineaaDoorWFoot
import Derived.Test.YtjhnkncmdeineaaDoorWKept
import Derived.Test.YtjhnkncmdeineaaDoorWShare
import Derived.Test.YtjhnkncmdeineaaDoorWN
import Derived.Test.YtjhnkncmdeineaaDoorWFootNe
import Derived.Test.YtjhnkncmdeineaaDoorWAt
import Derived.Test.YtjhnkncmdeineaaDoorWEqStruct
import Derived.Test.YtjhnkncmdeineaaDoorWRepsOne
import Derived.Test.YtjhnkncmdeineaaDoorWInv
import Derived.Test.YtjhnkncmdeineaaDoorWInvWords
import Derived.Test.YtjhnkncmdeineaaDoorWGuard
import Derived.Test.YtjhnkncmdeineaaDoorWNEv
import Derived.Test.YtjhnkncmdeineaaDoorWMore
namespace Go.Proofs.YtjhnkncmdeineaaDoor.P
open Go.RowKit Go.Proofs.YtjhnkncmdeineaaDoorW.PrintWords Go.Proofs.YtjhnkncmdeineaaDoorW.PrintLast Go.Proofs.YtjhnkncmdeineaaDoorW.PrintMore
attribute [local go_sem] max2_int min2_int max_two min_two max_three min_three max_four min_four   -- for this text's walks alone
set_option linter.unusedVariables false
set_option linter.unusedSimpArgs false



def errW : Option Int → Value
  | none => .nilIface
  | some c => .iface 0 (.int .i64 c)
theorem errW_none : errW none = .nilIface := rfl
theorem errW_some (c : Int) : errW (some c) = .iface 0 (.int .i64 c) := rfl

theorem info5 : (Tryd.prog.info? 5).map (fun i => (i.zero, i.size, i.bytes)) = some (some (.int .u8 0), 1, 1) := by kernel_rfl
-- the values' own types

theorem or_even (a b : Int) (ha : 0 ≤ a) (ha2 : a < 18446744073709551616) (he : a % 2 = 0) (hb : 0 ≤ b) (hb2 : b ≤ 1) : bits .or .u64 a b = a + b := by
  rw [u64_or a b ha ha2 hb (by omega)]
  have h := Nat.two_pow_add_eq_or_of_lt (i := 1) (b := b.toNat) (by omega) (a.toNat / 2)
  rw [show 2 ^ 1 * (a.toNat / 2) = a.toNat by omega] at h
  rw [← h]
  omega

theorem and_one (a : Int) (ha : 0 ≤ a) (ha2 : a < 18446744073709551616) : bits .and .u64 a 1 = a % 2 := by
  rw [u64_and a 1 ha ha2 (by omega) (by omega)]
  have h : (1 : Int).toNat = 1 := rfl
  rw [h, Nat.and_one_is_mod]
  omega

theorem u64w (n : Int) : IntKind.u64.wrap n = n % 18446744073709551616 := by rw [IntKind.wrap_u64]

theorem i64w (n : Int) (h0 : -9223372036854775808 ≤ n) (h1 : n ≤ 9223372036854775807) : wrap64 n = n := by unfold wrap64; omega

theorem pow_half (b : Int) (n : Nat) : b / 2 ^ (n + 1) = b / 2 ^ n / 2 := by
  rw [Int.pow_succ, Int.ediv_ediv_of_nonneg (Int.le_of_lt (Int.pow_pos (by omega)))]

theorem shr_u64 (b : Int) (n : Nat) (hn : n ≤ 64) : shr .u64 b (IntKind.u64.wrap (n : Int)) = b / 2 ^ n := by
  unfold shr
  rw [u64w]
  have h : ((n : Int) % 18446744073709551616).toNat = n := by omega
  rw [h, Nat.min_eq_left (by show n ≤ 64; exact hn)]

theorem wide_hi (wh wl : Int) (l0 : 0 ≤ wl) (l1 : wl < 18446744073709551616) (m : Nat) : (wh * 18446744073709551616 + wl) / 2 ^ (64 + m) = wh / 2 ^ m := by
  rw [Int.pow_add, ← Int.ediv_ediv_of_nonneg (by decide)]
  congr 1
  rw [show (2 : Int) ^ 64 = 18446744073709551616 from rfl]
  omega

theorem wide_lo (wh wl : Int) (n : Nat) (hn : n < 64) : ((wh * 18446744073709551616 + wl) / 2 ^ n) % 2 = (wl / 2 ^ n) % 2 := by
  obtain ⟨m, hm⟩ : ∃ m, 64 = n + 1 + m := ⟨63 - n, by omega⟩
  have h1 : (18446744073709551616 : Int) = 2 ^ m * 2 * 2 ^ n := by
    rw [show (18446744073709551616 : Int) = 2 ^ 64 from rfl, hm, Int.pow_add, Int.pow_add, Int.pow_one, Int.mul_comm, Int.mul_comm (2 ^ n) 2, Int.mul_assoc]
  rw [h1, ← Int.mul_assoc, ← Int.mul_assoc, Int.add_comm, Int.add_mul_ediv_right _ _ (Int.ne_of_gt (Int.pow_pos (by omega)))]
  generalize wh * 2 ^ m = c
  omega

/-- A number that is one of 64 bits, or none. -/
def fits (x : Int) : Int × Bool := if -9223372036854775808 ≤ x ∧ x ≤ 9223372036854775807 then (x, true) else (0, false)

def sgn (v : Int) (below : Bool) : Int × Bool := fits (if below = true then -v else v)

theorem two_cells {W w5 : World} {x y : Value} {t : TypeId} (hx : x.oneCell' = true) (hy : y.oneCell' = true) (hb : Below (W.alloc (.cells #[x, y] t)).heap.size (W.alloc (.cells #[x, y] t)) w5) :
    w5.cell? ⟨W.heap.size, 0, none⟩ = some x ∧ w5.cell? ⟨W.heap.size, 1, none⟩ = some y ∧ w5.frozen? ⟨W.heap.size, 0, none⟩ = false ∧ w5.frozen? ⟨W.heap.size, 1, none⟩ = false ∧ W.heap.size < w5.heap.size :=
  ⟨pw_cell_below hb (by simp), pw_cell_below hb (by simp), (hb.frozen (p := ⟨W.heap.size, 0, none⟩) (by simp)).trans (by simp), (hb.frozen (p := ⟨W.heap.size, 1, none⟩) (by simp)).trans (by simp), by have := hb.size; simp at this; omega⟩

def In64 (a : Int) : Prop := -9223372036854775808 ≤ a ∧ a ≤ 9223372036854775807

instance (a : Int) : Decidable (In64 a) := by unfold In64; infer_instance

theorem toInt_of (x : BitVec 64) : IntKind.i64.wrap (x.toNat : Int) = x.toInt := by
  rw [IntKind.wrap_i64, BitVec.toInt_eq_toNat_cond]
  have := x.isLt
  split <;> omega

theorem ofInt_toInt (x : Int) (h0 : -9223372036854775808 ≤ x) (h1 : x ≤ 9223372036854775807) : (BitVec.ofInt 64 x).toInt = x := by
  rw [BitVec.toInt_ofInt, Int.bmod_def]
  split <;> omega

theorem ofInt_msb (x : Int) (h0 : -9223372036854775808 ≤ x) (h1 : x ≤ 9223372036854775807) : (BitVec.ofInt 64 x).msb = decide (x < 0) := by
  rw [BitVec.msb_eq_toInt, ofInt_toInt x h0 h1]

theorem and_def (x y : Int) : bits .and .i64 x y = (BitVec.ofInt 64 x &&& BitVec.ofInt 64 y).toInt := toInt_of _

theorem xor_def (x y : Int) : bits .xor .i64 x y = (BitVec.ofInt 64 x ^^^ BitVec.ofInt 64 y).toInt := toInt_of _

theorem xor_range (x y : Int) : -9223372036854775808 ≤ bits .xor .i64 x y ∧ bits .xor .i64 x y ≤ 9223372036854775807 := by
  rw [xor_def]
  have h1 := BitVec.le_toInt (BitVec.ofInt 64 x ^^^ BitVec.ofInt 64 y)
  have h2 := BitVec.toInt_lt (x := BitVec.ofInt 64 x ^^^ BitVec.ofInt 64 y)
  omega

theorem and_neg (x y : Int) (x0 : -9223372036854775808 ≤ x) (x1 : x ≤ 9223372036854775807) (y0 : -9223372036854775808 ≤ y) (y1 : y ≤ 9223372036854775807) : bits .and .i64 x y < 0 ↔ (x < 0 ∧ y < 0) := by
  have h : (BitVec.ofInt 64 x &&& BitVec.ofInt 64 y).msb = (decide (x < 0) && decide (y < 0)) := by rw [BitVec.msb_and, ofInt_msb x x0 x1, ofInt_msb y y0 y1]
  rw [BitVec.msb_eq_toInt] at h
  rw [and_def, ← decide_eq_true_iff (p := _ < (0 : Int)), h]
  simp

theorem xor_neg (x y : Int) (x0 : -9223372036854775808 ≤ x) (x1 : x ≤ 9223372036854775807) (y0 : -9223372036854775808 ≤ y) (y1 : y ≤ 9223372036854775807) : bits .xor .i64 x y < 0 ↔ ¬ (x < 0 ↔ y < 0) := by
  have h : (BitVec.ofInt 64 x ^^^ BitVec.ofInt 64 y).msb = (decide (x < 0) ^^ decide (y < 0)) := by rw [BitVec.msb_xor, ofInt_msb x x0 x1, ofInt_msb y y0 y1]
  rw [BitVec.msb_eq_toInt] at h
  rw [xor_def, ← decide_eq_true_iff (p := _ < (0 : Int)), h]
  by_cases a : x < 0 <;> by_cases b : y < 0 <;> simp [a, b]

theorem wrap64_range (n : Int) : -9223372036854775808 ≤ wrap64 n ∧ wrap64 n ≤ 9223372036854775807 := by unfold wrap64; omega

def fit64 (x : Int) : Int × Bool := if -9223372036854775808 ≤ x ∧ x ≤ 9223372036854775807 then (x, true) else (0, false)

theorem fit64_in {x : Int} (h0 : -9223372036854775808 ≤ x) (h1 : x ≤ 9223372036854775807) : fit64 x = (x, true) := if_pos ⟨h0, h1⟩

theorem fit64_out {x : Int} (h : ¬ (-9223372036854775808 ≤ x ∧ x ≤ 9223372036854775807)) : fit64 x = (0, false) := if_neg h

theorem wr64 (n : Int) (h0 : -9223372036854775808 ≤ n) (h1 : n ≤ 9223372036854775807) : wrap64 n = n := by unfold wrap64; omega

theorem mod64 (n : Int) : IntKind.u64.wrap n = n % 18446744073709551616 := by rw [IntKind.wrap_u64]

theorem kn_test (Y y1 y0 h m : Int) (hY : Y = y1 * 4294967296 + y0) (a0 : 2147483648 ≤ y1) (a1 : y1 < 4294967296) (b0 : 0 ≤ y0) (b1 : y0 < 4294967296) (h0 : 0 ≤ h) (h1 : h < Y) (m0 : 0 ≤ m) (m1 : m < 4294967296) (q r : Int) (hq : h = q * y1 + r) : (q * y0 ≤ r * 4294967296 + m ↔ q ≤ (h * 4294967296 + m) / Y) := by
  rw [Int.le_ediv_iff_mul_le (by omega)]
  have e : q * Y = q * y1 * 4294967296 + q * y0 := by rw [hY, Int.mul_add, Int.mul_assoc]
  rw [e]
  generalize q * y1 = z at *
  generalize q * y0 = u at *
  omega

theorem kn_first (Y y1 y0 h m : Int) (hY : Y = y1 * 4294967296 + y0) (a0 : 2147483648 ≤ y1) (a1 : y1 < 4294967296) (b0 : 0 ≤ y0) (b1 : y0 < 4294967296) (h0 : 0 ≤ h) (h1 : h < Y) (m0 : 0 ≤ m) (m1 : m < 4294967296) : (h * 4294967296 + m) / Y ≤ h / y1 := by
  rw [Int.le_ediv_iff_mul_le (by omega)]
  have e := Int.mul_ediv_add_emod (h * 4294967296 + m) Y
  have r0 := Int.emod_nonneg (h * 4294967296 + m) (b := Y) (by omega)
  have q0 : 0 ≤ (h * 4294967296 + m) / Y := Int.ediv_nonneg (by omega) (by omega)
  generalize (h * 4294967296 + m) / Y = Q at *
  have e2 : Y * Q = Q * y1 * 4294967296 + Q * y0 := by rw [hY, Int.mul_comm, Int.mul_add, Int.mul_assoc]
  have p : 0 ≤ Q * y0 := Int.mul_nonneg q0 b0
  omega

theorem kn_small (Y y1 y0 h m : Int) (hY : Y = y1 * 4294967296 + y0) (a0 : 2147483648 ≤ y1) (a1 : y1 < 4294967296) (b0 : 0 ≤ y0) (b1 : y0 < 4294967296) (h0 : 0 ≤ h) (h1 : h < Y) (m0 : 0 ≤ m) (m1 : m < 4294967296) (q r : Int) (hq : h = q * y1 + r) (hr : 4294967296 ≤ r) : q < 4294967296 := by
  apply Classical.byContradiction
  intro hc
  have := Int.mul_le_mul_of_nonneg_right (a := 4294967296) (b := q) (c := y1) (by omega) (by omega)
  omega

theorem kn_end (Y y1 y0 h m : Int) (hY : Y = y1 * 4294967296 + y0) (a0 : 2147483648 ≤ y1) (a1 : y1 < 4294967296) (b0 : 0 ≤ y0) (b1 : y0 < 4294967296) (h0 : 0 ≤ h) (h1 : h < Y) (m0 : 0 ≤ m) (m1 : m < 4294967296) (q r : Int) (hq : h = q * y1 + r) (hr : 4294967296 ≤ r) (q0 : 0 ≤ q) : q ≤ (h * 4294967296 + m) / Y := by
  have hs := kn_small Y y1 y0 h m hY a0 a1 b0 b1 h0 h1 m0 m1 q r hq hr
  rw [← kn_test Y y1 y0 h m hY a0 a1 b0 b1 h0 h1 m0 m1 q r hq]
  have : q * y0 ≤ 4294967296 * 4294967296 := Int.mul_le_mul (by omega) (by omega) b0 (by omega)
  omega

theorem quo_u64 (a b : Int) (ha : 0 ≤ a) (ha1 : a < 18446744073709551616) (hb : 1 ≤ b) : IntKind.u64.wrap (Int.tdiv a b) = a / b := by
  have := Int.ediv_le_self b ha
  have h2 : 0 ≤ a / b := Int.ediv_nonneg ha (by omega)
  rw [Int.tdiv_eq_ediv_of_nonneg ha, mod64]
  omega

theorem rem_u64 (a b : Int) (ha : 0 ≤ a) (ha1 : a < 18446744073709551616) (hb : 1 ≤ b) : IntKind.u64.wrap (a - IntKind.u64.wrap (a / b * b)) = a % b := by
  have e := Int.mul_ediv_add_emod a b
  have r0 := Int.emod_nonneg a (b := b) (by omega)
  have h2 : 0 ≤ a / b * b := Int.mul_nonneg (Int.ediv_nonneg ha (by omega)) (by omega)
  rw [Int.mul_comm] at e
  rw [mod64, mod64]
  generalize a / b * b = z at *
  omega

theorem low32 (z : Int) (h0 : 0 ≤ z) (h1 : z < 18446744073709551616) : bits .and .u64 z 4294967295 = z % 4294967296 := and_low32 z h0 h1

/-! The number of bits of a number: by the table of Go's library. -/
def len8 : ByteArray := ⟨#[0, 1, 2, 2, 3, 3, 3, 3, 4, 4, 4, 4, 4, 4, 4, 4, 5, 5, 5, 5, 5, 5, 5, 5, 5, 5, 5, 5, 5, 5, 5, 5, 6, 6, 6, 6, 6, 6, 6, 6, 6, 6, 6, 6, 6, 6, 6, 6, 6, 6, 6, 6, 6, 6, 6, 6, 6, 6, 6, 6, 6, 6, 6, 6, 7, 7, 7, 7, 7, 7, 7, 7, 7, 7, 7, 7, 7, 7, 7, 7, 7, 7, 7, 7, 7, 7, 7, 7, 7, 7, 7, 7, 7, 7, 7, 7, 7, 7, 7, 7, 7, 7, 7, 7, 7, 7, 7, 7, 7, 7, 7, 7, 7, 7, 7, 7, 7, 7, 7, 7, 7, 7, 7, 7, 7, 7, 7, 7, 8, 8, 8, 8, 8, 8, 8, 8, 8, 8, 8, 8, 8, 8, 8, 8, 8, 8, 8, 8, 8, 8, 8, 8, 8, 8, 8, 8, 8, 8, 8, 8, 8, 8, 8, 8, 8, 8, 8, 8, 8, 8, 8, 8, 8, 8, 8, 8, 8, 8, 8, 8, 8, 8, 8, 8, 8, 8, 8, 8, 8, 8, 8, 8, 8, 8, 8, 8, 8, 8, 8, 8, 8, 8, 8, 8, 8, 8, 8, 8, 8, 8, 8, 8, 8, 8, 8, 8, 8, 8, 8, 8, 8, 8, 8, 8, 8, 8, 8, 8, 8, 8, 8, 8, 8, 8, 8, 8, 8, 8, 8, 8, 8, 8, 8, 8, 8, 8, 8, 8, 8, 8, 8, 8, 8, 8, 8, 8]⟩

theorem len8_size : len8.size = 256 := by decide +kernel

def bl (n : Nat) : Nat := if n = 0 then 0 else n.log2 + 1

theorem len8_all : ∀ i : Fin 256, (len8.data.getD i.1 0).toNat = bl i.1 := by decide +kernel

theorem len8_at (n : Nat) (h : n < len8.size) : (len8[n]'h).toNat = bl n := by
  have h1 := len8_all ⟨n, by rw [len8_size] at h; exact h⟩
  rw [← h1]
  have h2 : len8.data.getD n 0 = len8.data[n]'h := by rw [Array.getD_eq_getD_getElem?, Array.getElem?_eq_getElem (show n < len8.data.size from h)]; rfl
  rw [h2]
  rfl

theorem bl_spec (n : Nat) (h : 0 < n) : 1 ≤ bl n ∧ 2 ^ (bl n - 1) ≤ n ∧ n < 2 ^ bl n := by
  unfold bl
  rw [if_neg (by omega)]
  exact ⟨by omega, Nat.log2_self_le (by omega), Nat.lt_log2_self⟩

theorem bl_unique (n L : Nat) (h : 1 ≤ L) (h1 : 2 ^ (L - 1) ≤ n) (h2 : n < 2 ^ L) : bl n = L := by
  have hp : 0 < 2 ^ (L - 1) := Nat.two_pow_pos _
  have := bl_spec n (by omega)
  apply Classical.byContradiction
  intro hne
  rcases Nat.lt_or_ge (bl n) L with h3 | h3
  · have : 2 ^ bl n ≤ 2 ^ (L - 1) := Nat.pow_le_pow_right (by omega) (by omega)
    omega
  · have : 2 ^ L ≤ 2 ^ (bl n - 1) := Nat.pow_le_pow_right (by omega) (by omega)
    omega

theorem bl_shift (n k : Nat) (h : 2 ^ k ≤ n) : bl n = bl (n / 2 ^ k) + k := by
  have hq : 0 < n / 2 ^ k := Nat.div_pos h (Nat.two_pow_pos _)
  have s := bl_spec _ hq
  have hp : 0 < 2 ^ k := Nat.two_pow_pos _
  refine bl_unique _ _ (by omega) ?_ ?_
  · rw [show bl (n / 2 ^ k) + k - 1 = (bl (n / 2 ^ k) - 1) + k by omega, Nat.pow_add]
    exact (Nat.le_div_iff_mul_le hp).1 s.2.1
  · rw [Nat.pow_add]
    exact (Nat.div_lt_iff_lt_mul hp).1 s.2.2

theorem bl_le (n : Nat) (h : n < 18446744073709551616) : bl n ≤ 64 := by
  rcases Nat.eq_zero_or_pos n with rfl | h0
  · decide
  · have s := bl_spec n h0
    apply Classical.byContradiction
    intro hc
    have : 2 ^ 64 ≤ 2 ^ (bl n - 1) := Nat.pow_le_pow_right (by omega) (by omega)
    have h64 : 2 ^ 64 = 18446744073709551616 := rfl
    omega

theorem bl_shiftI (x : Int) (k : Nat) (p : Int) (hp : p = 2 ^ k) (h : p ≤ x) : ((bl x.toNat : Nat) : Int) = (bl (x / p).toNat : Nat) + k := by
  subst hp
  have h0 : (0 : Int) < 2 ^ k := Int.pow_pos (by omega)
  obtain ⟨n, rfl⟩ := Int.eq_ofNat_of_zero_le (show 0 ≤ x by omega)
  have h1 : 2 ^ k ≤ n := by exact_mod_cast h
  have h2 : ((n : Int) / 2 ^ k).toNat = n / 2 ^ k := by
    have : ((n : Int) / 2 ^ k) = ((n / 2 ^ k : Nat) : Int) := by rw [Int.natCast_ediv]; simp
    rw [this, Int.toNat_natCast]
  rw [h2, Int.toNat_natCast, bl_shift n k h1]
  omega

theorem or32 (x y : Int) (x0 : 0 ≤ x) (x1 : x < 18446744073709551616) (hx : x % 4294967296 = 0) (y0 : 0 ≤ y) (y1 : y < 4294967296) : bits .or .u64 x y = x + y :=
  bits_join .u64 64 (by decide) (fun n h₀ h₁ => by rw [mod64]; have : (2 : Int) ^ 64 = 18446744073709551616 := rfl; omega) 32 x y x0 (by have : (2 : Int) ^ 32 = 4294967296 := rfl; omega) (by have : (2 : Int) ^ 64 = 18446744073709551616 := rfl; omega) y0 (by have : (2 : Int) ^ 32 = 4294967296 := rfl; omega) (by have : (2 : Int) ^ 64 = 18446744073709551616 := rfl; omega)

theorem xor_max (x : Int) (h0 : 0 ≤ x) (h1 : x < 18446744073709551616) : bits .xor .u64 IntKind.u64.max x = 18446744073709551615 - x := by
  have hm : BitVec.ofInt 64 IntKind.u64.max = BitVec.allOnes 64 := by decide
  show IntKind.u64.wrap ((BitVec.ofInt 64 IntKind.u64.max ^^^ BitVec.ofInt 64 x).toNat : Nat) = _
  rw [hm, BitVec.allOnes_xor, BitVec.toNat_not, BitVec.toNat_ofInt, mod64]
  omega

theorem signs (a b : Int) : ∃ P, (if a < 0 then -a else a) * (if b < 0 then -b else b) = P ∧ 0 ≤ P ∧ a * b = if (decide (a < 0) != decide (b < 0)) = true then -P else P := by
  refine ⟨_, rfl, Int.mul_nonneg (by split <;> omega) (by split <;> omega), ?_⟩
  by_cases ha : a < 0 <;> by_cases hb : b < 0 <;> simp [ha, hb, Int.neg_mul, Int.mul_neg]

theorem xbelow (a b : Int) (a0 : -9223372036854775808 ≤ a) (a1 : a ≤ 9223372036854775807) (b0 : -9223372036854775808 ≤ b) (b1 : b ≤ 9223372036854775807) : decide (bits .xor .i64 a b < 0) = (decide (a < 0) != decide (b < 0)) := by
  have key : ∀ x : BitVec 64, IntKind.i64.wrap (x.toNat : Int) = x.toInt := by
    intro x
    rw [IntKind.wrap_i64, BitVec.toInt_eq_toNat_cond]
    have := x.isLt
    split <;> omega
  have msb : ∀ x : Int, -9223372036854775808 ≤ x → x ≤ 9223372036854775807 → (BitVec.ofInt 64 x).msb = decide (x < 0) := by
    intro x h0 h1
    rw [BitVec.msb_eq_toInt, BitVec.toInt_ofInt, Int.bmod_def]
    congr 1
    rw [eq_iff_iff]
    split <;> omega
  have h : (BitVec.ofInt 64 a ^^^ BitVec.ofInt 64 b).msb = (decide (a < 0) ^^ decide (b < 0)) := by rw [BitVec.msb_xor, msb a a0 a1, msb b b0 b1]
  rw [BitVec.msb_eq_toInt, ← key] at h
  show decide (IntKind.i64.wrap ((BitVec.ofInt 64 a ^^^ BitVec.ofInt 64 b).toNat : Nat) < 0) = _
  rw [h]

theorem In64.def {a : Int} (h : In64 a) : -9223372036854775808 ≤ a ∧ a ≤ 9223372036854775807 := h

theorem abs_bound (a b : Int) (ha : In64 a) (hb : In64 b) : (if a < 0 then -a else a) * (if b < 0 then -b else b) ≤ 85070591730234615865843651857942052864 := by
  have ha := ha.def
  have hb := hb.def
  have h1 : (if a < 0 then -a else a) * (if b < 0 then -b else b) ≤ 9223372036854775808 * 9223372036854775808 :=
    Int.mul_le_mul (by split <;> omega) (by split <;> omega) (by split <;> omega) (by omega)
  omega

theorem cells4d {w : World} {g : Nat} {a b c d : Value} {t : TypeId} (h : w.heap[g]? = some (.cells #[a, b, c, d] t (0, 0))) :
    w.cell? ⟨g, 0, none⟩ = some a ∧ w.cell? ⟨g, 1, none⟩ = some b ∧ w.cell? ⟨g, 2, none⟩ = some c ∧ w.cell? ⟨g, 3, none⟩ = some d ∧
    w.frozen? ⟨g, 0, none⟩ = false ∧ w.frozen? ⟨g, 1, none⟩ = false ∧ w.frozen? ⟨g, 2, none⟩ = false ∧ w.frozen? ⟨g, 3, none⟩ = false :=
  ⟨(blk_cell h 0).trans rfl, (blk_cell h 1).trans rfl, (blk_cell h 2).trans rfl, (blk_cell h 3).trans rfl, blk_frozen h 0, blk_frozen h 1, blk_frozen h 2, blk_frozen h 3⟩

theorem cells2d {w : World} {g : Nat} {a b : Value} {t : TypeId} (h : w.heap[g]? = some (.cells #[a, b] t (0, 0))) :
    w.cell? ⟨g, 0, none⟩ = some a ∧ w.cell? ⟨g, 1, none⟩ = some b ∧ w.frozen? ⟨g, 0, none⟩ = false ∧ w.frozen? ⟨g, 1, none⟩ = false :=
  ⟨(blk_cell h 0).trans rfl, (blk_cell h 1).trans rfl, blk_frozen h 0, blk_frozen h 1⟩

end Go.Proofs.YtjhnkncmdeineaaDoor.P
