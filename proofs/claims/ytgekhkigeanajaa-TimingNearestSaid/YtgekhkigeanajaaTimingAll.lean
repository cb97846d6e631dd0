/- All timings of so many ticks a bit, by the program's iterators: the outer one. Conditions: the ranges that each lemma names. -/
import Derived.Test.YtgekhkigeanajaaTimingIter
namespace Go.Proofs.Ytgekhkigeanajaa.P
open Go.RowKit Go.Proofs.YtgekhkigeanajaaW.PrintWords Go.Proofs.YtgekhkigeanajaaW.PrintLast Go.Proofs.YtgekhkigeanajaaW.PrintMore
attribute [local go_sem] Oper.semAt_some
set_option linter.unusedVariables false
set_option linter.unusedSimpArgs false
theorem anyDepthR {F : Fence} (hd : F.depth = none) {m : Nat} (m' : Nat) {P : Program} {l : Nat} {args : Array Value} {W : World} {R : Ending → World → Prop} (h : YieldAt F m P l args W R) : YieldAt F m' P l args W R := by
  obtain ⟨fn, tmps, assign, body, hy, hf, hR⟩ := h
  exact ⟨fn, tmps, assign, body, hy, hf, fun c cs _ => hR c cs (by unfold Fence.room; rw [hd]; intro d h; cases h)⟩
def markD (D : Nat) : Deferred := { target := .collected D, args := #[] }
theorem leaves_marks {F : Fence} {n : Nat} {P : Program} {fn : Func} {tmps : Array Value} {R : Ending → World → Prop} {B : Nat} {I : World → Prop} (hI : OwnFrom B (fun (_ : Unit) W => I W)) (hres : ∀ W, ∃ v, (results fn tmps).run P W = .ok v W) (hR : ∀ v W, I W → R (.returned v) W) :
    ∀ (Ds : List Nat) (W : World), Ds.Nodup → (∀ D ∈ Ds, B ≤ D ∧ W.heap[D]? = some (.deferred (some []))) → I W → LeavesInM F n P fn tmps R (Ds.map markD) .returning W
  | [], W, _, _, h => by
    obtain ⟨v, hv⟩ := hres W
    exact ⟨v, hv, hR v W h⟩
  | D :: Ds, W, hn, hd, h => by
    have h0 := hd D List.mem_cons_self
    have hn' := List.nodup_cons.1 hn
    refine ⟨by simp, .inl ⟨D, _, rfl, run_takeDeferred h0.2, ?_⟩⟩
    refine leaves_marks hI hres hR Ds _ hn'.2 (fun E hE => ?_) (hI.putObj (s := ()) _ h h0.1 h0.2 rfl)
    have h1 := hd E (List.mem_cons_of_mem _ hE)
    exact ⟨h1.1, (World.putObj_heap_other (fun e => hn'.1 (by rw [← e]; exact hE))).trans h1.2⟩
def tickQ (bit q : Int) (t : Tm) : Tm := { t with k := Int.tdiv bit q }
def okQ (bit q : Int) (t : Tm) : Bool := (Int.tmod bit q == 0) && (tickQ bit q t).rightB
def mapQ (bit q : Int) (l : List Tm) : List Tm := (l.filter (okQ bit q)).map (tickQ bit q)
theorem mapQ_snoc (bit q : Int) (l : List Tm) (t : Tm) : mapQ bit q (l ++ [t]) = if okQ bit q t = true then mapQ bit q l ++ [tickQ bit q t] else mapQ bit q l := by
  unfold mapQ
  rw [List.filter_append]
  simp only [List.filter_cons, List.filter_nil]
  split <;> simp
theorem mapQ_len (bit q : Int) (l : List Tm) : (mapQ bit q l).length ≤ l.length := by
  unfold mapQ
  rw [List.length_map]
  exact List.length_filter_le _ _
def allTo (bit : Int) : Nat → List Tm
  | 0 => []
  | m + 1 => allTo bit m ++ mapQ bit (25 - (m : Int)) (shL (25 - (m : Int)) 256)
def allL (bit : Int) : List Tm := if 1 ≤ bit then allTo bit 18 else []
theorem allTo_len (bit : Int) : ∀ m, (allTo bit m).length ≤ 256 * m
  | 0 => Nat.le_refl _
  | m + 1 => by
    have h1 := allTo_len bit m
    have h2 := mapQ_len bit (25 - (m : Int)) (shL (25 - (m : Int)) 256)
    have h3 := shL_len (25 - (m : Int)) 256
    unfold allTo
    rw [List.length_append]
    omega
theorem all_in (F : Fence) (n : Nat) (h : F.fn 34) (hro : F.round = none) (q : Int) (w : World) :
    CallsIn F n Try.prog 34 #[.int .i64 q] w fun e w' => e = .returned (.func (.func 43) #[] #[.pointer (some ⟨w.heap.size, 0, none⟩)]) ∧ w' = w.alloc (.cells #[.int .i64 q] 2) := by
  refine callsIn_of_wp Try.func34 rfl h ?_ hro
  simp only [Try.ntmps34, List.size_toArray, List.length_cons, List.length_nil, Nat.reduceAdd, Nat.reduceSub, Array.replicate_succ, Array.replicate_zero, List.push_toArray, List.append_toArray, List.nil_append, List.cons_append]
  gi_wp2
  go_ret
  exact ⟨rfl, rfl⟩
theorem setCell_grown {A B : World} {row : Option Nat} {k : Nat} {cs : Array Value} {t : TypeId} (hg : A.grownBy B row) (ha : A.heap[k]? = some (.cells cs t (0, 0))) (hb : B.heap[k]? = some (.cells cs t (0, 0))) (u : Value) (hn : ∀ r, row = some r → r ≠ k) : (A.setCell ⟨k, 0, none⟩ u).grownBy (B.setCell ⟨k, 0, none⟩ u) row :=
  ⟨hg.os, hg.tape, hg.output, by simpa [World.setCell] using hg.size, fun i hi hne => by
    have hi' : i < A.heap.size := by simpa [World.setCell] using hi
    by_cases e : i = k
    · subst e
      rw [blk_set hb 0 u, blk_set ha 0 u]
    · rw [Below.heap_setCell _ _ _ _ e, Below.heap_setCell _ _ _ _ e]
      exact hg.block i hi' hne⟩
/-- What the outer iterator has in memory between two rounds. -/
structure AI (J : Option Nat → List Tm → World → Prop) (l y Bb Bc : Nat) (bit q : Int) (g : Option Nat) (xs : List Tm) (W : World) : Prop where
  hj : J g xs W
  hy : W.heap[y]? = some (.cells #[.func (.yield l) #[] #[]] 59 (0, 0))
  hb : W.heap[Bb]? = some (.cells #[.int .i64 bit] 2 (0, 0))
  hc : W.heap[Bc]? = some (.cells #[.int .i64 q] 2 (0, 0))
  gy : g ≠ some y
  gb : g ≠ some Bb
  gc : g ≠ some Bc
theorem grown_blk {A B : World} {row : Option Nat} {k : Nat} {cs : Array Value} {t : TypeId} {f : Nat × Nat} (hg : A.grownBy B row) (hr : ∀ r, row = some r → ∃ o : Obj, A.heap[r]? = some o ∧ o.isCells = false) (h : A.heap[k]? = some (.cells cs t f)) : B.heap[k]? = some (.cells cs t f) :=
  (hg.block k (Array.getElem?_eq_some_iff.1 h).1 (fun e => by
    obtain ⟨o, ho, hc⟩ := hr k e.symm
    rw [h] at ho
    cases ho
    cases hc)).trans h
section
variable {J : Option Nat → List Tm → World → Prop} {l y Bb Bc : Nat} {bit q : Int} {g : Option Nat} {xs : List Tm} {W W' : World} {b0 : Nat}
theorem AI.own (hJ : ∀ g, OwnFrom b0 (J g)) : OwnFrom b0 (fun xs W => AI J l y Bb Bc bit q g xs W) := fun s A B row hs hg hr =>
  ⟨hJ g s A B row hs.hj hg hr, grown_blk hg (fun r e => (hr r e).2) hs.hy, grown_blk hg (fun r e => (hr r e).2) hs.hb, grown_blk hg (fun r e => (hr r e).2) hs.hc, hs.gy, hs.gb, hs.gc⟩
theorem AI.below (hJ : ∀ g, OwnFrom b0 (J g)) (h : AI J l y Bb Bc bit q g xs W) (hb : Below W.heap.size W W') : AI J l y Bb Bc bit q g xs W' := AI.own hJ xs W W' none h (grown_of_below hb none) (fun r e => by cases e)
/-- A block of the iterator's own has been turned that was laid since. -/
theorem AI.ych (h : AI J l y Bb Bc bit q g xs W) : W.cell? ⟨y, 0, none⟩ = some (.func (.yield l) #[] #[]) ∧ W.cell? ⟨Bb, 0, none⟩ = some (.int .i64 bit) ∧ W.cell? ⟨Bc, 0, none⟩ = some (.int .i64 q) :=
  ⟨(blk_cell h.hy 0).trans rfl, (blk_cell h.hb 0).trans rfl, (blk_cell h.hc 0).trans rfl⟩
end
theorem OwnFrom.up {β : Type} {B B' : Nat} {I : β → World → Prop} (h : OwnFrom B I) (hb : B ≤ B') : OwnFrom B' I := fun s W W' row hs hg hr => h s W W' row hs hg (fun r e => ⟨Nat.le_trans hb (hr r e).1, (hr r e).2⟩)
theorem not_round {B : Nat} {keepS : Nat → Prop} {g : Option Nat} {k : Nat} (h : B ≤ k ∨ keepS k) (hg : g ≠ some k) : ¬ RoundS B keepS g k := fun q => by
  rcases q with ⟨q1, q2⟩ | q
  · rcases h with h | h
    · omega
    · exact q2 h
  · exact hg q
theorem new_ne {g g' : Option Nat} {k s : Nat} (hg : g ≠ some k) (hk : k < s) (h : g' = g ∨ ∃ q, g' = some q ∧ s ≤ q) : g' ≠ some k := by
  rcases h with rfl | ⟨q, rfl, hq⟩
  · exact hg
  · intro e
    cases e
    omega
theorem AI.round {J : Option Nat → List Tm → World → Prop} {l y Bb Bc : Nat} {bit q : Int} {g g' : Option Nat} {xs xs' : List Tm} {W W' : World} {b0 : Nat} (h : AI J l y Bb Bc bit q g xs W) (hj : J g' xs' W') (hc : ChS (RoundS b0 (fun k => k = Bb) g) W W') (h1 : b0 ≤ y) (h2 : b0 ≤ Bc) (hg : g' = g ∨ ∃ q, g' = some q ∧ W.heap.size ≤ q) : AI J l y Bb Bc bit q g' xs' W' :=
  ⟨hj, hc.blk h.hy (not_round (.inl h1) h.gy), hc.blk h.hb (not_round (.inr rfl) h.gb), hc.blk h.hc (not_round (.inl h2) h.gc), new_ne h.gy (blk_lt h.hy) hg, new_ne h.gb (blk_lt h.hb) hg, new_ne h.gc (blk_lt h.hc) hg⟩
def mq (v : Value) (w : World) : Nat := match v with
  | .pointer (some a) => (match w.cell? a with | some (.int _ x) => (x - 7).toNat | _ => 0)
  | _ => 0
theorem mq_at {w : World} {B : Nat} {x : Int} (h : w.cell? ⟨B, 0, none⟩ = some (.int .i64 x)) : mq (.pointer (some ⟨B, 0, none⟩)) w = (x - 7).toNat := by
  unfold mq
  simp only [h]
theorem tdiv_range {bit q : Int} (hb : 1 ≤ bit) (hq : 8 ≤ q) : 0 ≤ Int.tdiv bit q ∧ Int.tdiv bit q ≤ bit := by
  rw [Int.tdiv_eq_ediv_of_nonneg (by omega)]
  exact ⟨Int.ediv_nonneg (by omega) (by omega), Int.ediv_le_self _ (by omega)⟩
set_option maxRecDepth 100000 in
set_option maxHeartbeats 8000000 in
theorem all1_seq (n Bb : Nat) (bit : Int) (w : World) (hn : 4 ≤ n) (b64 : -9223372036854775808 ≤ bit ∧ bit ≤ 9223372036854775807) (hB : w.heap[Bb]? = some (.cells #[.int .i64 bit] 2 (0, 0))) :
    SeqR Fence.wide n Try.prog 43 #[.pointer (some ⟨Bb, 0, none⟩)] (fun x : Tm => #[x.v]) (fun xs => xs = allL bit) 4608 (fun k => k = Bb) w := fun l g0 J W hg0 hW hJ hJc hY h0 => by
  have hBW : W.heap[Bb]? = some (.cells #[.int .i64 bit] 2 (0, 0)) := (hW.block Bb (blk_lt hB)).trans hB
  have HBW := Aside0.mk hBW
  have HY := Aside0.mk hY
  have HJ := Aside0.mk hJ
  have HJC := Aside0.mk hJc
  have HN := Aside0.mk hn
  have H64 := Aside0.mk b64
  have hu39 := Try.underlying39
  have hu23 := Try.underlying23
  have LT := Aside0.mk (blk_lt hBW)
  have hlt0 : ∀ k, g0 = some k → k < W.heap.size := fun k e => by
    obtain ⟨o, ho, _⟩ := hJc g0 _ _ h0 k e
    exact (Array.getElem?_eq_some_iff.1 ho).1
  have A0 : Aside0 (AI J l W.heap.size Bb (W.heap.size + 1) bit 25 g0 [] ((W.alloc (.cells #[.func (.yield l) #[] #[]] 59)).alloc (.cells #[.int .i64 25] 2))) := ⟨by
    have e2 := blk_new (W.alloc (.cells #[.func (.yield l) #[] #[]] 59)) (.cells #[.int .i64 25] 2)
    rw [World.size_alloc] at e2
    exact ⟨(hJ g0).alloc _ ((hJ g0).alloc _ h0), blk_below (blk_new _ _) (below_alloc (Below.refl _ _) _), blk_below hBW (below_alloc (below_alloc (Below.refl _ _) _) _), e2, fun e => by have := hlt0 _ e; omega, hg0 Bb rfl, fun e => by have := hlt0 _ e; omega⟩⟩
  clear hlt0 hY hJ hJc hn b64 hB hBW h0 hW
  refine callsIn_of_wp_marks Try.func43 rfl trivial ?_ rfl
  simp only [Try.ntmps43, List.size_toArray, List.length_cons, List.length_nil, Nat.reduceAdd, Nat.reduceSub, Array.replicate_succ, Array.replicate_zero, List.push_toArray, List.append_toArray, List.nil_append, List.cons_append]
  gi_wp2
  refine wpIn_loop (fun a' w' => ∃ (m Bc y : Nat) (q : Int) (g : Option Nat) (Ds : List Nat) (u4 u5 u6 u7 u8 u9 u10 u11 u12 u13 u14 u15 u16 u17 u18 u19 u20 u21 u22 u23 u24 u25 u26 u27 u28 u29 u30 u31 u32 u33 u34 u35 : Value), a' = { tmps := #[.func (.yield l) #[] #[], .pointer (some ⟨Bb, 0, none⟩), .pointer (some ⟨y, 0, none⟩), .pointer (some ⟨Bc, 0, none⟩), u4, u5, u6, u7, u8, u9, u10, u11, u12, u13, u14, u15, u16, u17, u18, u19, u20, u21, u22, u23, u24, u25, u26, u27, u28, u29, u30, u31, u32, u33, u34, u35], defers := Ds.map markD } ∧ Aside0 (q = 25 - (m : Int) ∧ m ≤ 18 ∧ (bit < 1 → m = 0)) ∧ Aside0 (AI J l y Bb Bc bit q g (allTo bit m) w') ∧ Aside0 (Ds.Nodup ∧ ∀ D ∈ Ds, W.heap.size ≤ D ∧ w'.heap[D]? = some (.deferred (some []))) ∧ Aside0 (W.heap.size ≤ y ∧ W.heap.size ≤ Bc ∧ W.heap.size ≤ w'.heap.size)) (fun a' w' => mq (a'.tmps.getD 3 undef) w') ?atStart ?round
  case atStart =>
    refine ⟨0, W.heap.size + 1, W.heap.size, 25, g0, [], _, _, _, _, _, _, _, _, _, _, _, _, _, _, _, _, _, _, _, _, _, _, _, _, _, _, _, _, _, _, _, _, rfl, ⟨by omega⟩, A0, ⟨List.nodup_nil, fun D h => by cases h⟩, ⟨by simp; omega⟩⟩
  case round =>
    rintro _ wr ⟨m, Bc, y, q, g, Ds, u4, u5, u6, u7, u8, u9, u10, u11, u12, u13, u14, u15, u16, u17, u18, u19, u20, u21, u22, u23, u24, u25, u26, u27, u28, u29, u30, u31, u32, u33, u34, u35, rfl, HQ, HA, HD, HS⟩
    clear A0
    obtain ⟨cy, cb, cc⟩ := HA.out.ych
    by_cases hb1 : 1 ≤ bit
    · have v1 : decide (bit ≥ 1) = true := decide_eq_true hb1
      have v2 : decide (1 ≤ bit) = true := decide_eq_true hb1
      by_cases hq8 : 8 ≤ q
      · have v3 : decide (q ≥ 8) = true := decide_eq_true hq8
        have v4 : decide (8 ≤ q) = true := decide_eq_true hq8
        have Q8 := Aside0.mk (And.intro hq8 hb1)
        clear hq8 hb1
        gi_wp2
        refine ⟨trivial, (fun h => by cases h), ?_⟩
        refine (shapes_in Fence.wide _ trivial rfl _ _).mono ?_
        rintro e w' ⟨rfl, rfl⟩
        gi_wp2
        have hBq := blk_new wr (.cells #[.int .i64 q] 3)
        have BA : Below wr.heap.size wr (wr.alloc (.cells #[.int .i64 q] 3)) := below_alloc (Below.refl _ _) _
        have A1 : AI J l y Bb Bc bit q g (allTo bit m) (wr.alloc (.cells #[.int .i64 q] 3)) := AI.below HJ.out HA.out BA
        have ng : g ≠ some wr.heap.size := fun e => by
          obtain ⟨o, ho, _⟩ := HJC.out g _ _ HA.out.hj _ e
          have := (Array.getElem?_eq_some_iff.1 ho).1
          omega
        refine wpIn_rangeFunc_R rfl (by have := HN.out; omega) (gf := 54) (lb := #[.pointer (some ⟨wr.heap.size, 0, none⟩)]) rfl trivial (enters_of Try.func54 (by kernel_rfl) rfl)
          (shapes1_seq _ wr.heap.size q (wr.alloc (.cells #[.int .i64 q] 3)) Q8.out.1 (by have := HQ.out; omega) (by simp) ((blk_cell hBq 0).trans rfl)) (Below.refl _ _) (fun k e => by subst e; simp) (fun _ => rfl)
          (fun g pre W' => AI J l y Bb Bc bit q g (allTo bit m ++ mapQ bit q pre) W' ∧ W'.heap[wr.heap.size]? = some (.cells #[.int .i64 q] 3 (0, 0)) ∧ g ≠ some wr.heap.size ∧ ∀ D ∈ Ds, W'.heap[D]? = some (.deferred (some []))) ?hI ?hIc g (fun k e => by subst e; exact ng) ?h0
          (fun mm g pre x a' W' => ∃ Bt, a' = { tmps := #[.func (.yield l) #[] #[], .pointer (some ⟨Bb, 0, none⟩), .pointer (some ⟨y, 0, none⟩), .pointer (some ⟨Bc, 0, none⟩), .pointer (some ⟨Bt, 0, none⟩), .int .i64 q, .bool true, .bool true, .int .i64 bit, .bool true, .bool true, u11, u12, .int .i64 q, .func (.func 54) #[] #[.pointer (some ⟨wr.heap.size, 0, none⟩)], x.v, u16, u17, u18, u19, u20, u21, u22, u23, u24, u25, u26, u27, u28, u29, u30, u31, u32, u33, u34, u35], defers := [] } ∧ mm ≤ Bt ∧ W'.heap[Bt]? = some (.cells #[.int .i64 x.k, .int .i64 x.p, .int .i64 x.a, .int .i64 x.b, .int .i64 x.j] 39 (0, 0)) ∧
            (∀ u, AI J l y Bb Bc bit q g (allTo bit m ++ mapQ bit q pre) (W'.setCell ⟨Bt, 0, none⟩ u)) ∧ AI J l y Bb Bc bit q g (allTo bit m ++ mapQ bit q pre) W' ∧ W'.heap[wr.heap.size]? = some (.cells #[.int .i64 q] 3 (0, 0)) ∧ g ≠ some wr.heap.size ∧ (∀ D ∈ Ds, W'.heap[D]? = some (.deferred (some []))) ∧ wr.heap.size < Bt) ?hAx ?hAxc ?assign ?body ?done
        case hI =>
          intro g xs A B row hs hg hr
          have hr2 : ∀ r, row = some r → wr.heap.size < r := fun r e => by
            have h1 := (hr r e).1
            rw [World.size_alloc] at h1
            omega
          have hr' : ∀ r, row = some r → W.heap.size ≤ r ∧ ∃ o : Obj, A.heap[r]? = some o ∧ o.isCells = false := fun r e => ⟨by have := hr2 r e; have := HS.out.2.2; omega, (hr r e).2⟩
          exact ⟨AI.own HJ.out _ A B row hs.1 hg hr', grown_blk hg (fun r e => (hr r e).2) hs.2.1, hs.2.2.1, fun D hD' => (hg.block D (Array.getElem?_eq_some_iff.1 (hs.2.2.2 D hD')).1 (fun e => by
            have h1 := hr2 D e.symm
            have h2 := (Array.getElem?_eq_some_iff.1 (HD.out.2 D hD').2).1
            omega)).trans (hs.2.2.2 D hD')⟩
        case hIc => exact fun g pre A hs k e => HJC.out g _ _ hs.1.hj k e
        case h0 => exact ⟨by rw [show mapQ bit q [] = [] from rfl, List.append_nil]; exact A1, hBq, ng, fun D hD' => (BA.block D (Array.getElem?_eq_some_iff.1 (HD.out.2 D hD').2).1).trans (HD.out.2 D hD').2⟩
        case hAx =>
          rintro mm g pre x a' _ A B row ⟨Bt, ha, hBt, hbt, hset, hai, hq, hg', hd, hlt⟩ hg hr
          have hr2 : ∀ r, row = some r → wr.heap.size < r := fun r e => by
            have h1 := (hr r e).1
            rw [World.size_alloc] at h1
            omega
          have hr' : ∀ r, row = some r → W.heap.size ≤ r ∧ ∃ o : Obj, A.heap[r]? = some o ∧ o.isCells = false := fun r e => ⟨by have := hr2 r e; have := HS.out.2.2; omega, (hr r e).2⟩
          have hnb : ∀ r, row = some r → r ≠ Bt := fun r e e2 => by
            obtain ⟨o, ho, hc⟩ := (hr r e).2
            rw [e2, hbt] at ho
            cases ho
            cases hc
          have hbt2 := grown_blk hg (fun r e => (hr r e).2) hbt
          refine ⟨Bt, ha, hBt, hbt2, fun u => AI.own HJ.out _ _ _ row (hset u) (setCell_grown hg hbt hbt2 u hnb) (fun r e => ⟨(hr' r e).1, ?_⟩), AI.own HJ.out _ A B row hai hg hr', grown_blk hg (fun r e => (hr r e).2) hq, hg', fun D hD' => (hg.block D (Array.getElem?_eq_some_iff.1 (hd D hD')).1 (fun e => by
            have h1 := hr2 D e.symm
            have h2 := (Array.getElem?_eq_some_iff.1 (HD.out.2 D hD').2).1
            omega)).trans (hd D hD'), hlt⟩
          obtain ⟨o, ho, hc⟩ := (hr r e).2
          exact ⟨o, (Below.heap_setCell _ _ _ _ (hnb r e)).trans ho, hc⟩
        case hAxc =>
          rintro mm g pre x a' A ⟨Bt, _, _, _, _, hs, _⟩ k e
          exact HJC.out g _ _ hs.hj k e
        case assign =>
          rintro l' g pre ⟨xk, xp, xa, xb, xj⟩ W' K hW' ⟨hs, hq, hg, hd⟩ hK
          dsimp only [Tm.v] at hK ⊢
          simp at hW'
          gi_wp2
          have hB := below_alloc (Below.refl W'.heap.size W') (.cells #[.int .i64 xk, .int .i64 xp, .int .i64 xa, .int .i64 xb, .int .i64 xj] 39)
          refine hK _ _ (ChS.of hB _) ⟨W'.heap.size, rfl, Nat.le_refl _, blk_new _ _, fun u => ?_, AI.below HJ.out hs hB, blk_below hq hB, hg, fun D h => (hB.block D (Array.getElem?_eq_some_iff.1 (hd D h)).1).trans (hd D h), by omega⟩
          exact AI.own HJ.out _ W' _ none hs (grown_of_below (hB.setCell (p := ⟨W'.heap.size, 0, none⟩) (Nat.le_refl _) u) none) (fun r e => by cases e)
        case body =>
          rintro l' mm g pre ⟨xk, xp, xa, xb, xj⟩ a' W' hm hmW ⟨Bt, rfl, hBt, hbt, hset, hai, hq, hg, hd, hlt⟩ hlen
          rw [World.size_alloc] at hm
          dsimp only [Tm.v] at hbt ⊢
          obtain ⟨cy', cb', cc'⟩ := hai.ych
          obtain ⟨cy2, cb2, cc2⟩ := (hset (.int .i64 (Int.tdiv bit q))).ych
          have bt2 : (W'.setCell ⟨Bt, 0, none⟩ (.int .i64 (Int.tdiv bit q))).heap[Bt]? = some (.cells #[.int .i64 (Int.tdiv bit q), .int .i64 xp, .int .i64 xa, .int .i64 xb, .int .i64 xj] 39 (0, 0)) := by
            have := blk_set hbt 0 (.int .i64 (Int.tdiv bit q))
            simpa using this
          have f0 := blk_frozen hbt 0
          have z0 := (blk_cell hbt 0).trans rfl
          obtain ⟨e0, e1, e2, e3, e4⟩ := tm_cells (t := ⟨Int.tdiv bit q, xp, xa, xb, xj⟩) bt2
          have q0 : (q = 0) = False := eq_false (by have := Q8.out; omega)
          have q0b : (q == 0) = false := beq_eq_false_iff_ne.mpr (by have := Q8.out; omega)
          have dv := tdiv_range Q8.out.2 Q8.out.1
          have w1 : wrap64 (Int.tdiv bit q) = Int.tdiv bit q := i64w _ (by have := H64.out; omega) (by have := H64.out; omega)
          have XT := Aside0.mk (And.intro hset (And.intro hai (And.intro hq (And.intro hg hd))))
          clear hset hai hq hg hd cy cb cc
          have CB : ChS (fun k => RoundS (wr.alloc (.cells #[.int .i64 q] 3)).heap.size (fun k => k = wr.heap.size) g k ∨ mm ≤ k) W' (W'.setCell ⟨Bt, 0, none⟩ (.int .i64 (Int.tdiv bit q))) := (ChS.refl _ W').grown (grownBy_setCell' W' Bt _) (fun k e _ => by cases e; exact .inr hBt)
          have CBA := Aside0.mk CB
          have HBT := Aside0.mk (And.intro hBt (And.intro hlt (And.intro hm hmW)))
          have MS := mapQ_snoc bit q pre ⟨xk, xp, xa, xb, xj⟩
          have HLEN : Aside0 ((allTo bit m ++ mapQ bit q pre).length < 4608) := ⟨by
            have a1 := allTo_len bit m
            have a2 := mapQ_len bit q pre
            have a3 := HQ.out
            have a4 := Q8.out
            rw [List.length_append]
            omega⟩
          have QD : ∀ D, D ∈ Ds → (W'.setCell ⟨Bt, 0, none⟩ (.int .i64 (Int.tdiv bit q))).heap[D]? = some (.deferred (some [])) := fun D hD' => (Below.heap_setCell _ _ _ _ (fun e => by
            have h1 := XT.out.2.2.2.2 D hD'
            rw [e] at h1
            rw [hbt] at h1
            cases h1)).trans (XT.out.2.2.2.2 D hD')
          have QQ : (W'.setCell ⟨Bt, 0, none⟩ (.int .i64 (Int.tdiv bit q))).heap[wr.heap.size]? = some (.cells #[.int .i64 q] 3 (0, 0)) := (Below.heap_setCell _ _ _ _ (by show wr.heap.size ≠ Bt; omega)).trans XT.out.2.2.1
          have YT := Aside0.mk (And.intro QD QQ)
          have BT2 := Aside0.mk bt2
          clear CB QD QQ hlen hBt hlt hm hmW dv hbt bt2
          by_cases hmod : Int.tmod bit q = 0
          · have MOK : okQ bit q ⟨xk, xp, xa, xb, xj⟩ = Tm.rightB ⟨Int.tdiv bit q, xp, xa, xb, xj⟩ := by
              show ((Int.tmod bit q == 0) && _) = _
              rw [hmod]
              rfl
            gi_wp2
            refine ⟨trivial, (fun h => by cases h), ?_⟩
            refine (CallsIn.inRound l' (callsIn_wide.2 (timing_timed_right.calls _ _ _ _ _ _ _ (timed_right_eq _ _ _ _ _)))).mono ?_
            rintro e w5 ⟨rfl, hb5⟩
            have A5 := AI.below HJ.out (XT.out.1 (.int .i64 (Int.tdiv bit q))) hb5
            have C5 := CBA.out.grown (grown_of_below hb5 none) (fun k e => by cases e)
            have Q5 := blk_below YT.out.2 hb5
            have D5 : ∀ D, D ∈ Ds → w5.heap[D]? = some (.deferred (some [])) := fun D h => (hb5.block D (Array.getElem?_eq_some_iff.1 (YT.out.1 D h)).1).trans (YT.out.1 D h)
            have BT5 := blk_below BT2.out hb5
            rw [MOK] at MS
            cases hr : Tm.rightB ⟨Int.tdiv bit q, xp, xa, xb, xj⟩
            · rw [hr, if_neg (by decide)] at MS
              have PT := Aside0.mk (And.intro A5 (And.intro C5 (And.intro Q5 (And.intro D5 MS))))
              clear A5 C5 Q5 D5 MS hb5 BT5 cy2 cb2 cc2 e0 e1 e2 e3 e4 hr MOK
              gi_wp2
              refine ⟨fun _ h => (by cases h), ?_⟩
              gi_wp2
              exact ⟨⟨g, ⟨by rw [PT.out.2.2.2.2]; exact PT.out.1, PT.out.2.2.1, XT.out.2.2.2.1, PT.out.2.2.2.1⟩, .inl rfl⟩, PT.out.2.1⟩
            · rw [hr, if_pos rfl] at MS
              obtain ⟨cy5, cb5, cc5⟩ := A5.ych
              obtain ⟨g0, g1, g2, g3, g4⟩ := tm_cells (t := ⟨Int.tdiv bit q, xp, xa, xb, xj⟩) BT5
              obtain ⟨fn, tmps, assign, body, hy, hR⟩ := anyDepthR rfl (n - 1 - 1 - 1) (HY.out g _ (tickQ bit q ⟨xk, xp, xa, xb, xj⟩) w5 A5.hj HLEN.out)
              dsimp only [tickQ, Tm.v] at hy
              have PT := Aside0.mk (And.intro A5 (And.intro C5 (And.intro Q5 (And.intro D5 MS))))
              clear A5 C5 Q5 D5 MS hb5 BT5 cy2 cb2 cc2 e0 e1 e2 e3 e4 hr MOK
              gi_wp2
              refine ⟨(fun h => by cases h), hR.mono ?_⟩
              rintro e W3 ⟨rfl, ⟨g', hJ3, hg'⟩, hk3⟩
              gi_wp2
              have hqs : W.heap.size ≤ wr.heap.size := HS.out.2.2
              have hmw5 : mm ≤ w5.heap.size := Nat.le_trans HBT.out.2.2.2 PT.out.2.1.size
              refine ⟨⟨g', ⟨?_, hk3.blk PT.out.2.2.1 (not_round (.inl hqs) XT.out.2.2.2.1), new_ne XT.out.2.2.2.1 (blk_lt PT.out.2.2.1) hg', fun D hD' => hk3.blk (PT.out.2.2.2.1 D hD') (not_round (.inl (HD.out.2 D hD').1) (fun e => by
                obtain ⟨o, ho, hoc⟩ := HJC.out g _ _ PT.out.1.hj D e
                rw [PT.out.2.2.2.1 D hD'] at ho
                cases ho
                cases hoc))⟩, hg'.imp id (fun ⟨q, h1, h2⟩ => ⟨q, h1, Nat.le_trans hmw5 h2⟩)⟩, PT.out.2.1.trans (hk3.mono fun k _ q => ?_)⟩
              · rw [PT.out.2.2.2.2, ← List.append_assoc]
                exact PT.out.1.round hJ3 hk3 HS.out.1 HS.out.2.1 hg'
              · rcases q with ⟨q1, q2⟩ | q
                · exact .inl (.inl ⟨by rw [World.size_alloc]; omega, by omega⟩)
                · exact .inl (.inr q)
          · have hm' : (Int.tmod bit q = 0) = False := eq_false hmod
            have hm2 : (Int.tmod bit q == 0) = false := beq_eq_false_iff_ne.mpr hmod
            have MOK : okQ bit q ⟨xk, xp, xa, xb, xj⟩ = false := by
              show ((Int.tmod bit q == 0) && _) = _
              rw [hm2]
              rfl
            rw [MOK, if_neg (by decide)] at MS
            have PT := Aside0.mk MS
            clear hmod MS MOK
            gi_wp2
            refine ⟨trivial, ?_⟩
            gi_wp2
            refine ⟨fun _ h => (by cases h), ?_⟩
            gi_wp2
            exact ⟨⟨g, ⟨by rw [PT.out]; exact XT.out.1 _, YT.out.2, XT.out.2.2.2.1, YT.out.1⟩, .inl rfl⟩, CBA.out⟩
        case done =>
          rintro D g xs W' hD rfl ⟨hai, hq, hg, hd⟩ hK
          rw [World.size_alloc] at hD
          obtain ⟨cy', cb', cc'⟩ := hai.ych
          have w1 : wrap64 (q - 1) = q - 1 := wr_small _ (by have := Q8.out; omega) (by have := HQ.out; omega)
          clear cy cb cc A1 hBq BA ng
          gi_wp2
          have hB := below_alloc (Below.refl W'.heap.size W') (.cells #[.int .i64 (q - 1)] 2)
          have hn := blk_new W' (.cells #[.int .i64 (q - 1)] 2)
          have A2 := AI.below HJ.out hai hB
          have eL : allTo bit (m + 1) = allTo bit m ++ mapQ bit q (shL q 256) := by
            rw [HQ.out.1]
            rfl
          have hKs := (Array.getElem?_eq_some_iff.1 hK).1
          have hlt : ∀ E, E ∈ Ds → E < wr.heap.size := fun E hE => (Array.getElem?_eq_some_iff.1 (HD.out.2 E hE).2).1
          refine ⟨⟨m + 1, W'.heap.size, y, q - 1, g, D :: Ds, _, _, _, _, _, _, _, _, _, _, _, _, _, _, _, _, _, _, _, _, _, _, _, _, _, _, _, _, _, _, _, _, rfl, ⟨by have := HQ.out; have := Q8.out; omega⟩, ⟨⟨by rw [eL]; exact A2.hj, A2.hy, A2.hb, hn, A2.gy, A2.gb, fun e => ?_⟩⟩, ⟨List.nodup_cons.2 ⟨fun h => by have := hlt D h; omega, HD.out.1⟩, fun E hE => ?_⟩, ⟨HS.out.1, by have := HS.out; omega, by have := HS.out; rw [World.size_alloc]; omega⟩⟩, ?_⟩
          · obtain ⟨o, ho, _⟩ := HJC.out g _ _ hai.hj _ e
            have := (Array.getElem?_eq_some_iff.1 ho).1
            omega
          · rcases List.mem_cons.1 hE with rfl | hE
            · exact ⟨by have := HS.out; omega, (hB.block _ hKs).trans hK⟩
            · exact ⟨(HD.out.2 E hE).1, (hB.block _ (Array.getElem?_eq_some_iff.1 (hd E hE)).1).trans (hd E hE)⟩
          · show mq (.pointer (some ⟨W'.heap.size, 0, none⟩)) _ < mq (.pointer (some ⟨Bc, 0, none⟩)) wr
            rw [mq_at ((blk_cell hn 0).trans rfl), mq_at HA.out.ych.2.2]
            have := Q8.out
            omega
      · have v3 : decide (q ≥ 8) = false := decide_eq_false (by omega)
        have v4 : decide (8 ≤ q) = false := decide_eq_false (by omega)
        gi_wp2
        have e18 : m = 18 := by have := HQ.out; omega
        have ex : allL bit = allTo bit m := by rw [e18]; exact if_pos hb1
        refine leaves_marks (I := fun W' => J g (allTo bit m) W') (B := W.heap.size) (fun _ A B row hs hg hr => HJ.out g _ A B row hs hg hr) (fun W' => ⟨_, results_none rfl _ _ _⟩) (fun v W' hj => ⟨⟨v, rfl⟩, g, by rw [ex]; exact hj⟩) Ds wr HD.out.1 HD.out.2 HA.out.hj
    · have v1 : decide (bit ≥ 1) = false := decide_eq_false (by omega)
      have v2 : decide (1 ≤ bit) = false := decide_eq_false (by omega)
      have v3 : decide (q ≥ 8) = true := decide_eq_true (by have := HQ.out; have := HQ.out.2.2 (by omega); omega)
      have v4 : decide (8 ≤ q) = true := decide_eq_true (by have := HQ.out; have := HQ.out.2.2 (by omega); omega)
      gi_wp2
      have e0 : m = 0 := HQ.out.2.2 (by omega)
      have ex : allL bit = allTo bit m := by rw [e0]; exact if_neg (by omega)
      refine leaves_marks (I := fun W' => J g (allTo bit m) W') (B := W.heap.size) (fun _ A B row hs hg hr => HJ.out g _ A B row hs hg hr) (fun W' => ⟨_, results_none rfl _ _ _⟩) (fun v W' hj => ⟨⟨v, rfl⟩, g, by rw [ex]; exact hj⟩) Ds wr HD.out.1 HD.out.2 HA.out.hj
end Go.Proofs.Ytgekhkigeanajaa.P
