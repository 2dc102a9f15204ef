/- Warehouses: what the functions that only look make. No conditions. -/
import Derived.Test.YtniijahjfbgfpaaGB
set_option linter.unusedVariables false
set_option linter.unusedSimpArgs false
namespace Go.Proofs.Ytniijahjfbgfpaa.V
open Go Go.Eng
set_option maxRecDepth 1000000
set_option maxHeartbeats 1000000
theorem ixF_spec (n : Nat) (p : Nat → Bool) : ∀ d j, n - j = d → (ixF n p j = -1 ∧ ∀ m, j ≤ m → m < n → p m = false) ∨ ∃ m, j ≤ m ∧ m < n ∧ ixF n p j = m ∧ p m = true ∧ ∀ q, j ≤ q → q < m → p q = false := by
  intro d
  induction d with
  | zero => intro j h; exact .inl ⟨ixF_ge (by omega), fun m h1 h2 => by omega⟩
  | succ d ih =>
    intro j h
    have hu := ixF_lt (p := p) (show j < n by omega)
    cases hp : p j with
    | true =>
      rw [hp, if_pos rfl] at hu
      exact .inr ⟨j, Nat.le_refl _, by omega, hu, hp, fun q h1 h2 => by omega⟩
    | false =>
      rw [hp, if_neg (by simp)] at hu
      have step : ∀ q, j ≤ q → (j + 1 ≤ q → p q = false) → p q = false := fun q h1 h2 => by
        by_cases e : q = j
        · subst e; exact hp
        · exact h2 (by omega)
      rcases ih (j + 1) (by omega) with ⟨h1, h2⟩ | ⟨m, h1, h2, h3, h4, h5⟩
      · exact .inl ⟨hu.trans h1, fun m g1 g2 => step m g1 fun g => h2 m g g2⟩
      · exact .inr ⟨m, by omega, h2, hu.trans h3, h4, fun q g1 g2 => step q g1 fun g => h5 q g g2⟩
theorem ixF_congr {n : Nat} {p q : Nat → Bool} (h : ∀ j, j < n → p j = q j) : ∀ d j, n - j = d → ixF n p j = ixF n q j := by
  intro d
  induction d with
  | zero => intro j hj; rw [ixF_ge (by omega), ixF_ge (by omega)]
  | succ d ih => intro j hj; rw [ixF_lt (p := p) (show j < n by omega), ixF_lt (p := q) (show j < n by omega), h j (by omega), ih (j + 1) (by omega)]
/-- A loop that looks for the first index with a property. -/
theorem find_loop {n : Nat} {p : Nat → Bool} {B : Prop} {A' : Nat → Prop} {b : Int → (Int → Prop) → Prop} (hn : n ≤ 9223372036854775806) (hb : ∀ (k : Nat) (K : Int → Prop), k < n → (p k = true → A' k) → (p k = false → K ((k + 1 : Nat) : Int)) → b k K)
    (he : ∀ K : Int → Prop, B → b n K) (ha : ∀ k : Nat, k < n → ixF n p 0 = k → p k = true → A' k) (hB : ixF n p 0 = -1 → B) : LoopP1 b 0 := by
  refine LoopP1.run (fun k : Nat => (k : Int)) (fun k => k ≤ n ∧ ixF n p k = ixF n p 0) (fun k => n - k) 0 ⟨Nat.zero_le _, rfl⟩ rfl ?_
  rintro k ⟨hk, hf⟩ K hK
  by_cases h : k < n
  · have e := ixF_lt (p := p) h
    refine hb k K h (fun hp => ha k h ?_ hp) fun hp => hK _ (k + 1) ⟨by omega, ?_⟩ (by omega) rfl
    · rw [← hf, e, hp, if_pos rfl]
    · rw [← hf, e, hp, if_neg (by simp)]
  · have hk : k = n := by omega
    subst hk
    exact he K (hB (by rw [← hf, ixF_ge (by omega)]))
theorem ixF_none {n : Nat} {p : Nat → Bool} (h : ixF n p 0 = -1) : ∀ i, i < n → p i = false := by
  rcases ixF_spec n p _ 0 rfl with ⟨_, h2⟩ | ⟨m, _, _, h3, _, _⟩
  · exact fun i hi => h2 i (Nat.zero_le _) hi
  · omega
theorem ext_getD {α : Type} {xs ys : List α} (z : α) (hl : xs.length = ys.length) (h : ∀ i, i < xs.length → xs.getD i z = ys.getD i z) : xs = ys := by
  refine List.ext_getElem hl fun i h1 h2 => ?_
  have := h i h1
  rwa [getD_get h1, getD_get h2] at this

theorem el0 (r : List C) (j : Nat) : cellAt [r] (Int.toNat 0) j = r.getD j .nil := rfl
theorem gm_mp (k : IntKind) (b : Bool) (l : List LK) (es : List (Int × List C)) : (C.mp k b l es).gm = es := rfl
theorem gl_sl (l : List LK) (xs : List (List C)) : (C.sl l xs).gl = xs := rfl
def isN (n : Nat) (b : Int) : Bool := decide (0 ≤ b) && decide (b < n)
theorem isN_is (bs : List I2) (b : Int) : isN (row2 bs).length b = isB bs b := by rw [row2_len]; rfl
theorem bite_and (a b : Bool) : (if a = true then b else false) = (a && b) := by cases a <;> rfl
abbrev elR (x1 x2 : List (List C)) (la : Int) : A := .el [.sl C2, .sl C4, .int .i64] [[.sl C2 x1, .sl C4 x2, .int .i64 la]] 0 0
abbrev agR (x1 x2 : List (List C)) (la : Int) : A := .agg [.c (.sl C2 x1), .c (.sl C4 x2), iC la]
abbrev sI (xs : List (List C)) : A := .c (.sl [.int .i64] xs)
def S32 : List A → List C := fun ds => match ds with
  | [.el _ [[_, .mp _ _ _ es, _, _]] _ _, .c (.int _ b)] => [.int .i64 (cntE b es)]
  | _ => []
theorem e32 (x1 : List (List C)) (es : List (Int × List C)) (tn la b : Int) : S32 [elS x1 es tn la, iC b] = [.int .i64 (cntE b es)] := rfl
def tbl32 : FuncId → List A → List C := fun f ds => match f with
  | _ => []
theorem pc32  {x1 : List (List C)} {x2 : List (Int × List C)} {x3 : Int} {x4 : Int} {x5 : Int} {row : List C} (hS : S32 [.el [.sl [.int .i64, .int .i64], .mp .i64 true [.int .i64, .int .i64, .int .i64, .int .i64, .int .i64], .int .i64, .int .i64] [[.sl [.int .i64, .int .i64] x1, .mp .i64 true [.int .i64, .int .i64, .int .i64, .int .i64, .int .i64] x2, .int .i64 x3, .int .i64 x4]] 0 0, .c (.int .i64 x5)] = row) (h : vc32 (stdE Try.prog tbl32) x1 x2 x3 x4 x5 fun c => c = row) : PCg Try.prog 32 S32 [(false, [.int .i64])] [.el [.sl [.int .i64, .int .i64], .mp .i64 true [.int .i64, .int .i64, .int .i64, .int .i64, .int .i64], .int .i64, .int .i64] [[.sl [.int .i64, .int .i64] x1, .mp .i64 true [.int .i64, .int .i64, .int .i64, .int .i64, .int .i64] x2, .int .i64 x3, .int .i64 x4]] 0 0, .c (.int .i64 x5)] := PureC_vc mo h32 (by kernel_rfl) hS (w32  h)
theorem p32 (x1 : List (List C)) {es : List (Int × List C)} (hl : es.length ≤ 1000000) (tn la b : Int) : PCg Try.prog 32 S32 [kI] [elS x1 es tn la, iC b] := by
  refine pc32 (e32 ..) ?_
  unfold vc32
  simp only [stdE, baseE, Br_iff, beq_iff_eq, beq_eq_false_iff_ne, decide_eq_true_eq, decide_eq_false_iff_not]
  exact cnt_loop hl rfl
def S34 : List A → List C := fun ds => match ds with
  | [.el _ [[.sl _ x, _, _, _]] _ _, .c (.int _ b)] => [.bool (isN x.length b)]
  | _ => []
theorem e34 (x1 : List (List C)) (es : List (Int × List C)) (tn la b : Int) : S34 [elS x1 es tn la, iC b] = [.bool (isN x1.length b)] := rfl
def tbl34 : FuncId → List A → List C := fun f ds => match f with
  | _ => []
theorem pc34  {x1 : List (List C)} {x2 : List (Int × List C)} {x3 : Int} {x4 : Int} {x5 : Int} {row : List C} (hS : S34 [.el [.sl [.int .i64, .int .i64], .mp .i64 true [.int .i64, .int .i64, .int .i64, .int .i64, .int .i64], .int .i64, .int .i64] [[.sl [.int .i64, .int .i64] x1, .mp .i64 true [.int .i64, .int .i64, .int .i64, .int .i64, .int .i64] x2, .int .i64 x3, .int .i64 x4]] 0 0, .c (.int .i64 x5)] = row) (h : vc34 (stdE Try.prog tbl34) x1 x2 x3 x4 x5 fun c => c = row) : PCg Try.prog 34 S34 [(false, [.bool])] [.el [.sl [.int .i64, .int .i64], .mp .i64 true [.int .i64, .int .i64, .int .i64, .int .i64, .int .i64], .int .i64, .int .i64] [[.sl [.int .i64, .int .i64] x1, .mp .i64 true [.int .i64, .int .i64, .int .i64, .int .i64, .int .i64] x2, .int .i64 x3, .int .i64 x4]] 0 0, .c (.int .i64 x5)] := PureC_vc mo h34 (by kernel_rfl) hS (w34  h)
theorem p34 (x1 : List (List C)) (es : List (Int × List C)) (tn la b : Int) : PCg Try.prog 34 S34 [kB] [elS x1 es tn la, iC b] := by
  refine pc34 (e34 ..) ?_
  unfold vc34
  simp only [stdE, baseE, bite_and]
  rfl
def S38 : List A → List C := fun ds => match ds with
  | [.agg [.c (.sl _ x), _, _], .c (.int _ b)] => [.bool (isN x.length b)]
  | _ => []
theorem e38 (x1 x2 : List (List C)) (la b : Int) : S38 [agR x1 x2 la, iC b] = [.bool (isN x1.length b)] := rfl
def tbl38 : FuncId → List A → List C := fun f ds => match f with
  | _ => []
theorem pc38  {x1 : List (List C)} {x2 : List (List C)} {x3 : Int} {x4 : Int} {row : List C} (hS : S38 [.agg [.c (.sl [.int .i64, .int .i64] x1), .c (.sl [.int .i64, .int .i64, .int .i64, .int .i64] x2), .c (.int .i64 x3)], .c (.int .i64 x4)] = row) (h : vc38 (stdE Try.prog tbl38) x1 x2 x3 x4 fun c => c = row) : PCg Try.prog 38 S38 [(false, [.bool])] [.agg [.c (.sl [.int .i64, .int .i64] x1), .c (.sl [.int .i64, .int .i64, .int .i64, .int .i64] x2), .c (.int .i64 x3)], .c (.int .i64 x4)] := PureC_vc mo h38 (by kernel_rfl) hS (w38  h)
theorem p38 (x1 x2 : List (List C)) (la b : Int) : PCg Try.prog 38 S38 [kB] [agR x1 x2 la, iC b] := by
  refine pc38 (e38 ..) ?_
  unfold vc38
  simp only [stdE, baseE, bite_and]
  rfl
def S42 : List A → List C := fun ds => match ds with
  | [.c (.int _ t)] => [.bool (momB t)]
  | _ => []
theorem e42 (t : Int) : S42 [iC t] = [.bool (momB t)] := rfl
def tbl42 : FuncId → List A → List C := fun f ds => match f with
  | _ => []
theorem pc42  {x1 : Int} {row : List C} (hS : S42 [.c (.int .i64 x1)] = row) (h : vc42 (stdE Try.prog tbl42) x1 fun c => c = row) : PCg Try.prog 42 S42 [(false, [.bool])] [.c (.int .i64 x1)] := PureC_vc mo h42 (by kernel_rfl) hS (w42  h)
theorem p42 (t : Int) : PCg Try.prog 42 S42 [kB] [iC t] := by
  refine pc42 (e42 ..) ?_
  unfold vc42
  simp only [stdE, baseE, bite_and]
  rfl
def S50 : List A → List C := fun ds => match ds with
  | [.c (.int _ t)] => [.bool (momB t)]
  | _ => []
theorem e50 (t : Int) : S50 [iC t] = [.bool (momB t)] := rfl
def tbl50 : FuncId → List A → List C := fun f ds => match f with
  | _ => []
theorem pc50  {x1 : Int} {row : List C} (hS : S50 [.c (.int .i64 x1)] = row) (h : vc50 (stdE Try.prog tbl50) x1 fun c => c = row) : PCg Try.prog 50 S50 [(false, [.bool])] [.c (.int .i64 x1)] := PureC_vc mo h50 (by kernel_rfl) hS (w50  h)
theorem p50 (t : Int) : PCg Try.prog 50 S50 [kB] [iC t] := by
  refine pc50 (e50 ..) ?_
  unfold vc50
  simp only [stdE, baseE, bite_and]
  rfl
def S39 : List A → List C := fun ds => match ds with
  | [.agg [.c (.int _ r), _, .c (.int _ b), .c (.int _ t)]] => [.int .i64 r, .int .i64 b, .int .i64 t]
  | _ => []
theorem e39 (r w b t : Int) : S39 [ag4 r w b t] = [.int .i64 r, .int .i64 b, .int .i64 t] := rfl
def tbl39 : FuncId → List A → List C := fun f ds => match f with
  | _ => []
theorem pc39  {x1 : Int} {x2 : Int} {x3 : Int} {x4 : Int} {row : List C} (hS : S39 [.agg [.c (.int .i64 x1), .c (.int .i64 x2), .c (.int .i64 x3), .c (.int .i64 x4)]] = row) (h : vc39 (stdE Try.prog tbl39) x1 x2 x3 x4 fun c => c = row) : PCg Try.prog 39 S39 [(true, [.int .i64, .int .i64, .int .i64])] [.agg [.c (.int .i64 x1), .c (.int .i64 x2), .c (.int .i64 x3), .c (.int .i64 x4)]] := PureC_vc mo h39 (by kernel_rfl) hS (w39  h)
theorem p39 (r w b t : Int) : PCg Try.prog 39 S39 [kA3] [ag4 r w b t] := by
  refine pc39 (e39 ..) ?_
  unfold vc39
  rfl
/-- Where a roll is. -/
def fndV (es : List (Int × List C)) (k : Int) : I3 := ((mlook es k 0 (.int .i64 0)).gi, (mlook es k 1 (.int .i64 0)).gi, (mlook es k 2 (.int .i64 0)).gi)
def isV (r : I3) : Bool := !(r.1 == 0 && (r.2.1 == 0 && (r.2.2 == 0 && true)))
def S20 : List A → List C := fun ds => match ds with
  | [.el _ [[_, .mp _ _ _ es, _, _]] _ _, .c (.int _ k)] => [.int .i64 (fndV es k).1, .int .i64 (fndV es k).2.1, .int .i64 (fndV es k).2.2, .bool (isV (fndV es k))]
  | [.np, _] => [.int .i64 0, .int .i64 0, .int .i64 0, .bool false]
  | _ => []
theorem e20 (x1 : List (List C)) (es : List (Int × List C)) (tn la k : Int) : S20 [elS x1 es tn la, iC k] = [.int .i64 (fndV es k).1, .int .i64 (fndV es k).2.1, .int .i64 (fndV es k).2.2, .bool (isV (fndV es k))] := rfl
theorem e20N (k : Int) : S20 [.np, iC k] = [.int .i64 0, .int .i64 0, .int .i64 0, .bool false] := rfl
def tbl20 : FuncId → List A → List C := fun f ds => match f with
  | _ => []
theorem pc20  {x1 : List (List C)} {x2 : List (Int × List C)} {x3 : Int} {x4 : Int} {x5 : Int} {row : List C} (hS : S20 [.el [.sl [.int .i64, .int .i64], .mp .i64 true [.int .i64, .int .i64, .int .i64, .int .i64, .int .i64], .int .i64, .int .i64] [[.sl [.int .i64, .int .i64] x1, .mp .i64 true [.int .i64, .int .i64, .int .i64, .int .i64, .int .i64] x2, .int .i64 x3, .int .i64 x4]] 0 0, .c (.int .i64 x5)] = row) (h : vc20 (stdE Try.prog tbl20) x1 x2 x3 x4 x5 fun c => c = row) : PCg Try.prog 20 S20 [(true, [.int .i64, .int .i64, .int .i64]), (false, [.bool])] [.el [.sl [.int .i64, .int .i64], .mp .i64 true [.int .i64, .int .i64, .int .i64, .int .i64, .int .i64], .int .i64, .int .i64] [[.sl [.int .i64, .int .i64] x1, .mp .i64 true [.int .i64, .int .i64, .int .i64, .int .i64, .int .i64] x2, .int .i64 x3, .int .i64 x4]] 0 0, .c (.int .i64 x5)] := PureC_vc mo h20 (by kernel_rfl) hS (w20  h)
def tbl20N : FuncId → List A → List C := fun f ds => match f with
  | _ => []
theorem pc20N  {x5 : Int} {row : List C} (hS : S20 [.np, .c (.int .i64 x5)] = row) (h : vc20N (stdE Try.prog tbl20N) x5 fun c => c = row) : PCg Try.prog 20 S20 [(true, [.int .i64, .int .i64, .int .i64]), (false, [.bool])] [.np, .c (.int .i64 x5)] := PureC_vc mo h20 (by kernel_rfl) hS (w20N  h)
theorem p20 (x1 : List (List C)) (es : List (Int × List C)) (tn la k : Int) : PCg Try.prog 20 S20 [kA3, kB] [elS x1 es tn la, iC k] := by
  refine pc20 (e20 ..) ?_
  unfold vc20
  exact ⟨rfl, rfl⟩
theorem p20N (k : Int) : PCg Try.prog 20 S20 [kA3, kB] [.np, iC k] := by
  refine pc20N (e20N ..) ?_
  unfold vc20N
  exact ⟨rfl, rfl⟩
/-- The oldest of some rolls, from the best so far. -/
def rowE (es : List (Int × List C)) (k : Int) : I5 := ((mlook es k 0 (.int .i64 0)).gi, (mlook es k 1 (.int .i64 0)).gi, (mlook es k 2 (.int .i64 0)).gi, (mlook es k 3 (.int .i64 0)).gi, (mlook es k 4 (.int .i64 0)).gi)
def oldS (es : List (Int × List C)) (k : Int) (best : I5) : I5 := if ((mfind k es).isSome && (if (turnOf best == 0) = true then true else decide (turnOf (rowE es k) < turnOf best))) = true then rowE es k else best
def oldF (es : List (Int × List C)) : List Int → I5 → I5
  | [], best => best
  | k :: ks, best => oldF es ks (oldS es k best)
def S22 : List A → List C := fun ds => match ds with
  | [.el _ [[_, .mp _ _ _ es, _, _]] _ _, .c (.sl _ ks)] => if turnOf (oldF es (prI ks) z5) = 0 then [.int .i64 0, .int .i64 7] else [.int .i64 (oldF es (prI ks) z5).1, .int .i64 0]
  | [.np, _] => [.int .i64 0, .int .i64 14]
  | _ => []
theorem e22 (x1 : List (List C)) (es : List (Int × List C)) (tn la : Int) (ks : List Int) : S22 [elS x1 es tn la, sI (rowsI ks)] = if turnOf (oldF es ks z5) = 0 then [.int .i64 0, .int .i64 7] else [.int .i64 (oldF es ks z5).1, .int .i64 0] := by
  show (if turnOf (oldF es (prI (rowsI ks)) z5) = 0 then _ else _) = _
  rw [prI_rowsI]
theorem e22N (ks : List (List C)) : S22 [.np, sI ks] = [.int .i64 0, .int .i64 14] := rfl
def tbl22 : FuncId → List A → List C := fun f ds => match f with
  | _ => []
theorem pc22  {x1 : List (List C)} {x2 : List (Int × List C)} {x3 : Int} {x4 : Int} {x5 : List (List C)} {row : List C} (hS : S22 [.el [.sl [.int .i64, .int .i64], .mp .i64 true [.int .i64, .int .i64, .int .i64, .int .i64, .int .i64], .int .i64, .int .i64] [[.sl [.int .i64, .int .i64] x1, .mp .i64 true [.int .i64, .int .i64, .int .i64, .int .i64, .int .i64] x2, .int .i64 x3, .int .i64 x4]] 0 0, .c (.sl [.int .i64] x5)] = row) (h : vc22 (stdE Try.prog tbl22) x1 x2 x3 x4 x5 fun c => c = row) : PCg Try.prog 22 S22 [(false, [.int .i64]), (false, [.int .i64])] [.el [.sl [.int .i64, .int .i64], .mp .i64 true [.int .i64, .int .i64, .int .i64, .int .i64, .int .i64], .int .i64, .int .i64] [[.sl [.int .i64, .int .i64] x1, .mp .i64 true [.int .i64, .int .i64, .int .i64, .int .i64, .int .i64] x2, .int .i64 x3, .int .i64 x4]] 0 0, .c (.sl [.int .i64] x5)] := PureC_vc mo h22 (by kernel_rfl) hS (w22  h)
def tbl22N : FuncId → List A → List C := fun f ds => match f with
  | _ => []
theorem pc22N  {x5 : List (List C)} {row : List C} (hS : S22 [.np, .c (.sl [.int .i64] x5)] = row) (h : vc22N (stdE Try.prog tbl22N) x5 fun c => c = row) : PCg Try.prog 22 S22 [(false, [.int .i64]), (false, [.int .i64])] [.np, .c (.sl [.int .i64] x5)] := PureC_vc mo h22 (by kernel_rfl) hS (w22N  h)
theorem p22 (x1 : List (List C)) (es : List (Int × List C)) (tn la : Int) {ks : List Int} (hl : ks.length ≤ 1000000) : PCg Try.prog 22 S22 [kI, kI] [elS x1 es tn la, sI (rowsI ks)] := by
  refine pc22 (e22 ..) ?_
  unfold vc22
  simp only [stdE, baseE, Br_iff, Imp_iff, el0, List.getD_cons_zero, List.getD_cons_succ, gm_mp, rowsI_len, bite_and]
  refine ⟨trivial, ?_⟩
  refine LoopP6.run (fun g : I5 × Nat => g.1.1) (fun g => g.1.2.1) (fun g => g.1.2.2.1) (fun g => g.1.2.2.2.1) (fun g => g.1.2.2.2.2) (fun g => (g.2 : Int)) (fun g => g.2 ≤ ks.length ∧ oldF es (ks.drop g.2) g.1 = oldF es ks z5) (fun g => ks.length - g.2) (z5, 0) ⟨Nat.zero_le _, rfl⟩ rfl rfl rfl rfl rfl rfl ?_
  rintro ⟨best, n⟩ ⟨hn, hf⟩ K hK
  dsimp only at hn hf ⊢
  simp only [toNat_cast, rowsI_getD, decide_eq_true_eq, decide_eq_false_iff_not]
  refine ⟨fun h => ?_, fun h => ?_⟩
  · have h1 : n < ks.length := by omega
    have hd : ks.drop n = ks.getD n 0 :: ks.drop (n + 1) := by rw [List.drop_eq_getElem_cons h1, List.getD_eq_getElem?_getD, List.getElem?_eq_getElem h1]; rfl
    rw [hd, oldF] at hf
    generalize ks.getD n 0 = k at hf ⊢
    refine ⟨by omega, fun a b => by rw [a, b]; rfl, fun c => ?_, fun c => ?_⟩
    · have e : oldS es k best = rowE es k := if_pos c
      rw [e] at hf
      exact hK _ _ _ _ _ _ (rowE es k, n + 1) ⟨by omega, hf⟩ (by omega) rfl rfl rfl rfl rfl (wrap_up rfl (by omega))
    · have e : oldS es k best = best := if_neg (ne_true_of_eq_false c)
      rw [e] at hf
      exact hK _ _ _ _ _ _ (best, n + 1) ⟨by omega, hf⟩ (by omega) rfl rfl rfl rfl rfl (wrap_up rfl (by omega))
  · have h1 : n = ks.length := by omega
    subst h1
    rw [List.drop_length, oldF] at hf
    subst hf
    refine ⟨fun c => ?_, fun c => ?_⟩
    · rw [if_pos (by simpa using c)]
    · rw [if_neg (by simpa using c)]
theorem p22N (ks : List (List C)) : PCg Try.prog 22 S22 [kI, kI] [.np, sI ks] := by
  refine pc22N (e22N ..) ?_
  unfold vc22N
  exact ⟨rfl, rfl⟩
def S14 : List A → List C := fun ds => match ds with
  | [.c (.sl _ x), .c (.sl _ y)] => [.bool (decide (prI x = prI y))]
  | _ => []
theorem e14 (ps qs : List Int) : S14 [sI (rowsI ps), sI (rowsI qs)] = [.bool (decide (ps = qs))] := by
  show [C.bool (decide (prI (rowsI ps) = prI (rowsI qs)))] = _
  rw [prI_rowsI, prI_rowsI]
def tbl14 : FuncId → List A → List C := fun f ds => match f with
  | _ => []
theorem pc14  {x1 : List (List C)} {x2 : List (List C)} {row : List C} (hS : S14 [.c (.sl [.int .i64] x1), .c (.sl [.int .i64] x2)] = row) (h : vc14 (stdE Try.prog tbl14) x1 x2 fun c => c = row) : PCg Try.prog 14 S14 [(false, [.bool])] [.c (.sl [.int .i64] x1), .c (.sl [.int .i64] x2)] := PureC_vc mo h14 (by kernel_rfl) hS (w14  h)
theorem p14 {ps : List Int} (hl : ps.length ≤ 1000000) (qs : List Int) : PCg Try.prog 14 S14 [kB] [sI (rowsI ps), sI (rowsI qs)] := by
  refine pc14 (e14 ..) ?_
  unfold vc14
  simp only [stdE, baseE, Br_iff, rowsI_len]
  simp only [Bool.not_eq_true', Bool.not_eq_false', beq_iff_eq, beq_eq_false_iff_ne, decide_eq_true_eq, decide_eq_false_iff_not]
  refine ⟨fun h => ?_, fun h => ?_⟩
  · rw [decide_eq_false]
    intro e
    subst e
    simp at h
  have h3' : ps.length = qs.length := by omega
  refine find_loop (p := fun i => decide (ps.getD i 0 ≠ qs.getD i 0)) (n := ps.length) (A' := fun k => ps ≠ qs) (B := ps = qs) (by omega) ?_ ?_ ?_ ?_
  · intro k K hk ha hf
    simp only [toNat_cast, rowsI_getD]
    refine ⟨fun _ => ⟨by omega, by omega, fun h => ?_, fun h => ?_⟩, fun h => by omega⟩
    · rw [decide_eq_false (ha (by simpa using h))]
    · rw [wrap_up rfl (by omega)]
      exact hf (by simpa using h)
  · intro K hB
    exact ⟨fun h => by omega, fun _ => by rw [decide_eq_true hB]⟩
  · intro k hk h4 h5 e
    subst e
    simp at h5
  · intro h
    have := ixF_none h
    exact ext_getD 0 h3' fun i hi => by simpa using this i hi
def S19 : List A → List C := fun ds => match ds with
  | [.c (.sl _ x), .c (.sl _ y)] => [.bool (decide (un3 x = un3 y))]
  | _ => []
theorem e19 (ps qs : List I3) : S19 [s3 (row3 ps), s3 (row3 qs)] = [.bool (decide (ps = qs))] := by
  show [C.bool (decide (un3 (row3 ps) = un3 (row3 qs)))] = _
  rw [un3_row, un3_row]
def tbl19 : FuncId → List A → List C := fun f ds => match f with
  | _ => []
theorem pc19  {x1 : List (List C)} {x2 : List (List C)} {row : List C} (hS : S19 [.c (.sl [.int .i64, .int .i64, .int .i64] x1), .c (.sl [.int .i64, .int .i64, .int .i64] x2)] = row) (h : vc19 (stdE Try.prog tbl19) x1 x2 fun c => c = row) : PCg Try.prog 19 S19 [(false, [.bool])] [.c (.sl [.int .i64, .int .i64, .int .i64] x1), .c (.sl [.int .i64, .int .i64, .int .i64] x2)] := PureC_vc mo h19 (by kernel_rfl) hS (w19  h)
theorem p19 {ps : List I3} (hl : ps.length ≤ 1000000) (qs : List I3) : PCg Try.prog 19 S19 [kB] [s3 (row3 ps), s3 (row3 qs)] := by
  refine pc19 (e19 ..) ?_
  unfold vc19
  simp only [stdE, baseE, Br_iff, row3_len]
  simp only [Bool.not_eq_true', Bool.not_eq_false', beq_iff_eq, beq_eq_false_iff_ne, decide_eq_true_eq, decide_eq_false_iff_not]
  refine ⟨fun h => ?_, fun h => ?_⟩
  · rw [decide_eq_false]
    intro e
    subst e
    simp at h
  have h3' : ps.length = qs.length := by omega
  refine find_loop (p := fun i => decide (ps.getD i z3 ≠ qs.getD i z3)) (n := ps.length) (A' := fun k => ps ≠ qs) (B := ps = qs) (by omega) ?_ ?_ ?_ ?_
  · intro k K hk ha hf
    simp only [toNat_cast, row3_c0, row3_c1, row3_c2]
    refine ⟨fun _ => ⟨by omega, by omega, fun h => ?_, fun h => ?_⟩, fun h => by omega⟩
    · rw [decide_eq_false (ha (by
        simp only [ne_eq, decide_not, Bool.not_eq_true', decide_eq_false_iff_not]
        intro e
        rw [e] at h
        simp at h))]
    · rw [wrap_up rfl (by omega)]
      exact hf (by
        simp only [Bool.and_true, Bool.and_eq_true, beq_iff_eq] at h
        simp only [ne_eq, decide_not, Bool.not_eq_false', decide_eq_true_eq]
        exact Prod.ext h.1 (Prod.ext h.2.1 h.2.2))
  · intro K hB
    exact ⟨fun h => by omega, fun _ => by rw [decide_eq_true hB]⟩
  · intro k hk h4 h5 e
    subst e
    simp at h5
  · intro h
    have := ixF_none h
    exact ext_getD z3 h3' fun i hi => by simpa using this i hi
end Go.Proofs.Ytniijahjfbgfpaa.V
