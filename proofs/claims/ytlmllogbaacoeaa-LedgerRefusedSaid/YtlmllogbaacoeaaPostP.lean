/- Ledgers: what the functions that post make of a ledger. No conditions. -/
import Derived.Test.YtlmllogbaacoeaaChkP
set_option linter.unusedVariables false
set_option linter.unusedSimpArgs false
namespace Go.Proofs.Ytlmllogbaacoeaa.V
open Go Go.Eng
set_option maxRecDepth 1000000
set_option maxHeartbeats 1000000
theorem ixF_spec (n : Nat) (p : Nat → Bool) : ∀ d j, n - j = d → (ixF n p j = -1 ∧ ∀ m, j ≤ m → m < n → p m = false) ∨ ∃ m, j ≤ m ∧ m < n ∧ ixF n p j = m ∧ p m = true ∧ ∀ q, j ≤ q → q < m → p q = false := by
  intro d
  induction d with
  | zero => intro j h; exact .inl ⟨ixF_ge (by omega), fun m h1 h2 => by omega⟩
  | succ d ih =>
    intro j h
    have hu := ixF_lt (p := p) (show j < n by omega)
    cases hp : p j with
    | true =>
      rw [hp, if_pos rfl] at hu
      exact .inr ⟨j, Nat.le_refl _, by omega, hu, hp, fun q h1 h2 => by omega⟩
    | false =>
      rw [hp, if_neg (by simp)] at hu
      have step : ∀ q, j ≤ q → (j + 1 ≤ q → p q = false) → p q = false := fun q h1 h2 => by
        by_cases e : q = j
        · subst e; exact hp
        · exact h2 (by omega)
      rcases ih (j + 1) (by omega) with ⟨h1, h2⟩ | ⟨m, h1, h2, h3, h4, h5⟩
      · exact .inl ⟨hu.trans h1, fun m g1 g2 => step m g1 fun g => h2 m g g2⟩
      · exact .inr ⟨m, by omega, h2, hu.trans h3, h4, fun q g1 g2 => step q g1 fun g => h5 q g g2⟩
theorem ixF_congr {n : Nat} {p q : Nat → Bool} (h : ∀ j, j < n → p j = q j) : ∀ d j, n - j = d → ixF n p j = ixF n q j := by
  intro d
  induction d with
  | zero => intro j hj; rw [ixF_ge (by omega), ixF_ge (by omega)]
  | succ d ih => intro j hj; rw [ixF_lt (p := p) (show j < n by omega), ixF_lt (p := q) (show j < n by omega), h j (by omega), ih (j + 1) (by omega)]
/-- A loop that looks for the first index with a property. -/
theorem find_loop {n : Nat} {p : Nat → Bool} {B : Prop} {A' : Nat → Prop} {b : Int → (Int → Prop) → Prop} (hn : n ≤ 9223372036854775806) (hb : ∀ (k : Nat) (K : Int → Prop), k < n → (p k = true → A' k) → (p k = false → K ((k + 1 : Nat) : Int)) → b k K)
    (he : ∀ K : Int → Prop, B → b n K) (ha : ∀ k : Nat, k < n → ixF n p 0 = k → p k = true → A' k) (hB : ixF n p 0 = -1 → B) : LoopP1 b 0 := by
  refine LoopP1.run (fun k : Nat => (k : Int)) (fun k => k ≤ n ∧ ixF n p k = ixF n p 0) (fun k => n - k) 0 ⟨Nat.zero_le _, rfl⟩ rfl ?_
  rintro k ⟨hk, hf⟩ K hK
  by_cases h : k < n
  · have e := ixF_lt (p := p) h
    refine hb k K h (fun hp => ha k h ?_ hp) fun hp => hK _ (k + 1) ⟨by omega, ?_⟩ (by omega) rfl
    · rw [← hf, e, hp, if_pos rfl]
    · rw [← hf, e, hp, if_neg (by simp)]
  · have hk : k = n := by omega
    subst hk
    exact he K (hB (by rw [← hf, ixF_ge (by omega)]))
abbrev sP (xs : List (List C)) : A := .c (.sl PL xs)
def unP (xs : List (List C)) : List PT := xs.map fun r => ((r.getD 0 .nil).gi, (r.getD 1 .nil).gi, un2 (r.getD 2 .nil).gl)
theorem unP_rows (ps : List PT) : unP (rowsP ps) = ps := by
  unfold unP rowsP
  rw [List.map_map]
  refine (List.map_congr_left fun p _ => ?_).trans (List.map_id ps)
  show ((rowP p).getD 0 .nil |>.gi, ((rowP p).getD 1 .nil).gi, un2 ((rowP p).getD 2 .nil).gl) = p
  show (p.1, p.2.1, un2 (row2 p.2.2)) = p
  rw [un2_row]
def chkS : List A → List C := fun ds => match ds with
  | [.agg [.c (.int _ a), .c (.int _ b), .c (.sl _ x)]] => [.int .i64 (chkP (a, b, un2 x))]
  | _ => []
theorem chk_e (a b : Int) (its : List I2) : chkS [poA a b (row2 its)] = [.int .i64 (chkP (a, b, its))] := by
  show [C.int .i64 (chkP (a, b, un2 (row2 its)))] = _
  rw [un2_row]
def S13 : List A → List C := chkS
def S14 : List A → List C := chkS
def tbl13 : FuncId → List A → List C := fun f ds => match f with
  | _ => []
theorem pc13  {x1 : Int} {x2 : Int} {x3 : List (List C)} {row : List C} (hS : S13 [.agg [.c (.int .i64 x1), .c (.int .i64 x2), .c (.sl [.int .i64, .int .i64] x3)]] = row) (h : vc13 (stdE Try.prog tbl13) x1 x2 x3 fun c => c = row) : PCg Try.prog 13 S13 [(false, [.int .i64])] [.agg [.c (.int .i64 x1), .c (.int .i64 x2), .c (.sl [.int .i64, .int .i64] x3)]] := PureC_vc mo h13 (by kernel_rfl) hS (w13  h)
def tbl14 : FuncId → List A → List C := fun f ds => match f with
  | _ => []
theorem pc14  {x1 : Int} {x2 : Int} {x3 : List (List C)} {row : List C} (hS : S14 [.agg [.c (.int .i64 x1), .c (.int .i64 x2), .c (.sl [.int .i64, .int .i64] x3)]] = row) (h : vc14 (stdE Try.prog tbl14) x1 x2 x3 fun c => c = row) : PCg Try.prog 14 S14 [(false, [.int .i64])] [.agg [.c (.int .i64 x1), .c (.int .i64 x2), .c (.sl [.int .i64, .int .i64] x3)]] := PureC_vc mo h14 (by kernel_rfl) hS (w14  h)
theorem e13 (a b : Int) (its : List I2) : S13 [poA a b (row2 its)] = [.int .i64 (chkP (a, b, its))] := chk_e a b its
theorem e14 (a b : Int) (its : List I2) : S14 [poA a b (row2 its)] = [.int .i64 (chkP (a, b, its))] := chk_e a b its
theorem p13 (a b : Int) (its : List I2) : PCg Try.prog 13 S13 [kI] [poA a b (row2 its)] := pc13 (e13 ..) (chk_body a b its rfl)
theorem p14 (a b : Int) (its : List I2) : PCg Try.prog 14 S14 [kI] [poA a b (row2 its)] := pc14 (e14 ..) (chk_body (P := Try.prog) (tbl := tbl14) (Q := fun c => c = [C.int .i64 (chkP (a, b, its))]) a b its rfl)
/-! ### Twice -/
abbrev eP (a b : Int) (c : List (List C)) : A := .el PL [[.int .i64 a, .int .i64 b, .sl L2 c]] 0 0
def S34 : List A → List C := fun ds => match ds with
  | [.agg [.c (.int _ a), _, _], .el _ [[.int _ b, _, _]] _ _] => [.bool (a == b)]
  | _ => []
theorem e34 (a b : Int) (c : List (List C)) (a' b' : Int) (c' : List (List C)) : S34 [poA a b c, eP a' b' c'] = [.bool (a == a')] := rfl
def tbl34 : FuncId → List A → List C := fun f ds => match f with
  | _ => []
theorem pc34  {x6 : Int} {x7 : Int} {x8 : List (List C)} {x3 : Int} {x4 : Int} {x5 : List (List C)} {row : List C} (hS : S34 [.agg [.c (.int .i64 x6), .c (.int .i64 x7), .c (.sl [.int .i64, .int .i64] x8)], .el [.int .i64, .int .i64, .sl [.int .i64, .int .i64]] [[.int .i64 x3, .int .i64 x4, .sl [.int .i64, .int .i64] x5]] 0 0] = row) (h : vc34 (stdE Try.prog tbl34) x6 x7 x8 x3 x4 x5 fun c => c = row) : PCg Try.prog 34 S34 [(false, [.bool])] [.agg [.c (.int .i64 x6), .c (.int .i64 x7), .c (.sl [.int .i64, .int .i64] x8)], .el [.int .i64, .int .i64, .sl [.int .i64, .int .i64]] [[.int .i64 x3, .int .i64 x4, .sl [.int .i64, .int .i64] x5]] 0 0] := PureC_vc mo h34 (by kernel_rfl) hS (w34  h)
theorem p34 (a b : Int) (c : List (List C)) (a' b' : Int) (c' : List (List C)) : PCg Try.prog 34 S34 [kB] [poA a b c, eP a' b' c'] := by
  refine pc34 (e34 ..) ?_
  unfold vc34
  simp only [stdE, baseE]
  rfl
def isP (ps : List PT) (n : Int) (j : Nat) : Bool := (ps.getD j zP).1 == n
theorem isP_fold (ps : List PT) (n : Int) (j : Nat) : ((ps.getD j zP).1 == n) = isP ps n j := id rfl
def S44 : List A → List C := fun ds => match ds with
  | [.c (.sl _ xs), .fn _ [.el _ [[.int _ b, _, _]] _ _]] => [.int .i64 (ixF (unP xs).length (isP (unP xs) b) 0)]
  | _ => []
theorem e44 (ps : List PT) (a b : Int) (c : List (List C)) : S44 [sP (rowsP ps), .fn 34 [eP a b c]] = [.int .i64 (ixF ps.length (isP ps a) 0)] := by
  show [C.int .i64 (ixF (unP (rowsP ps)).length (isP (unP (rowsP ps)) a) 0)] = _
  rw [unP_rows]
def tbl44 : FuncId → List A → List C := fun f ds => match f with
  | 34 => S34 ds
  | _ => []
theorem pc44  {x1 : List (List C)} {x3 : Int} {x4 : Int} {x5 : List (List C)} {row : List C} (hS : S44 [.c (.sl [.int .i64, .int .i64, .sl [.int .i64, .int .i64]] x1), .fn 34 [.el [.int .i64, .int .i64, .sl [.int .i64, .int .i64]] [[.int .i64 x3, .int .i64 x4, .sl [.int .i64, .int .i64] x5]] 0 0]] = row) (h : vc44 (stdE Try.prog tbl44) x1 x3 x4 x5 fun c => c = row) : PCg Try.prog 44 S44 [(false, [.int .i64])] [.c (.sl [.int .i64, .int .i64, .sl [.int .i64, .int .i64]] x1), .fn 34 [.el [.int .i64, .int .i64, .sl [.int .i64, .int .i64]] [[.int .i64 x3, .int .i64 x4, .sl [.int .i64, .int .i64] x5]] 0 0]] := PureC_vc mo h44 (by kernel_rfl) hS (w44  h)
theorem p44 {ps : List PT} (hp : ps.length ≤ 1000000) (a b : Int) (c : List (List C)) : PCg Try.prog 44 S44 [kI] [sP (rowsP ps), .fn 34 [eP a b c]] := by
  refine pc44 (e44 ..) ?_
  unfold vc44
  simp only [stdE, baseE, Br_iff, tbl44, forall_eq, rowsP_len]
  simp only [p34, true_and]
  simp only [e34, List.getD_cons_zero, gb_bool, rowsP_c0]
  refine find_loop (p := isP ps a) (n := ps.length) (A' := fun k => [C.int .i64 (k : Int)] = [.int .i64 (ixF ps.length (isP ps a) 0)]) (B := [C.int .i64 (-1)] = [.int .i64 (ixF ps.length (isP ps a) 0)]) (by omega) ?_ ?_ ?_ ?_
  · intro k K hk ha hf
    simp only [decide_eq_true_eq, decide_eq_false_iff_not, toNat_cast, isP_fold]
    refine ⟨fun _ => ⟨by omega, fun h => ha h, fun h => ?_⟩, fun h => by omega⟩
    rw [wrap_up rfl (by omega)]; exact hf h
  · intro K hB
    simp only [decide_eq_true_eq, decide_eq_false_iff_not]
    exact ⟨fun h => by omega, fun _ => hB⟩
  · intro k hk h1 h2
    rw [h1]
  · intro h; rw [h]
theorem ix_dup (ps : List PT) (n : Int) : decide (0 ≤ ixF ps.length (isP ps n) 0) = dupB ps n := by
  rcases ixF_spec ps.length (isP ps n) _ 0 rfl with ⟨h1, h2⟩ | ⟨m, h1, h2, h3, h4, h5⟩
  · rw [h1]
    have : dupB ps n = false := by
      unfold dupB
      rw [List.any_eq_false]
      intro x hx
      obtain ⟨i, hi, rfl⟩ := List.mem_iff_getElem.1 hx
      have := h2 i (Nat.zero_le _) hi
      unfold isP at this
      rw [getD_get hi] at this
      simpa using this
    rw [this]; rfl
  · rw [h3]
    have : dupB ps n = true := by
      unfold dupB
      rw [List.any_eq_true]
      refine ⟨ps[m], List.getElem_mem h2, ?_⟩
      unfold isP at h4
      rwa [getD_get h2] at h4
    rw [this]; simp
def S33 : List A → List C := fun ds => match ds with
  | [.c (.sl _ xs), .fn _ [.el _ [[.int _ b, _, _]] _ _]] => [.bool (dupB (unP xs) b)]
  | _ => []
theorem e33 (ps : List PT) (a b : Int) (c : List (List C)) : S33 [sP (rowsP ps), .fn 34 [eP a b c]] = [.bool (dupB ps a)] := by
  show [C.bool (dupB (unP (rowsP ps)) a)] = _
  rw [unP_rows]
def tbl33 : FuncId → List A → List C := fun f ds => match f with
  | 44 => S44 ds
  | _ => []
theorem pc33  {x1 : List (List C)} {x3 : Int} {x4 : Int} {x5 : List (List C)} {row : List C} (hS : S33 [.c (.sl [.int .i64, .int .i64, .sl [.int .i64, .int .i64]] x1), .fn 34 [.el [.int .i64, .int .i64, .sl [.int .i64, .int .i64]] [[.int .i64 x3, .int .i64 x4, .sl [.int .i64, .int .i64] x5]] 0 0]] = row) (h : vc33 (stdE Try.prog tbl33) x1 x3 x4 x5 fun c => c = row) : PCg Try.prog 33 S33 [(false, [.bool])] [.c (.sl [.int .i64, .int .i64, .sl [.int .i64, .int .i64]] x1), .fn 34 [.el [.int .i64, .int .i64, .sl [.int .i64, .int .i64]] [[.int .i64 x3, .int .i64 x4, .sl [.int .i64, .int .i64] x5]] 0 0]] := PureC_vc mo h33 (by kernel_rfl) hS (w33  h)
theorem p33 {ps : List PT} (hp : ps.length ≤ 1000000) (a b : Int) (c : List (List C)) : PCg Try.prog 33 S33 [kB] [sP (rowsP ps), .fn 34 [eP a b c]] := by
  refine pc33 (e33 ..) ?_
  unfold vc33
  simp only [stdE, baseE, tbl33, forall_eq]
  simp only [p44 hp, true_and]
  simp only [e44, List.getD_cons_zero, gi_int, ix_dup]
/-! ### A copy -/
def S37 : List A → List C := fun ds => match ds with
  | [.agg [.c (.int _ a), .c (.int _ b), .c (.sl _ x)]] => [.int .i64 a, .int .i64 b, .sl L2 x]
  | _ => []
abbrev kP : Bool × List LK := (true, PL)
def tbl37 : FuncId → List A → List C := fun f ds => match f with
  | _ => []
theorem pc37 (ce45 : CloneCO 45 [.int .i64, .int .i64] Try.prog 45) {x1 : Int} {x2 : Int} {x3 : List (List C)} {row : List C} (hS : S37 [.agg [.c (.int .i64 x1), .c (.int .i64 x2), .c (.sl [.int .i64, .int .i64] x3)]] = row) (h : vc37 (stdE Try.prog tbl37) x1 x2 x3 fun c => c = row) : PCg Try.prog 37 S37 [(true, [.int .i64, .int .i64, .sl [.int .i64, .int .i64]])] [.agg [.c (.int .i64 x1), .c (.int .i64 x2), .c (.sl [.int .i64, .int .i64] x3)]] := PureC_vc mo h37 (by kernel_rfl) hS (w37 ce45 h)
theorem e37 (a b : Int) (c : List (List C)) : S37 [poA a b c] = [.int .i64 a, .int .i64 b, .sl L2 c] := rfl
theorem cloneco45 : CloneCO 45 L2 Try.prog 45 := ⟨clone45, CloneO.k cloneo45⟩
theorem p37 (a b : Int) {c : List (List C)} (hc : c.length ≤ 1000000) : PCg Try.prog 37 S37 [kP] [poA a b c] := by
  refine pc37 cloneco45 (e37 ..) ?_
  unfold vc37
  exact ⟨hc, rfl⟩
/-! ### Balances -/
theorem look_fold (m : List (Int × C)) (k : Int) : ((mfind k m).getD (.int .i64 0)).gi = look m k := id rfl
theorem itemK_b {its : List I2} (h : ∀ i, i < its.length → -1000000000000 ≤ amt its i ∧ amt its i ≤ 1000000000000) (k : Int) {n : Nat} (hn : n ≤ its.length) : -((n : Int) * 1000000000000) ≤ sumTo (itemK its k) n ∧ sumTo (itemK its k) n ≤ (n : Int) * 1000000000000 :=
  sumTo_abs fun i hi => by
    have := h i (by omega)
    unfold itemK
    split <;> omega
def tbl35 : FuncId → List A → List C := fun f ds => match f with
  | _ => []
theorem ac35 {x1 : List (List C)} {x2 : List (Int × C)} {x3 : Int} {x4 : Int} {x5 : List (List C)} {x6 : Int}  {Q0 : (List (Int × C)) → Prop} (h : vc35 (stdE Try.prog tbl35) x1 x2 x3 x4 x5 x6 Q0) : ACalls Try.prog 35 [.ptr 0 0, .agg [.c (.int .i64 x3), .c (.int .i64 x4), .c (.sl [.int .i64, .int .i64] x5)], .c (.int .i64 x6)] [.box 54 [.gr 1, .map 2], .arr 24 [.int .i64, .int .i64, .sl [.int .i64, .int .i64]] x1, .mp .i64 (.int .i64) x2] fun r H' => (∃ m1 : List (Int × C), Q0 m1 ∧ r = .tup [] ∧ H' = [.box 54 [.gr 1, .map 2], .arr 24 [.int .i64, .int .i64, .sl [.int .i64, .int .i64]] x1, .mp .i64 (.int .i64) m1]) := ACalls_vc mo h35 (w35  h)
def tbl36 : FuncId → List A → List C := fun f ds => match f with
  | _ => []
theorem ac36 {x0 : Int} {x1 : List (List C)} {x2 : List (Int × C)} {x3 : Int} {x4 : Int} {x5 : List (List C)} (ce35 : AddC Try.prog 35) {Q0 : (List (Int × C)) → Prop} (h : vc36 (stdE Try.prog tbl36) x0 x1 x2 x3 x4 x5 Q0) : ACallsW (XD Try.prog) 36 [.ptr 0 0, .ptr 1 0, .ptr 5 0] [.box 26 [.c (.int .i64 x0)], .box 30 [.ptr 2 0], .box 54 [.gr 3, .map 4], .arr 24 [.int .i64, .int .i64, .sl [.int .i64, .int .i64]] x1, .mp .i64 (.int .i64) x2, .box 24 [.c (.int .i64 x3), .c (.int .i64 x4), .c (.sl [.int .i64, .int .i64] x5)]] fun r H' => (∃ m1 : List (Int × C), Q0 m1 ∧ r = .tup [] ∧ H' = [.box 26 [.c (.int .i64 x0)], .box 30 [.ptr 2 0], .box 54 [.gr 3, .map 4], .arr 24 [.int .i64, .int .i64, .sl [.int .i64, .int .i64]] x1, .mp .i64 (.int .i64) m1, .box 24 [.c (.int .i64 x3), .c (.int .i64 x4), .c (.sl [.int .i64, .int .i64] x5)]]) := ACallsD_vc mo h36 (w36 ce35 h)
theorem c35 : AddC Try.prog 35 := ⟨fnR_body h35 (by kernel_rfl), fun x1 x2 x3 x4 x5 x6 K ⟨its, f, hx, hl, h16, hb, h6, hf, hK⟩ => ac35 (by
  subst hx
  unfold vc35
  simp only [stdE, baseE, Br_iff, row2_len, decide_eq_true_eq, decide_eq_false_iff_not, look_fold]
  refine LoopP2.run (fun p : List (Int × C) × Nat => p.1) (fun p => (p.2 : Int)) (fun p => p.2 ≤ its.length ∧ ∀ k, look p.1 k = f k + x6 * sumTo (itemK its k) p.2) (fun p => its.length - p.2) (x2, 0) ⟨Nat.zero_le _, fun k => by simp [sumTo, hl]⟩ rfl rfl ?_
  rintro ⟨m, n⟩ ⟨hn, hm⟩ K2 hK2
  dsimp only at hn hm ⊢
  simp only [toNat_cast, row2_c0, row2_c1, amt_fold, acc_fold]
  refine ⟨fun h => ⟨by omega, hK2 _ _ (_, n + 1) ⟨by dsimp only; omega, fun k => ?_⟩ (by dsimp only; omega) rfl (wrap_up rfl (by omega))⟩, fun h => hK m fun k => ?_⟩
  · dsimp only
    have ha := hb n (by omega)
    have e1 : IntKind.i64.wrap (x6 * amt its n) = x6 * amt its n := by rcases h6 with rfl | rfl <;> exact wrap_in (by omega) (by omega)
    have hs := itemK_b hb (acc its n) (n := n) (by omega)
    have hfk := hf (acc its n)
    have e2 : IntKind.i64.wrap (look m (acc its n) + x6 * amt its n) = look m (acc its n) + x6 * amt its n := by
      rw [hm]
      rcases h6 with rfl | rfl <;> exact wrap_in (by omega) (by omega)
    rw [e1, e2, look_put, sumTo, Int.mul_add, ← Int.add_assoc, ← hm]
    unfold itemK
    by_cases hk : k = acc its n
    · subst hk; simp
    · have hk' : ¬ acc its n = k := fun h => hk h.symm
      simp [hk, hk']
  · have e : n = its.length := by omega
    subst e
    exact hm k)⟩
theorem c36 : BackC Try.prog 36 := ⟨fnR_body h36 (by kernel_rfl), fun x0 x1 x2 x3 x4 x5 K ⟨ha, hz⟩ => ac36 c35 (by
  unfold vc36
  simp only [stdE, baseE, Br_iff, Bool.not_eq_true', Bool.not_eq_false', beq_iff_eq, beq_eq_false_iff_ne]
  exact ⟨fun h => ha h, fun h => hz h⟩)⟩
end Go.Proofs.Ytlmllogbaacoeaa.V
