/- Warehouses: what the functions that change one make of it. No conditions. -/
import Derived.Test.YtniijahjfbgfpaaSortP
set_option linter.unusedVariables false
set_option linter.unusedSimpArgs false
namespace Go.Proofs.Ytniijahjfbgfpaa.V
open Go Go.Eng
set_option maxRecDepth 1000000
set_option maxHeartbeats 1000000
theorem Wh.le {bs : List I2} {es : List (Int × List C)} {tn la : Int} {hs : List I5} (h : Wh bs es tn la hs) (ht : tn ≤ 1000) : es.length ≤ 1000000 := by
  have := h.len; have := h.inv.ln; omega
theorem Wh.has {bs : List I2} {es : List (Int × List C)} {tn la : Int} {hs : List I5} (h : Wh bs es tn la hs) (k : Int) : (mfind k es).isSome = (fnd hs k).isSome := by
  rw [h.find, Option.isSome_map]
theorem Wh.look {bs : List I2} {es : List (Int × List C)} {tn la : Int} {hs : List I5} (h : Wh bs es tn la hs) {k : Int} {x : I5} (hx : fnd hs k = some x) (j : Nat) (z : C) : mlook es k j z = (cs5 x).getD j .nil := by
  unfold mlook
  rw [h.find, hx]
  rfl
theorem isB_d {bs : List I2} {b : Int} (h : isB bs b = true) : 0 ≤ b ∧ b < bs.length := by simpa [isB] using h
def tbl43 : FuncId → List A → List C := fun f ds => match f with
  | 32 => S32 ds
  | _ => []
theorem ac43 {x1 : List (List C)} {x2 : List (Int × List C)} {x3 : Int} {x4 : Int} {x5 : Int} {x6 : Int} {x7 : Int} {x8 : Int}  {Q0 : (Int) → (Int) → (List (Int × List C)) → (Int) → Prop} (h : vc43 (stdE Try.prog tbl43) x1 x2 x3 x4 x5 x6 x7 x8 Q0) : ACalls Try.prog 43 [.ptr 0 0, .c (.int .i64 x5), .c (.int .i64 x6), .c (.int .i64 x7), .c (.int .i64 x8)] [.box 64 [.c (.sl [.int .i64, .int .i64] x1), .map 1, .c (.int .i64 x3), .c (.int .i64 x4)], .mp .i64 true [.int .i64, .int .i64, .int .i64, .int .i64, .int .i64] x2] fun r H' => (∃ i1 : Int, ∃ i2 : Int, ∃ m3 : List (Int × List C), ∃ i4 : Int, Q0 i1 i2 m3 i4 ∧ r = .c (.int .i64 i4) ∧ H' = [.box 64 [.c (.sl [.int .i64, .int .i64] x1), .map 1, .c (.int .i64 i1), .c (.int .i64 i2)], .mp .i64 true [.int .i64, .int .i64, .int .i64, .int .i64, .int .i64] m3]) := ACalls_vc mo h43 (w43  h)
def tbl26 : FuncId → List A → List C := fun f ds => match f with
  | 34 => S34 ds
  | 42 => S42 ds
  | _ => []
theorem ac26 {x1 : List (List C)} {x2 : List (Int × List C)} {x3 : Int} {x4 : Int} {x5 : Int} {x6 : Int} {x7 : Int} {x8 : Int} (ce43 : EnterC Try.prog 43) {Q0 : (Int) → (Int) → (List (Int × List C)) → (Int) → Prop} (h : vc26 (stdE Try.prog tbl26) x1 x2 x3 x4 x5 x6 x7 x8 Q0) : ACalls Try.prog 26 [.ptr 0 0, .c (.int .i64 x5), .c (.int .i64 x6), .c (.int .i64 x7), .c (.int .i64 x8)] [.box 64 [.c (.sl [.int .i64, .int .i64] x1), .map 1, .c (.int .i64 x3), .c (.int .i64 x4)], .mp .i64 true [.int .i64, .int .i64, .int .i64, .int .i64, .int .i64] x2] fun r H' => (∃ i1 : Int, ∃ i2 : Int, ∃ m3 : List (Int × List C), ∃ i4 : Int, Q0 i1 i2 m3 i4 ∧ r = .c (.int .i64 i4) ∧ H' = [.box 64 [.c (.sl [.int .i64, .int .i64] x1), .map 1, .c (.int .i64 i1), .c (.int .i64 i2)], .mp .i64 true [.int .i64, .int .i64, .int .i64, .int .i64, .int .i64] m3]) := ACalls_vc mo h26 (w26 ce43 h)
def tbl26N : FuncId → List A → List C := fun f ds => match f with
  | _ => []
theorem ac26N {x5 : Int} {x6 : Int} {x7 : Int} {x8 : Int}  {Q0 : Prop} (h : vc26N (stdE Try.prog tbl26N) x5 x6 x7 x8 Q0) : ACalls Try.prog 26 [.np, .c (.int .i64 x5), .c (.int .i64 x6), .c (.int .i64 x7), .c (.int .i64 x8)] [] fun r H' => (Q0  ∧ r = .c (.int .i64 14) ∧ H' = []) := ACalls_vc mo h26 (w26N  h)
def tbl27 : FuncId → List A → List C := fun f ds => match f with
  | 34 => S34 ds
  | 42 => S42 ds
  | _ => []
theorem ac27 {x1 : List (List C)} {x2 : List (Int × List C)} {x3 : Int} {x4 : Int} {x5 : Int} {x6 : Int} {x7 : Int} (ce43 : EnterC Try.prog 43) {Q0 : (Int) → (Int) → (List (Int × List C)) → (Int) → Prop} (h : vc27 (stdE Try.prog tbl27) x1 x2 x3 x4 x5 x6 x7 Q0) : ACalls Try.prog 27 [.ptr 0 0, .c (.int .i64 x5), .c (.int .i64 x6), .c (.int .i64 x7)] [.box 64 [.c (.sl [.int .i64, .int .i64] x1), .map 1, .c (.int .i64 x3), .c (.int .i64 x4)], .mp .i64 true [.int .i64, .int .i64, .int .i64, .int .i64, .int .i64] x2] fun r H' => (∃ i1 : Int, ∃ i2 : Int, ∃ m3 : List (Int × List C), ∃ i4 : Int, Q0 i1 i2 m3 i4 ∧ r = .c (.int .i64 i4) ∧ H' = [.box 64 [.c (.sl [.int .i64, .int .i64] x1), .map 1, .c (.int .i64 i1), .c (.int .i64 i2)], .mp .i64 true [.int .i64, .int .i64, .int .i64, .int .i64, .int .i64] m3]) := ACalls_vc mo h27 (w27 ce43 h)
def tbl27N : FuncId → List A → List C := fun f ds => match f with
  | _ => []
theorem ac27N {x5 : Int} {x6 : Int} {x7 : Int}  {Q0 : Prop} (h : vc27N (stdE Try.prog tbl27N) x5 x6 x7 Q0) : ACalls Try.prog 27 [.np, .c (.int .i64 x5), .c (.int .i64 x6), .c (.int .i64 x7)] [] fun r H' => (Q0  ∧ r = .c (.int .i64 14) ∧ H' = []) := ACalls_vc mo h27 (w27N  h)
def tbl25 : FuncId → List A → List C := fun f ds => match f with
  | _ => []
theorem ac25 {x1 : List (List C)} {x2 : List (Int × List C)} {x3 : Int} {x4 : Int} {x5 : Int}  {Q0 : (List (Int × List C)) → (Int) → (Int) → Prop} (h : vc25 (stdE Try.prog tbl25) x1 x2 x3 x4 x5 Q0) : ACalls Try.prog 25 [.ptr 0 0, .c (.int .i64 x5)] [.box 64 [.c (.sl [.int .i64, .int .i64] x1), .map 1, .c (.int .i64 x3), .c (.int .i64 x4)], .mp .i64 true [.int .i64, .int .i64, .int .i64, .int .i64, .int .i64] x2] fun r H' => (∃ m1 : List (Int × List C), ∃ i2 : Int, ∃ i3 : Int, Q0 m1 i2 i3 ∧ r = .tup [.c (.int .i64 i2), .c (.int .i64 i3)] ∧ H' = [.box 64 [.c (.sl [.int .i64, .int .i64] x1), .map 1, .c (.int .i64 x3), .c (.int .i64 x4)], .mp .i64 true [.int .i64, .int .i64, .int .i64, .int .i64, .int .i64] m1]) := ACalls_vc mo h25 (w25  h)
def tbl25N : FuncId → List A → List C := fun f ds => match f with
  | _ => []
theorem ac25N {x5 : Int}  {Q0 : Prop} (h : vc25N (stdE Try.prog tbl25N) x5 Q0) : ACalls Try.prog 25 [.np, .c (.int .i64 x5)] [] fun r H' => (Q0  ∧ r = .tup [.c (.int .i64 0), .c (.int .i64 14)] ∧ H' = []) := ACalls_vc mo h25 (w25N  h)
def tbl12 : FuncId → List A → List C := fun f ds => match f with
  | _ => []
theorem ac12 {x1 : List (List C)} {x2 : List (Int × List C)} {x3 : Int} {x4 : Int} {x5 : Int} {x6 : Int} {x7 : Int} {x8 : Int} {x9 : Int} (ce25 : TakeC Try.prog 25) (ce26 : PutC Try.prog 26) (ce27 : MoveC Try.prog 27) {Q0 : (Int) → (Int) → (List (Int × List C)) → (Int) → (Int) → Prop} (h : vc12 (stdE Try.prog tbl12) x1 x2 x3 x4 x5 x6 x7 x8 x9 Q0) : ACalls Try.prog 12 [.ptr 0 0, .agg [.c (.int .i64 x5), .c (.int .i64 x6), .c (.int .i64 x7), .c (.int .i64 x8), .c (.int .i64 x9)]] [.box 64 [.c (.sl [.int .i64, .int .i64] x1), .map 1, .c (.int .i64 x3), .c (.int .i64 x4)], .mp .i64 true [.int .i64, .int .i64, .int .i64, .int .i64, .int .i64] x2] fun r H' => (∃ i1 : Int, ∃ i2 : Int, ∃ m3 : List (Int × List C), ∃ i4 : Int, ∃ i5 : Int, Q0 i1 i2 m3 i4 i5 ∧ r = .tup [.c (.int .i64 i4), .c (.int .i64 i5)] ∧ H' = [.box 64 [.c (.sl [.int .i64, .int .i64] x1), .map 1, .c (.int .i64 i1), .c (.int .i64 i2)], .mp .i64 true [.int .i64, .int .i64, .int .i64, .int .i64, .int .i64] m3]) := ACalls_vc mo h12 (w12 ce25 ce26 ce27 h)
def tbl12N : FuncId → List A → List C := fun f ds => match f with
  | _ => []
theorem ac12N {x5 : Int} {x6 : Int} {x7 : Int} {x8 : Int} {x9 : Int} (ce25 : TakeC Try.prog 25) (ce26 : PutC Try.prog 26) (ce27 : MoveC Try.prog 27) {Q0 : Prop} (h : vc12N (stdE Try.prog tbl12N) x5 x6 x7 x8 x9 Q0) : ACalls Try.prog 12 [.np, .agg [.c (.int .i64 x5), .c (.int .i64 x6), .c (.int .i64 x7), .c (.int .i64 x8), .c (.int .i64 x9)]] [] fun r H' => (Q0  ∧ r = .tup [.c (.int .i64 0), .c (.int .i64 14)] ∧ H' = []) := ACalls_vc mo h12 (w12N ce25 ce26 ce27 h)
def tbl29 : FuncId → List A → List C := fun f ds => match f with
  | 44 => S44 ds
  | _ => []
theorem ac29 {x1 : List (List C)} {x2 : List (List C)} {x3 : Int} {x5 : Int} {x6 : Int} {x7 : Int} {x8 : Int}  {Q0 : (List (List C)) → (List (List C)) → (Int) → (Int) → Prop} (h : vc29 (stdE Try.prog tbl29) x1 x2 x3 x5 x6 x7 x8 Q0) : ACalls Try.prog 29 [.ptr 0 0, .c (.int .i64 x5), .c (.int .i64 x6), .c (.int .i64 x7), .c (.int .i64 x8)] [.box 68 [.c (.sl [.int .i64, .int .i64] x1), .c (.sl [.int .i64, .int .i64, .int .i64, .int .i64] x2), .c (.int .i64 x3)]] fun r H' => (∃ l1 : List (List C), ∃ l2 : List (List C), ∃ i3 : Int, ∃ i4 : Int, Q0 l1 l2 i3 i4 ∧ r = .c (.int .i64 i4) ∧ H' = [.box 68 [.c (.sl [.int .i64, .int .i64] l1), .c (.sl [.int .i64, .int .i64, .int .i64, .int .i64] l2), .c (.int .i64 i3)]]) := ACalls_vc mo h29 (w29  h)
def tbl30 : FuncId → List A → List C := fun f ds => match f with
  | 45 => S45 ds
  | _ => []
theorem ac30 {x1 : List (List C)} {x2 : List (List C)} {x3 : Int} {x5 : Int} {x6 : Int} {x7 : Int}  {Q0 : (List (List C)) → (List (List C)) → (Int) → (Int) → Prop} (h : vc30 (stdE Try.prog tbl30) x1 x2 x3 x5 x6 x7 Q0) : ACalls Try.prog 30 [.ptr 0 0, .c (.int .i64 x5), .c (.int .i64 x6), .c (.int .i64 x7)] [.box 68 [.c (.sl [.int .i64, .int .i64] x1), .c (.sl [.int .i64, .int .i64, .int .i64, .int .i64] x2), .c (.int .i64 x3)]] fun r H' => (∃ l1 : List (List C), ∃ l2 : List (List C), ∃ i3 : Int, ∃ i4 : Int, Q0 l1 l2 i3 i4 ∧ r = .c (.int .i64 i4) ∧ H' = [.box 68 [.c (.sl [.int .i64, .int .i64] l1), .c (.sl [.int .i64, .int .i64, .int .i64, .int .i64] l2), .c (.int .i64 i3)]]) := ACalls_vc mo h30 (w30  h)
def tbl31 : FuncId → List A → List C := fun f ds => match f with
  | 46 => S46 ds
  | _ => []
theorem ac31 {x1 : List (List C)} {x2 : List (List C)} {x3 : Int} {x5 : Int}  {Q0 : (List (List C)) → (List (List C)) → (Int) → (Int) → (Int) → Prop} (h : vc31 (stdE Try.prog tbl31) x1 x2 x3 x5 Q0) : ACalls Try.prog 31 [.ptr 0 0, .c (.int .i64 x5)] [.box 68 [.c (.sl [.int .i64, .int .i64] x1), .c (.sl [.int .i64, .int .i64, .int .i64, .int .i64] x2), .c (.int .i64 x3)]] fun r H' => (∃ l1 : List (List C), ∃ l2 : List (List C), ∃ i3 : Int, ∃ i4 : Int, ∃ i5 : Int, Q0 l1 l2 i3 i4 i5 ∧ r = .tup [.c (.int .i64 i4), .c (.int .i64 i5)] ∧ H' = [.box 68 [.c (.sl [.int .i64, .int .i64] l1), .c (.sl [.int .i64, .int .i64, .int .i64, .int .i64] l2), .c (.int .i64 i3)]]) := ACalls_vc mo h31 (w31  h)
def tbl13 : FuncId → List A → List C := fun f ds => match f with
  | _ => []
theorem ac13 {x1 : List (List C)} {x2 : List (List C)} {x3 : Int} {x5 : Int} {x6 : Int} {x7 : Int} {x8 : Int} {x9 : Int} (ce29 : RPutC Try.prog 29) (ce30 : RMoveC Try.prog 30) (ce31 : RTakeC Try.prog 31) {Q0 : (List (List C)) → (Int) → (Int) → (Int) → Prop} (h : vc13 (stdE Try.prog tbl13) x1 x2 x3 x5 x6 x7 x8 x9 Q0) : ACalls Try.prog 13 [.ptr 0 0, .agg [.c (.int .i64 x5), .c (.int .i64 x6), .c (.int .i64 x7), .c (.int .i64 x8), .c (.int .i64 x9)]] [.box 68 [.c (.sl [.int .i64, .int .i64] x1), .c (.sl [.int .i64, .int .i64, .int .i64, .int .i64] x2), .c (.int .i64 x3)]] fun r H' => (∃ l1 : List (List C), ∃ i2 : Int, ∃ i3 : Int, ∃ i4 : Int, Q0 l1 i2 i3 i4 ∧ r = .tup [.c (.int .i64 i3), .c (.int .i64 i4)] ∧ H' = [.box 68 [.c (.sl [.int .i64, .int .i64] x1), .c (.sl [.int .i64, .int .i64, .int .i64, .int .i64] l1), .c (.int .i64 i2)]]) := ACalls_vc mo h13 (w13 ce29 ce30 ce31 h)
theorem c43 : EnterC Try.prog 43 := ⟨fnR_body h43 (by kernel_rfl), fun x1 x2 x3 x4 r w b t K ⟨bs, hs, hx, hw, htn, hr, hb, hK⟩ => (ac43 (Q0 := fun i j m e => K m i j e) (by
  subst hx
  have hb2 := isB_d hb
  have ht0 := hw.inv.t0
  unfold vc43
  simp only [stdE, baseE, Br_iff, tbl43, forall_eq]
  simp only [p32 _ (hw.le htn), true_and]
  simp only [e32, List.getD_cons_zero, gi_int, row2_len, row2_c0, hw.cntE, decide_eq_true_eq, decide_eq_false_iff_not]
  refine ⟨fun h => ?_, fun h => ⟨hb2.1, hb2.2, fun h2 => ?_, fun h2 => ?_⟩⟩
  · simp only [entM, if_pos h] at hK; exact hK _ hw
  · simp only [entM, if_neg h, if_pos h2] at hK; exact hK _ hw
  · simp only [entM, if_neg h, if_neg h2] at hK
    rw [wrap_in (by omega) (by omega)]
    exact hK _ (hw.enter hr hb (by omega) (by omega)))).mono fun rr H' ⟨i, j, m, e, hq, h1, h2⟩ => ⟨m, i, j, e, hq, h1, h2⟩⟩
theorem c26 : PutC Try.prog 26 := ⟨fnR_body h26 (by kernel_rfl), fun x1 x2 x3 x4 r w b t K ⟨bs, hs, hx, hw, htn, hK⟩ => (ac26 c43 (Q0 := fun i j m e => K m i j e) (by
  subst hx
  unfold vc26 spEnter
  simp only [stdE, baseE, Br_iff, Imp_iff, tbl26, forall_eq]
  simp only [p42, p34, implies_true, true_and]
  simp only [e42, e34, List.getD_cons_zero, gi_int, gb_bool, row2_len, row2_c0, row2_c1, hw.has, isN_b]
  simp only [bite_orP, Bool.decide_eq_true, Bool.or_eq_true, Bool.or_eq_false_iff, Bool.not_eq_true', Bool.not_eq_false', decide_eq_true_eq, decide_eq_false_iff_not]
  refine ⟨fun h => ?_, fun h => ⟨fun h2 => ?_, fun h2 => ⟨fun h3 => ?_, fun h3 => ⟨(isB_d h3).1, (isB_d h3).2, fun h4 => ?_, fun h4 => ?_⟩⟩⟩⟩
  · simp only [putO, if_pos (show r < 1 ∨ 1000000 < r ∨ w < 1 ∨ 12000 < w ∨ momB t = false by rcases h with (((h | h) | h) | h) | h <;> simp [h])] at hK; exact hK _ hw
  · simp only [putO, if_neg (rng_no h), if_pos h2] at hK; exact hK _ hw
  · simp only [putO, if_neg (rng_no h), if_neg (show ¬ (fnd hs r).isSome = true by rw [h2]; simp), if_pos h3] at hK; exact hK _ hw
  · simp only [putO, if_neg (rng_no h), if_neg (show ¬ (fnd hs r).isSome = true by rw [h2]; simp), if_neg (show ¬ isB bs b = false by rw [h3]; simp), if_pos h4] at hK; exact hK _ hw
  · simp only [putO, if_neg (rng_no h), if_neg (show ¬ (fnd hs r).isSome = true by rw [h2]; simp), if_neg (show ¬ isB bs b = false by rw [h3]; simp), if_neg h4] at hK
    exact ⟨bs, hs, rfl, hw, htn, by have := rng_no h; omega, h3, hK⟩)).mono fun rr H' ⟨i, j, m, e, hq, h1, h2⟩ => ⟨m, i, j, e, hq, h1, h2⟩,
  fun r w b t K h => ac26N (by unfold vc26N; exact ⟨rfl, h⟩)⟩
theorem c27 : MoveC Try.prog 27 := ⟨fnR_body h27 (by kernel_rfl), fun x1 x2 x3 x4 r b t K ⟨bs, hs, hx, hw, htn, hK⟩ => (ac27 c43 (Q0 := fun i j m e => K m i j e) (by
  subst hx
  unfold vc27 spEnter
  simp only [stdE, baseE, Br_iff, Imp_iff, tbl27, forall_eq]
  simp only [p42, p34, implies_true, true_and]
  simp only [e42, e34, List.getD_cons_zero, gi_int, gb_bool, row2_len, row2_c0, row2_c1, hw.has, isN_b]
  simp only [bite_orP, Bool.decide_eq_true, Bool.or_eq_true, Bool.or_eq_false_iff, Bool.not_eq_true', Bool.not_eq_false', decide_eq_true_eq, decide_eq_false_iff_not, beq_iff_eq, beq_eq_false_iff_ne]
  cases hf : fnd hs r with
  | none =>
    simp only [movO, hf] at hK
    exact ⟨fun _ => hK _ hw, fun h => by simp at h⟩
  | some x =>
    simp only [movO, hf] at hK
    have e1 : (mlook x2 r 1 (.int .i64 0)).gi = bayOf x := by rw [hw.look hf]; rfl
    have e3 : (mlook x2 r 3 (.int .i64 0)).gi = widOf x := by rw [hw.look hf]; rfl
    obtain ⟨hm, hk⟩ := fnd_some hf
    have hr : 1 ≤ r := hk ▸ hw.inv.ro x hm
    rw [e1, e3]
    refine ⟨fun h => ?_, fun h => ⟨fun h2 => ?_, fun h2 => ⟨(isB_d h.2).1, (isB_d h.2).2, fun h3 => ?_, fun h3 => ⟨fun h4 => ?_, fun h4 => ?_⟩⟩⟩⟩
    · have h : isB bs b = false := by rcases h with h | h; simp at h; exact h
      simp only [if_pos h] at hK; exact hK _ hw
    · simp only [if_neg (show ¬ isB bs b = false by rw [h.2]; simp), if_pos h2] at hK; exact hK _ hw
    · simp only [if_neg (show ¬ isB bs b = false by rw [h.2]; simp), if_neg h2, if_pos h3] at hK; exact hK _ hw
    · simp only [if_neg (show ¬ isB bs b = false by rw [h.2]; simp), if_neg h2, if_neg h3, if_pos h4] at hK; exact hK _ hw
    · simp only [if_neg (show ¬ isB bs b = false by rw [h.2]; simp), if_neg h2, if_neg h3, if_neg (show ¬ momB t = false by rw [h4]; simp)] at hK
      exact ⟨bs, hs, rfl, hw, htn, hr, h.2, hK⟩)).mono fun rr H' ⟨i, j, m, e, hq, h1, h2⟩ => ⟨m, i, j, e, hq, h1, h2⟩,
  fun r b t K h => ac27N (by unfold vc27N; exact ⟨rfl, h⟩)⟩
theorem c25 : TakeC Try.prog 25 := ⟨fnR_body h25 (by kernel_rfl), fun x1 x2 x3 x4 r K ⟨bs, hs, hx, hw, htn, hK⟩ => (ac25 (Q0 := fun m n e => K m x3 x4 n e) (by
  subst hx
  unfold vc25
  simp only [stdE, baseE, Br_iff, hw.has, Bool.not_eq_true', Bool.not_eq_false']
  cases hf : fnd hs r with
  | none =>
    simp only [takO, hf] at hK
    exact ⟨trivial, fun _ => hK _ hw, fun h => by simp at h⟩
  | some x =>
    simp only [takO, hf] at hK
    have e1 : (mlook x2 r 1 (.int .i64 0)).gi = bayOf x := by rw [hw.look hf]; rfl
    rw [e1]
    exact ⟨trivial, fun h => by simp at h, fun _ => hK _ (hw.drop r)⟩)).mono fun rr H' ⟨m, n, e, hq, h1, h2⟩ => ⟨m, x3, x4, n, e, hq, h1, h2⟩,
  fun r K h => ac25N (by unfold vc25N; exact ⟨rfl, h⟩)⟩
theorem putO_n (bs : List I2) (hs : List I5) (tn la r w b t : Int) : (putO bs hs tn la r w b t).n = 0 := by
  unfold putO entM
  repeat' (split <;> try rfl)
theorem movO_n (bs : List I2) (hs : List I5) (tn la r b t : Int) : (movO bs hs tn la r b t).n = 0 := by
  unfold movO entM
  repeat' (split <;> try rfl)
theorem c12 : DoC Try.prog 12 := ⟨fnR_body h12 (by kernel_rfl), fun x1 x2 x3 x4 k r w b t K ⟨bs, hs, hx, hw, htn, hK⟩ => (ac12 c25 c26 c27 (Q0 := fun i j m n e => K m i j n e) (by
  unfold vc12 spPut spMove spTake
  simp only [stdE, baseE, Br_iff, beq_iff_eq, beq_eq_false_iff_ne]
  refine ⟨fun h => ?_, fun h => ⟨fun h2 => ?_, fun h2 => ?_⟩⟩
  · simp only [opO, if_pos h, putO_n] at hK; exact ⟨bs, hs, hx, hw, htn, hK⟩
  · simp only [opO, if_neg h, if_pos h2, movO_n] at hK; exact ⟨bs, hs, hx, hw, htn, hK⟩
  · simp only [opO, if_neg h, if_neg h2] at hK; exact ⟨bs, hs, hx, hw, htn, hK⟩)).mono fun rr H' ⟨i, j, m, n, e, hq, h1, h2⟩ => ⟨m, i, j, n, e, hq, h1, h2⟩,
  fun k r w b t K h => ac12N c25 c26 c27 (by
    unfold vc12N spNil4 spNil3 spNil1
    exact Br_iff.2 ⟨fun _ => h, fun _ => Br_iff.2 ⟨fun _ => h, fun _ => h⟩⟩)⟩
/-! ### The reference -/
theorem RSt.l4 {bs : List I2} {x1 x2 : List (List C)} {la : Int} {hs : List I5} (h : RSt bs x1 x2 la hs) : (hs.map itm).length ≤ 1000000 ∧ ((hs.map itm).map (·.1)).Nodup := by
  obtain ⟨_, _, tn, hi, ht⟩ := h
  exact ⟨by rw [List.length_map]; have := hi.ln; omega, keys4 hi.nd⟩
theorem c29 : RPutC Try.prog 29 := ⟨fnR_body h29 (by kernel_rfl), fun x1 x2 x3 r w b t K ⟨bs, hs, tn, hr, hK⟩ => (ac29 (Q0 := fun m l i e => m = x1 ∧ K l i e) (by
  obtain ⟨l4, n4⟩ := hr.l4
  obtain ⟨h1, h2, _⟩ := hr
  subst h1 h2
  unfold vc29
  simp only [stdE, baseE, tbl29, forall_eq]
  simp only [p44 l4 n4, true_and]
  simp only [e44, List.getD_cons_zero, List.getD_cons_succ, gl_sl, gi_int]
  have := hK
  obtain ⟨q1, q2, q3⟩ := putR_put bs hs tn x3 r w b t
  rw [q1, q2, q3] at this
  exact ⟨trivial, this⟩)).mono fun rr H' ⟨m, l, i, e, ⟨hm, hq⟩, h1, h2⟩ => ⟨l, i, e, hq, h1, by rw [h2, hm]⟩⟩
theorem c30 : RMoveC Try.prog 30 := ⟨fnR_body h30 (by kernel_rfl), fun x1 x2 x3 r b t K ⟨bs, hs, tn, hr, hK⟩ => (ac30 (Q0 := fun m l i e => m = x1 ∧ K l i e) (by
  obtain ⟨l4, n4⟩ := hr.l4
  obtain ⟨h1, h2, _⟩ := hr
  subst h1 h2
  unfold vc30
  simp only [stdE, baseE, tbl30, forall_eq]
  simp only [p45 l4 n4, true_and]
  simp only [e45, List.getD_cons_zero, List.getD_cons_succ, gl_sl, gi_int]
  have := hK
  obtain ⟨q1, q2, q3⟩ := movR_mov bs hs tn x3 r b t
  rw [q1, q2, q3] at this
  exact ⟨trivial, this⟩)).mono fun rr H' ⟨m, l, i, e, ⟨hm, hq⟩, h1, h2⟩ => ⟨l, i, e, hq, h1, by rw [h2, hm]⟩⟩
theorem c31 : RTakeC Try.prog 31 := ⟨fnR_body h31 (by kernel_rfl), fun x1 x2 x3 r K ⟨bs, hs, tn, hr, hK⟩ => (ac31 (Q0 := fun m l i n e => m = x1 ∧ K l i n e) (by
  obtain ⟨l4, n4⟩ := hr.l4
  obtain ⟨h1, h2, _⟩ := hr
  subst h1 h2
  unfold vc31
  simp only [stdE, baseE, tbl31, forall_eq]
  simp only [p46 _ l4 n4, true_and]
  simp only [e46, List.getD_cons_zero, List.getD_cons_succ, gl_sl, gi_int]
  have := hK
  obtain ⟨q1, q2, q3, q4⟩ := takR_tak hs tn x3 r
  rw [q1, q2, q3, q4] at this
  exact ⟨trivial, this⟩)).mono fun rr H' ⟨m, l, i, n, e, ⟨hm, hq⟩, h1, h2⟩ => ⟨l, i, n, e, hq, h1, by rw [h2, hm]⟩⟩
theorem c13 : MustC Try.prog 13 := ⟨fnR_body h13 (by kernel_rfl), fun x1 x2 x3 k r w b t K ⟨bs, hs, tn, hr, hK⟩ => (ac13 c29 c30 c31 (Q0 := fun l i n e => K l i n e) (by
  unfold vc13 spRPut spRMove spRTake
  simp only [stdE, baseE, Br_iff, beq_iff_eq, beq_eq_false_iff_ne]
  refine ⟨fun h => ?_, fun h => ⟨fun h2 => ?_, fun h2 => ?_⟩⟩
  · simp only [opO, if_pos h, putO_n] at hK; exact ⟨bs, hs, tn, hr, hK⟩
  · simp only [opO, if_neg h, if_pos h2, movO_n] at hK; exact ⟨bs, hs, tn, hr, hK⟩
  · simp only [opO, if_neg h, if_neg h2] at hK; exact ⟨bs, hs, tn, hr, hK⟩)).mono fun rr H' ⟨l, i, n, e, hq, h1, h2⟩ => ⟨l, i, n, e, hq, h1, h2⟩⟩
end Go.Proofs.Ytniijahjfbgfpaa.V
