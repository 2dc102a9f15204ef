/- Routes: the search finds the best order. No conditions. -/
import Derived.Test.YtljnpioekbdcaaaRouteP
set_option linter.unusedVariables false
set_option linter.unusedSimpArgs false
namespace Go.Proofs.Ytljnpioekbdcaaa.V
open Go Go.Eng
set_option maxRecDepth 1000000
set_option maxHeartbeats 1000000
theorem bas_cell (g : List (List C)) (k : Int) : (cellAt g k.toNat 1).gi = bas g k := id rfl
theorem take_rows {xs : List (List C)} {w : List Int} {n : Nat} (h : xs.take w.length = rowsI w) (hn : n < w.length) : (cellAt xs n 0).gi = w.getD n 0 := by
  rw [← rowsI_getD, ← h]
  unfold cellAt
  simp only [List.getD_eq_getElem?_getD]
  rw [List.getElem?_take, if_pos hn]
section
variable {g : List (List C)}
/-- One more chosen. -/
theorem Rt.step {m : Nat} {xs ls xs' ys : List (List C)} {o n len : Int} {order left : List Int} (r : Rt (m + 1) xs o ls n len g order left) {k : Nat} (hk : k < left.length)
    (h1 : xs'.length = xs.length) (h2 : xs'.take order.length = rowsI order) (hy : ys.length ≤ 1000000) (h3 : ys.take (left.length - 1) = rowsI (left.eraseIdx k)) {xs1 : List (List C)}
    (hx1 : xs1 = xs'.take order.length ++ ([[.int .i64 (left.getD k 0)]] ++ xs'.drop (order.length + 1))) {len1 : Int} (hl1 : len1 = lenL g (order ++ [left.getD k 0])) {o1 n1 : Int} (ho1 : o1 = order.length + 1) (hn1 : n1 = left.length - 1) :
    xs1.length = xs.length ∧ Rt m xs1 o1 ys n1 len1 g (order ++ [left.getD k 0]) (left.eraseIdx k) := by
  have hle : (left.eraseIdx k).length = left.length - 1 := List.length_eraseIdx_of_lt hk
  have hr := r.hr
  have hl : xs1.length = xs.length := by rw [hx1]; simp; omega
  refine ⟨hl, ⟨by rw [ho1]; simp, ?_, by simp, by rw [hn1, hle]; omega, by rw [hle]; exact h3, hy, by rw [hl, hle]; simp; omega, by rw [hle]; simp; have := r.h8; omega, by rw [hle]; have := r.hm; omega, hl1, r.hg, fun q hq => r.hi q ?_⟩⟩
  · rw [hx1, rowsI_append, ← h2, ← List.append_assoc]
    refine List.take_left' ?_
    simp; omega
  · rcases List.mem_append.1 hq with hq | hq
    · rcases List.mem_append.1 hq with hq | hq
      · exact List.mem_append.2 (.inl hq)
      · simp at hq; subst hq; exact List.mem_append.2 (.inr (by have := getD_mem (d := 0) hk; simpa using this))
    · exact List.mem_append.2 (.inr (List.eraseIdx_subset hq))
theorem take_step {xs1 xs2 : List (List C)} {w : List Int} {a : Int} (h2 : xs2.take (w ++ [a]).length = rowsI (w ++ [a])) : xs2.take w.length = rowsI w := by
  have e : xs2.take w.length = (xs2.take (w ++ [a]).length).take w.length := by rw [List.take_take]; congr 1; simp
  rw [e, h2, rowsI_append]
  exact List.take_left' (rowsI_len w)
end
def tbl43N : FuncId → List A → List C := fun f ds => match f with
  | 34 => S34 ds
  | _ => []
theorem ac43N {nR : Nat} {x1 : List (List C)} {x2 : Int} {x3 : List (List C)} {x4 : Int} {x5 : Int} {x7 : Int} {x8 : List (List C)} (ce38 : CloneCO 3 [.int .i64] Try.prog 38) (ce43 : RouteC nR Try.prog 43) (ce44 : DeleteC 3 [.int .i64] Try.prog 44) {Q0 : (List (List C)) → (List (List C)) → (Int) → Prop} (h : vc43N (stdE Try.prog tbl43N) nR x1 x2 x3 x4 x5 x7 x8 Q0) : ACalls Try.prog 43 [.own 0 0 x2, .own 1 0 x4, .c (.int .i64 x5), .ptr 2 0, .ptr 3 0, .ptr 4 0, .ptr 5 0] [.arr 3 [.int .i64] x1, .arr 3 [.int .i64] x3, .box 31 [.c (.nil)], .box 3 [.c (.int .i64 x7)], .box 22 [.c (.sl [.str, .int .i64, .int .i64, .int .i64, .int .i64, .int .i64, .sl [.int .i64], .int .i64] x8)], .box 61 [.fn 43 [.ptr 2 0, .ptr 3 0, .ptr 4 0, .ptr 5 0]]] fun r H' => (∃ l1 : List (List C), ∃ l2 : List (List C), ∃ i3 : Int, Q0 l1 l2 i3 ∧ r = .tup [] ∧ H' = [.arr 3 [.int .i64] l1, .arr 3 [.int .i64] x3, .box 31 [.c (.sl [.int .i64] l2)], .box 3 [.c (.int .i64 i3)], .box 22 [.c (.sl [.str, .int .i64, .int .i64, .int .i64, .int .i64, .int .i64, .sl [.int .i64], .int .i64] x8)], .box 61 [.fn 43 [.ptr 2 0, .ptr 3 0, .ptr 4 0, .ptr 5 0]]]) := ACalls_vc mo h43 (w43N ce38 ce43 ce44 h)
def tbl43G : FuncId → List A → List C := fun f ds => match f with
  | 34 => S34 ds
  | _ => []
theorem ac43G {nR : Nat} {x1 : List (List C)} {x2 : Int} {x3 : List (List C)} {x4 : Int} {x5 : Int} {x6 : List (List C)} {x7 : Int} {x8 : List (List C)} (ce38 : CloneCO 3 [.int .i64] Try.prog 38) (ce43 : RouteC nR Try.prog 43) (ce44 : DeleteC 3 [.int .i64] Try.prog 44) {Q0 : (List (List C)) → (List (List C)) → (Int) → Prop} (h : vc43G (stdE Try.prog tbl43G) nR x1 x2 x3 x4 x5 x6 x7 x8 Q0) : ACalls Try.prog 43 [.own 0 0 x2, .own 1 0 x4, .c (.int .i64 x5), .ptr 2 0, .ptr 3 0, .ptr 4 0, .ptr 5 0] [.arr 3 [.int .i64] x1, .arr 3 [.int .i64] x3, .box 31 [.c (.sl [.int .i64] x6)], .box 3 [.c (.int .i64 x7)], .box 22 [.c (.sl [.str, .int .i64, .int .i64, .int .i64, .int .i64, .int .i64, .sl [.int .i64], .int .i64] x8)], .box 61 [.fn 43 [.ptr 2 0, .ptr 3 0, .ptr 4 0, .ptr 5 0]]] fun r H' => (∃ l1 : List (List C), ∃ l2 : List (List C), ∃ i3 : Int, Q0 l1 l2 i3 ∧ r = .tup [] ∧ H' = [.arr 3 [.int .i64] l1, .arr 3 [.int .i64] x3, .box 31 [.c (.sl [.int .i64] l2)], .box 3 [.c (.int .i64 i3)], .box 22 [.c (.sl [.str, .int .i64, .int .i64, .int .i64, .int .i64, .int .i64, .sl [.int .i64], .int .i64] x8)], .box 61 [.fn 43 [.ptr 2 0, .ptr 3 0, .ptr 4 0, .ptr 5 0]]]) := ACalls_vc mo h43 (w43G ce38 ce43 ce44 h)
theorem route0 : RouteC 0 Try.prog 43 := ⟨fnR_body h43 (by kernel_rfl), fun xs o ls n len lst g K ⟨_, order, left, r, _⟩ => absurd r.hm (Nat.not_lt_zero _), fun xs o ls n len bs lst g K ⟨order, left, b, r, _⟩ => absurd r.hm (Nat.not_lt_zero _)⟩
theorem routeG {m : Nat} (ih : RouteC m Try.prog 43) {xs : List (List C)} {o : Int} {ls : List (List C)} {n len : Int} {bs : List (List C)} {lst : Int} {g : List (List C)} {K : List (List C) → List (List C) → Int → Prop} (h : spRG (m + 1) xs o ls n len bs lst g K) :
    vc43G (stdE Try.prog tbl43G) m xs o ls n len bs lst g K := by
  obtain ⟨order, left, b, r, hb, hbn, hlst, hk⟩ := h
  unfold vc43G
  simp only [stdE, baseE, Br_iff, Imp_iff, tbl43G, forall_eq]
  simp only [p34, true_and]
  simp only [e34, List.getD_cons_zero, gi_int, decide_eq_true_eq, decide_eq_false_iff_not, bas_cell]
  intro b4 hb4
  have hb4' : b4 = false := by
    cases b4 with
    | false => rfl
    | true =>
      have := hb4 rfl
      rw [hb] at this
      have := congrArg List.length this
      rw [rowsI_len] at this
      exact absurd (List.length_eq_zero_iff.1 this) hbn
  subst hb4'
  have hge := best_ge r.hg (n := left.length) rfl r.hne r.hi
  have ho := r.ho; have hn := r.hn; have hlen := r.hlen
  have hol : 0 < order.length := List.length_pos_iff.2 r.hne
  refine ⟨fun h1 => ?_, fun h1 => ⟨fun h2 => ?_, fun h2 => ?_⟩⟩
  · simp at h1
    have := hk xs rfl r.hx
    rw [if_neg (by omega)] at this
    rw [hb, hlst]; exact this
  · simp at h1 h2
    have hl0 : left = [] := List.length_eq_zero_iff.1 (by omega)
    subst hl0
    have := hk xs rfl r.hx
    rw [best_nil, if_pos (by omega)] at this
    refine ⟨by omega, by omega, by have := r.hr; omega, by have := r.h8; omega, ?_⟩
    rw [ho, hlen, show (0 + (order.length : Int)).toNat = order.length by omega, r.hx]
    simpa using this
  · simp at h1 h2
    have hne : left ≠ [] := fun e => by rw [e] at hn; simp at hn; omega
    obtain ⟨X, hX⟩ : ∃ X, X = cho g (left.length - 1) order left := ⟨_, rfl⟩
    have hpos : 0 < left.length := List.length_pos_iff.2 hne
    have hXe : ∀ i, i < left.length → X i = best g (left.eraseIdx i).length (order ++ [left.getD i 0]) (left.eraseIdx i) := fun i hi => by
      rw [hX, List.length_eraseIdx_of_lt hi]; rfl
    have hXn : ∀ i, i < left.length → X i ≠ [] := fun i hi => by rw [hXe i hi]; exact best_ne rfl (by simp)
    have hbest : best g left.length order left = mn X g left.length := by
      rw [show left.length = left.length - 1 + 1 by omega, best_succ, if_neg hne, ← hX]
      rw [show left.length - 1 + 1 = left.length by omega]
    have hfin : fm X g b left.length = if lenL g (best g left.length order left) < lenL g b then best g left.length order left else b := by
      rw [hbest, show left.length = left.length - 1 + 1 by omega]
      exact fm_spec _ fun i hi => hXn i (by omega)
    rw [← hfin] at hk
    refine LoopP4.run (fun p : List (List C) × Nat => p.1) (fun p => rowsI (fm X g b p.2)) (fun p => lenL g (fm X g b p.2)) (fun p => (p.2 : Int)) (fun p => p.2 ≤ left.length ∧ p.1.length = xs.length ∧ p.1.take order.length = rowsI order) (fun p => left.length - p.2) (xs, 0) ⟨Nat.zero_le _, rfl, r.hx⟩ rfl hb hlst rfl ?_
    rintro ⟨ws, k⟩ ⟨k1, k2, k3⟩ K9 hK9
    dsimp only at k1 k2 k3 ⊢
    refine ⟨fun h3 => ?_, fun h3 => ?_⟩
    · have hkl : k < left.length := by omega
      refine ⟨by omega, by omega, by omega, by rw [hn]; simp; have := r.hl; have := congrArg List.length this; rw [rowsI_len] at this; simp at this; omega, by have := r.h8; omega, ?_⟩
      have el : List.drop (0 : Int).toNat (List.take (0 + n).toNat ls) = rowsI left := by
        rw [hn, show (0 + (left.length : Int)).toNat = left.length by omega, r.hl]; rfl
      rw [el]
      dsimp only
      rw [rowsI_len, wrap_up rfl (by have := r.h8; omega)]
      refine ⟨by omega, by omega, by omega, by rw [rowsI_len]; omega, by rw [rowsI_len]; have := r.h8; omega, fun ys hy1 hy2 => ?_⟩
      rw [show ((left.length : Int) - (((k + 1 : Nat) : Int) - (k : Int))).toNat = left.length - 1 by omega] at hy2
      have e1 : (rowsI left).take (left.length : Int).toNat = rowsI left := by rw [Int.toNat_natCast, ← rowsI_len left, List.take_length]
      rw [e1] at hy2
      have hy3 : ys.take (left.length - 1) = rowsI (left.eraseIdx k) := by
        rw [hy2, List.eraseIdx_eq_take_drop_succ, rowsI_append]
        simp [rowsI, List.map_take, List.map_drop]
      have ew : IntKind.i64.wrap (o - 1) = ((order.length - 1 : Nat) : Int) := by rw [wrap_in (by have := r.h8; omega) (by have := r.h8; omega)]; omega
      have et : (0 + IntKind.i64.wrap (o - 1)).toNat = order.length - 1 := by rw [ew]; omega
      have c1 : (cellAt ws (0 + IntKind.i64.wrap (o - 1)).toNat 0).gi = order.getD (order.length - 1) 0 := by rw [et]; exact take_rows k3 (by omega)
      have c2 : (cellAt ls (0 + (k : Int)).toNat 0).gi = left.getD k 0 := by rw [show (0 + (k : Int)).toNat = k by omega]; exact take_rows r.hl hkl
      have i1 := r.hi (order.getD (order.length - 1) 0) (List.mem_append.2 (.inl (getD_mem (by omega))))
      have i2 := r.hi (left.getD k 0) (List.mem_append.2 (.inr (getD_mem hkl)))
      have hst := stp_ok r.hg i1 i2
      have hlo := lenL_ok r.hg order fun q hq => r.hi q (List.mem_append.2 (.inl hq))
      simp only [c1, c2, stp_apart r.hg i1 i2, List.length_singleton]
      have h8 := r.h8
      rw [wrap_in (n := len + stp g (order.getD (order.length - 1) 0) (left.getD k 0)) (by omega) (by omega)]
      obtain ⟨s1, s2⟩ := Rt.step (xs' := ws) (ys := ys) r hkl k2 k3 (by rw [hy1, rowsI_len]; omega) hy3 (xs1 := List.drop (0 : Int).toNat (List.take (0 + o).toNat ws) ++ ([[C.int IntKind.i64 (left.getD k 0)]] ++ List.drop (0 + o + ((1 : Nat) : Int)).toNat (List.take (ws.length : Int).toNat ws)))
        (by rw [ho, show (0 + (order.length : Int)).toNat = order.length by omega, show (0 + (order.length : Int) + ((1 : Nat) : Int)).toNat = order.length + 1 by omega, Int.toNat_natCast, List.take_length]; rfl)
        (len1 := len + stp g (order.getD (order.length - 1) 0) (left.getD k 0)) (by rw [lenL_snoc _ _ r.hne, hlen]) (o1 := o + ((1 : Nat) : Int)) (n1 := (left.length : Int) - (((k + 1 : Nat) : Int) - (k : Int))) (by omega) (by omega)
      refine ⟨by omega, by rw [ew]; omega, i1.1, i1.2, i2.1, i2.2, by rw [k2, ho]; have := r.hr; omega, ?_⟩
      have hfn : fm X g b k ≠ [] := by
        cases k with
        | zero => exact hbn
        | succ k =>
          rw [fm_spec k fun i hi => hXn i (by omega)]
          split
          · exact mn_ne fun i hi => hXn i (by omega)
          · exact hbn
      refine ⟨_, _, fm X g b k, s2, rfl, hfn, rfl, fun xs2 q1 q2 => ?_⟩
      rw [← hXe k hkl]
      exact hK9 _ _ _ _ (xs2, k + 1) ⟨by dsimp only; omega, by dsimp only; rw [q1, s1], take_step (xs1 := ws) q2⟩ (by dsimp only; omega) rfl rfl rfl rfl
    · have : k = left.length := by omega
      subst this
      exact hk ws k2 k3
theorem routeN {m : Nat} (ih : RouteC m Try.prog 43) {xs : List (List C)} {o : Int} {ls : List (List C)} {n len lst : Int} {g : List (List C)} {K : List (List C) → List (List C) → Int → Prop} (h : spRN (m + 1) xs o ls n len lst g K) :
    vc43N (stdE Try.prog tbl43N) m xs o ls n len lst g K := by
  obtain ⟨h0, order, left, r, hk⟩ := h
  unfold vc43N
  simp only [stdE, baseE, Br_iff, Imp_iff, tbl43N, forall_eq]
  simp only [p34, true_and]
  simp only [e34, List.getD_cons_zero, gi_int, decide_eq_true_eq, decide_eq_false_iff_not, bas_cell]
  have hge := best_ge r.hg (n := left.length) rfl r.hne r.hi
  have ho := r.ho; have hn := r.hn; have hlen := r.hlen
  have hol : 0 < order.length := List.length_pos_iff.2 r.hne
  refine ⟨by simp, fun h2 => ?_, fun h2 => ?_⟩
  · simp at h2
    have hl0 : left = [] := List.length_eq_zero_iff.1 (by omega)
    subst hl0
    have := hk xs rfl r.hx
    rw [best_nil] at this
    refine ⟨by omega, by omega, by have := r.hr; omega, by have := r.h8; omega, ?_⟩
    rw [ho, hlen, show (0 + (order.length : Int)).toNat = order.length by omega, r.hx]
    simpa using this
  · simp at h2
    have hne : left ≠ [] := fun e => by rw [e] at hn; simp at hn; omega
    obtain ⟨X, hX⟩ : ∃ X, X = cho g (left.length - 1) order left := ⟨_, rfl⟩
    have hpos : 0 < left.length := List.length_pos_iff.2 hne
    have hXe : ∀ i, i < left.length → X i = best g (left.eraseIdx i).length (order ++ [left.getD i 0]) (left.eraseIdx i) := fun i hi => by
      rw [hX, List.length_eraseIdx_of_lt hi]; rfl
    have hXn : ∀ i, i < left.length → X i ≠ [] := fun i hi => by rw [hXe i hi]; exact best_ne rfl (by simp)
    have hbest : best g left.length order left = mn X g left.length := by
      rw [show left.length = left.length - 1 + 1 by omega, best_succ, if_neg hne, ← hX]
      rw [show left.length - 1 + 1 = left.length by omega]
    rw [hbest] at hk
    have hround : ∀ (ws : List (List C)) (k : Nat), k < left.length → ws.length = xs.length → ws.take order.length = rowsI order → ∀ Z : List (List C) → Int → List (List C) → Int → Int → Prop,
        (∀ (ys : List (List C)) (n1 : Int) (xs1 : List (List C)) (o1 len1 : Int), xs1.length = xs.length → Rt m xs1 o1 ys n1 len1 g (order ++ [left.getD k 0]) (left.eraseIdx k) → Z ys n1 xs1 o1 len1) →
        spCloneK ls 0 n fun l10 => spDelete l10 (l10.length : Int) (k : Int) (IntKind.i64.wrap ((k : Int) + 1)) fun l11 i12 =>
          0 ≤ IntKind.i64.wrap (o - 1) ∧ IntKind.i64.wrap (o - 1) < o ∧ 0 ≤ (cellAt ws (0 + IntKind.i64.wrap (o - 1)).toNat 0).gi ∧ (cellAt ws (0 + IntKind.i64.wrap (o - 1)).toNat 0).gi < g.length ∧ 0 ≤ (cellAt ls (0 + (k : Int)).toNat 0).gi ∧ (cellAt ls (0 + (k : Int)).toNat 0).gi < g.length ∧
            0 + o + ([[C.int IntKind.i64 (cellAt ls (0 + (k : Int)).toNat 0).gi]].length : Int) ≤ ws.length ∧
            Z l11 i12 (List.drop (Int.toNat 0) (List.take (0 + o).toNat ws) ++ ([[C.int IntKind.i64 (cellAt ls (0 + (k : Int)).toNat 0).gi]] ++ List.drop (0 + o + ([[C.int IntKind.i64 (cellAt ls (0 + (k : Int)).toNat 0).gi]].length : Int)).toNat (List.take (ws.length : Int).toNat ws)))
              (o + ([[C.int IntKind.i64 (cellAt ls (0 + (k : Int)).toNat 0).gi]].length : Int)) (IntKind.i64.wrap (len + IntKind.i64.wrap (apart (bas g (cellAt ws (0 + IntKind.i64.wrap (o - 1)).toNat 0).gi) (bas g (cellAt ls (0 + (k : Int)).toNat 0).gi)))) := by
      intro ws k hkl k2 k3 Z hZ
      refine ⟨by omega, by omega, by rw [hn]; simp; have := r.hl; have := congrArg List.length this; rw [rowsI_len] at this; simp at this; omega, by have := r.h8; omega, ?_⟩
      have el : List.drop (0 : Int).toNat (List.take (0 + n).toNat ls) = rowsI left := by
        rw [hn, show (0 + (left.length : Int)).toNat = left.length by omega, r.hl]; rfl
      rw [el]
      dsimp only
      rw [rowsI_len, wrap_up rfl (by have := r.h8; omega)]
      refine ⟨by omega, by omega, by omega, by rw [rowsI_len]; omega, by rw [rowsI_len]; have := r.h8; omega, fun ys hy1 hy2 => ?_⟩
      rw [show ((left.length : Int) - (((k + 1 : Nat) : Int) - (k : Int))).toNat = left.length - 1 by omega] at hy2
      have e1 : (rowsI left).take (left.length : Int).toNat = rowsI left := by rw [Int.toNat_natCast, ← rowsI_len left, List.take_length]
      rw [e1] at hy2
      have hy3 : ys.take (left.length - 1) = rowsI (left.eraseIdx k) := by
        rw [hy2, List.eraseIdx_eq_take_drop_succ, rowsI_append]
        simp [rowsI, List.map_take, List.map_drop]
      have ew : IntKind.i64.wrap (o - 1) = ((order.length - 1 : Nat) : Int) := by rw [wrap_in (by have := r.h8; omega) (by have := r.h8; omega)]; omega
      have et : (0 + IntKind.i64.wrap (o - 1)).toNat = order.length - 1 := by rw [ew]; omega
      have c1 : (cellAt ws (0 + IntKind.i64.wrap (o - 1)).toNat 0).gi = order.getD (order.length - 1) 0 := by rw [et]; exact take_rows k3 (by omega)
      have c2 : (cellAt ls (0 + (k : Int)).toNat 0).gi = left.getD k 0 := by rw [show (0 + (k : Int)).toNat = k by omega]; exact take_rows r.hl hkl
      have i1 := r.hi (order.getD (order.length - 1) 0) (List.mem_append.2 (.inl (getD_mem (by omega))))
      have i2 := r.hi (left.getD k 0) (List.mem_append.2 (.inr (getD_mem hkl)))
      have hst := stp_ok r.hg i1 i2
      have hlo := lenL_ok r.hg order fun q hq => r.hi q (List.mem_append.2 (.inl hq))
      simp only [c1, c2, stp_apart r.hg i1 i2, List.length_singleton]
      have h8 := r.h8
      rw [wrap_in (n := len + stp g (order.getD (order.length - 1) 0) (left.getD k 0)) (by omega) (by omega)]
      obtain ⟨s1, s2⟩ := Rt.step (xs' := ws) (ys := ys) r hkl k2 k3 (by rw [hy1, rowsI_len]; omega) hy3 (xs1 := List.drop (0 : Int).toNat (List.take (0 + o).toNat ws) ++ ([[C.int IntKind.i64 (left.getD k 0)]] ++ List.drop (0 + o + ((1 : Nat) : Int)).toNat (List.take (ws.length : Int).toNat ws)))
        (by rw [ho, show (0 + (order.length : Int)).toNat = order.length by omega, show (0 + (order.length : Int) + ((1 : Nat) : Int)).toNat = order.length + 1 by omega, Int.toNat_natCast, List.take_length]; rfl)
        (len1 := len + stp g (order.getD (order.length - 1) 0) (left.getD k 0)) (by rw [lenL_snoc _ _ r.hne, hlen]) (o1 := o + ((1 : Nat) : Int)) (n1 := (left.length : Int) - (((k + 1 : Nat) : Int) - (k : Int))) (by omega) (by omega)
      refine ⟨by omega, by rw [ew]; omega, i1.1, i1.2, i2.1, i2.2, by rw [k2, ho]; have := r.hr; omega, hZ _ _ _ _ _ s1 s2⟩
    have hone : ∀ k, k < left.length → mn X g (k + 1) ≠ [] := fun k hk => mn_ne fun i hi => hXn i (by omega)
    refine LoopQ4.run (fun p : List (List C) × Nat => p.1) (fun p => rowsI (mn X g (p.2 + 1))) (fun p => lenL g (mn X g (p.2 + 1))) (fun p => ((p.2 + 1 : Nat) : Int)) (fun p => p.2 + 1 ≤ left.length ∧ p.1.length = xs.length ∧ p.1.take order.length = rowsI order) (fun p => left.length - p.2) (left.length + 1) ?_ ?_
    · intro K hK
      refine ⟨by omega, by omega, ?_⟩
      refine hround xs 0 hpos rfl r.hx (fun l11 i12 xs1 o1 len1 => spRN m xs1 o1 l11 i12 len1 lst g fun l13 l14 i15 => K l13 l14 i15 (IntKind.i64.wrap (0 + 1))) fun ys n1 xs1 o1 len1 s1 s2 => ⟨h0, _, _, s2, fun xs2 q1 q2 => ?_⟩
      rw [← hXe 0 hpos, ← mn_one X (g := g)]
      exact hK _ _ _ _ (xs2, 0) ⟨by dsimp only; omega, by dsimp only; rw [q1, s1], take_step (xs1 := xs) q2⟩ (by dsimp only; omega) rfl rfl rfl (wrap_up (n := 0) rfl (by omega))
    · rintro ⟨ws, k⟩ ⟨k1, k2, k3⟩ K hK
      dsimp only at k1 k2 k3 ⊢
      refine ⟨fun h3 => ⟨by omega, ?_⟩, fun h3 => ?_⟩
      · have hkl : k + 1 < left.length := by omega
        refine hround ws (k + 1) hkl k2 k3 (fun l11 i12 xs1 o1 len1 => spRG m xs1 o1 l11 i12 len1 (rowsI (mn X g (k + 1))) (lenL g (mn X g (k + 1))) g fun l13 l14 i15 => K l13 l14 i15 (IntKind.i64.wrap (((k + 1 : Nat) : Int) + 1))) fun ys n1 xs1 o1 len1 s1 s2 => ⟨_, _, _, s2, rfl, hone k (by omega), rfl, fun xs2 q1 q2 => ?_⟩
        rw [← hXe (k + 1) hkl, ← mn_succ' (hone k (by omega))]
        exact hK _ _ _ _ (xs2, k + 1) ⟨by dsimp only; omega, by dsimp only; rw [q1, s1], take_step (xs1 := ws) q2⟩ (by dsimp only; omega) rfl rfl rfl (wrap_up rfl (by have := r.h8; omega))
      · have : k + 1 = left.length := by omega
        rw [this]
        exact hk ws k2 k3
theorem route : ∀ m, RouteC m Try.prog 43
  | 0 => route0
  | m + 1 => ⟨fnR_body h43 (by kernel_rfl), fun xs o ls n len lst g K h => ac43N cloneco38 (route m) del44 (routeN (route m) h), fun xs o ls n len bs lst g K h => ac43G cloneco38 (route m) del44 (routeG (route m) h)⟩
end Go.Proofs.Ytljnpioekbdcaaa.V
