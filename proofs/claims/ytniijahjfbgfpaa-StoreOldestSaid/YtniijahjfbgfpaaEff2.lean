/- Warehouses: what the functions that hand back slices make. No conditions. -/
import Derived.Test.YtniijahjfbgfpaaEff
set_option linter.unusedVariables false
set_option linter.unusedSimpArgs false
namespace Go.Proofs.Ytniijahjfbgfpaa.V
open Go Go.Eng
set_option maxRecDepth 1000000
set_option maxHeartbeats 1000000
theorem GFin_tup {n0 : Nat} {l l' : List A} {H H' : List O} (h : GSt n0 ⟨l, H⟩ ⟨l', H'⟩) : GFin n0 (.tup l) H (.tup l') H' := by
  intro w0 G0 G w v hH hv ha hle hfr hn
  cases hv with
  | tup _ vs hs hv =>
    obtain ⟨G', hs'⟩ := h w0 G0 G ⟨vs, w0.df⟩ w ⟨hs, fun t h1 h2 => hv t h1 h2, hH, rfl, hle, ha, hfr, hn⟩
    exact ⟨G', hs'.hr, .tup _ _ hs'.size hs'.val, hs'.le, hs'.fr, hs'.n0⟩
theorem dropS {T : TypeId} {lay : List LK} {l : List (List C)} {x1 : List (List C)} {x2 : List (Int × List C)} {x3 x4 : Int} : GSt 2 ⟨[.gr 2], heapS x1 x2 x3 x4 ++ [.arr T lay l]⟩ ⟨[.c (.sl lay l)], heapS x1 x2 x3 x4⟩ := by
  refine (GSt.frzGr 0 2 rfl rfl).trans (GSt.ren [0, 1] rfl rfl rfl (by decide) (Nat.le_refl _) ?_ ?_)
  all_goals (repeat' (first | exact trivial | exact Or.inl rfl | exact Or.inr rfl | refine And.intro ?_ ?_))
theorem dropS2 {T : TypeId} {lay : List LK} {l : List (List C)} {e : Int} {x1 : List (List C)} {x2 : List (Int × List C)} {x3 x4 : Int} : GSt 2 ⟨[.gr 2, iC e], heapS x1 x2 x3 x4 ++ [.arr T lay l]⟩ ⟨[.c (.sl lay l), iC e], heapS x1 x2 x3 x4⟩ := by
  refine (GSt.frzGr 0 2 rfl rfl).trans (GSt.ren [0, 1] rfl rfl rfl (by decide) (Nat.le_refl _) ?_ ?_)
  all_goals (repeat' (first | exact trivial | exact Or.inl rfl | exact Or.inr rfl | refine And.intro ?_ ?_))
theorem dropR {T : TypeId} {lay : List LK} {l : List (List C)} {x1 x2 : List (List C)} {x3 : Int} : GSt 1 ⟨[.gr 1], heapR x1 x2 x3 ++ [.arr T lay l]⟩ ⟨[.c (.sl lay l)], heapR x1 x2 x3⟩ := by
  refine (GSt.frzGr 0 1 rfl rfl).trans (GSt.ren [0] rfl rfl rfl (by decide) (Nat.le_refl _) ?_ ?_)
  all_goals (repeat' (first | exact trivial | exact Or.inl rfl | exact Or.inr rfl | refine And.intro ?_ ?_))
theorem dropR2 {T : TypeId} {lay : List LK} {l : List (List C)} {e : Int} {x1 x2 : List (List C)} {x3 : Int} : GSt 1 ⟨[.gr 1, iC e], heapR x1 x2 x3 ++ [.arr T lay l]⟩ ⟨[.c (.sl lay l), iC e], heapR x1 x2 x3⟩ := by
  refine (GSt.frzGr 0 1 rfl rfl).trans (GSt.ren [0] rfl rfl rfl (by decide) (Nat.le_refl _) ?_ ?_)
  all_goals (repeat' (first | exact trivial | exact Or.inl rfl | exact Or.inr rfl | refine And.intro ?_ ?_))
def tbl15 : FuncId → List A → List C := fun f ds => match f with
  | 32 => S32 ds
  | _ => []
theorem ac15 {x1 : List (List C)} {x2 : List (Int × List C)} {x3 : Int} {x4 : Int}  {Q0 : (List (List C)) → Prop} (h : vc15 (stdE Try.prog tbl15) x1 x2 x3 x4 Q0) : ACalls Try.prog 15 [.ptr 0 0] [.box 64 [.c (.sl [.int .i64, .int .i64] x1), .map 1, .c (.int .i64 x3), .c (.int .i64 x4)], .mp .i64 true [.int .i64, .int .i64, .int .i64, .int .i64, .int .i64] x2] fun r H' => (∃ l1 : List (List C), Q0 l1 ∧ r = .gr 2 ∧ H' = [.box 64 [.c (.sl [.int .i64, .int .i64] x1), .map 1, .c (.int .i64 x3), .c (.int .i64 x4)], .mp .i64 true [.int .i64, .int .i64, .int .i64, .int .i64, .int .i64] x2, .arr 3 [.int .i64] l1]) := ACalls_vc mo h15 (w15  h)
def tbl15N : FuncId → List A → List C := fun f ds => match f with
  | _ => []
theorem ac15N   {Q0 : Prop} (h : vc15N (stdE Try.prog tbl15N)  Q0) : ACalls Try.prog 15 [.np] [] fun r H' => (Q0  ∧ r = .c (.nil) ∧ H' = []) := ACalls_vc mo h15 (w15N  h)
def tbl16 : FuncId → List A → List C := fun f ds => match f with
  | 33 => S33 ds
  | _ => []
theorem ac16 {x1 : List (List C)} {x2 : List (List C)} {x3 : Int}  {Q0 : (List (List C)) → Prop} (h : vc16 (stdE Try.prog tbl16) x1 x2 x3 Q0) : ACalls Try.prog 16 [.ptr 0 0] [.box 68 [.c (.sl [.int .i64, .int .i64] x1), .c (.sl [.int .i64, .int .i64, .int .i64, .int .i64] x2), .c (.int .i64 x3)]] fun r H' => (∃ l1 : List (List C), Q0 l1 ∧ r = .gr 1 ∧ H' = [.box 68 [.c (.sl [.int .i64, .int .i64] x1), .c (.sl [.int .i64, .int .i64, .int .i64, .int .i64] x2), .c (.int .i64 x3)], .arr 3 [.int .i64] l1]) := ACalls_vc mo h16 (w16  h)
def tbl17 : FuncId → List A → List C := fun f ds => match f with
  | 34 => S34 ds
  | _ => []
theorem ac17 {x1 : List (List C)} {x2 : List (Int × List C)} {x3 : Int} {x4 : Int} {x5 : Int} (ce35 : SortC Try.prog 35) {Q0 : Prop} {Q1 : (List (List C)) → Prop} (h : vc17 (stdE Try.prog tbl17) x1 x2 x3 x4 x5 Q0 Q1) : ACalls Try.prog 17 [.ptr 0 0, .c (.int .i64 x5)] [.box 64 [.c (.sl [.int .i64, .int .i64] x1), .map 1, .c (.int .i64 x3), .c (.int .i64 x4)], .mp .i64 true [.int .i64, .int .i64, .int .i64, .int .i64, .int .i64] x2] fun r H' => (Q0  ∧ r = .tup [.c (.nil), .c (.int .i64 7)] ∧ H' = [.box 64 [.c (.sl [.int .i64, .int .i64] x1), .map 1, .c (.int .i64 x3), .c (.int .i64 x4)], .mp .i64 true [.int .i64, .int .i64, .int .i64, .int .i64, .int .i64] x2]) ∨ (∃ l1 : List (List C), Q1 l1 ∧ r = .tup [.gr 2, .c (.int .i64 0)] ∧ H' = [.box 64 [.c (.sl [.int .i64, .int .i64] x1), .map 1, .c (.int .i64 x3), .c (.int .i64 x4)], .mp .i64 true [.int .i64, .int .i64, .int .i64, .int .i64, .int .i64] x2, .arr 44 [.int .i64, .int .i64, .int .i64] l1]) := ACalls_vc mo h17 (w17 ce35 h)
def tbl17N : FuncId → List A → List C := fun f ds => match f with
  | _ => []
theorem ac17N {x5 : Int}  {Q0 : Prop} (h : vc17N (stdE Try.prog tbl17N) x5 Q0) : ACalls Try.prog 17 [.np, .c (.int .i64 x5)] [] fun r H' => (Q0  ∧ r = .tup [.c (.nil), .c (.int .i64 14)] ∧ H' = []) := ACalls_vc mo h17 (w17N  h)
def tbl18 : FuncId → List A → List C := fun f ds => match f with
  | 38 => S38 ds
  | 39 => S39 ds
  | _ => []
theorem ac18 {x1 : List (List C)} {x2 : List (List C)} {x3 : Int} {x5 : Int}  {Q0 : Prop} {Q1 : (List (List C)) → Prop} (h : vc18 (stdE Try.prog tbl18) x1 x2 x3 x5 Q0 Q1) : ACalls Try.prog 18 [.ptr 0 0, .c (.int .i64 x5)] [.box 68 [.c (.sl [.int .i64, .int .i64] x1), .c (.sl [.int .i64, .int .i64, .int .i64, .int .i64] x2), .c (.int .i64 x3)]] fun r H' => (Q0  ∧ r = .tup [.c (.nil), .c (.int .i64 7)] ∧ H' = [.box 68 [.c (.sl [.int .i64, .int .i64] x1), .c (.sl [.int .i64, .int .i64, .int .i64, .int .i64] x2), .c (.int .i64 x3)]]) ∨ (∃ l1 : List (List C), Q1 l1 ∧ r = .tup [.gr 1, .c (.int .i64 0)] ∧ H' = [.box 68 [.c (.sl [.int .i64, .int .i64] x1), .c (.sl [.int .i64, .int .i64, .int .i64, .int .i64] x2), .c (.int .i64 x3)], .arr 44 [.int .i64, .int .i64, .int .i64] l1]) := ACalls_vc mo h18 (w18  h)
def tbl24 : FuncId → List A → List C := fun f ds => match f with
  | _ => []
theorem ac24 {x1 : List (List C)} (ce41 : CloneCO 52 [.int .i64, .int .i64] Try.prog 41) {Q0 : (Int) → Prop} {Q1 : Prop} (h : vc24 (stdE Try.prog tbl24) x1 Q0 Q1) : ACalls Try.prog 24 [.c (.sl [.int .i64, .int .i64] x1)] [] fun r H' => (∃ i1 : Int, Q0 i1 ∧ r = .tup [.np, .c (.int .i64 i1)] ∧ H' = []) ∨ (Q1  ∧ r = .tup [.ptr 0 0, .c (.int .i64 0)] ∧ H' = [.box 64 [.c (.sl [.int .i64, .int .i64] x1), .map 1, .c (.int .i64 0), .c (.int .i64 0)], .mp .i64 true [.int .i64, .int .i64, .int .i64, .int .i64, .int .i64] []]) := ACalls_vc mo h24 (w24 ce41 h)
def tbl28 : FuncId → List A → List C := fun f ds => match f with
  | _ => []
theorem ac28 {x1 : List (List C)}  {Q0 : (Int) → Prop} {Q1 : (List (List C)) → Prop} (h : vc28 (stdE Try.prog tbl28) x1 Q0 Q1) : ACalls Try.prog 28 [.c (.sl [.int .i64, .int .i64] x1)] [] fun r H' => (∃ i1 : Int, Q0 i1 ∧ r = .tup [.np, .c (.int .i64 i1)] ∧ H' = []) ∨ (∃ l2 : List (List C), Q1 l2 ∧ r = .tup [.ptr 0 0, .c (.int .i64 0)] ∧ H' = [.box 68 [.c (.sl [.int .i64, .int .i64] l2), .c (.sl [.int .i64, .int .i64, .int .i64, .int .i64] []), .c (.int .i64 0)]]) := ACalls_vc mo h28 (w28  h)
def tbl10 : FuncId → List A → List C := fun f ds => match f with
  | _ => []
theorem ac10 {x1 : List (List C)} {x2 : List (List C)} (ce24 : NewC Try.prog 24) (ce28 : RNewC Try.prog 28) {Q0 : (Bool) → Prop} {Q1 : Prop} {Q2 : Prop} (h : vc10 (stdE Try.prog tbl10) x1 x2 Q0 Q1 Q2) : ACalls Try.prog 10 [.c (.sl [.int .i64, .int .i64] x1), .c (.sl [.int .i64, .int .i64, .int .i64, .int .i64, .int .i64] x2)] [] fun r H' => (∃ b1 : Bool, Q0 b1 ∧ r = .tup [.np, .np, .c (.bool b1)] ∧ H' = []) ∨ (Q1  ∧ r = .tup [.ptr 0 0, .np, .c (.bool true)] ∧ H' = [.box 64 [.c (.sl [.int .i64, .int .i64] x1), .map 1, .c (.int .i64 0), .c (.int .i64 0)], .mp .i64 true [.int .i64, .int .i64, .int .i64, .int .i64, .int .i64] []]) ∨ (Q2  ∧ r = .tup [.ptr 0 0, .ptr 2 0, .c (.bool true)] ∧ H' = [.box 64 [.c (.sl [.int .i64, .int .i64] x1), .map 1, .c (.int .i64 0), .c (.int .i64 0)], .mp .i64 true [.int .i64, .int .i64, .int .i64, .int .i64, .int .i64] [], .box 68 [.c (.sl [.int .i64, .int .i64] x1), .c (.sl [.int .i64, .int .i64, .int .i64, .int .i64] []), .c (.int .i64 0)]]) := ACalls_vc mo h10 (w10 ce24 ce28 h)
theorem rowsI_app (a b : List Int) : rowsI (a ++ b) = rowsI a ++ rowsI b := by simp [rowsI]
theorem bay_bd {bs : List I2} {tn la : Int} {hs : List I5} (h : Inv bs tn la hs) (i : Nat) (hi : i < bs.length) : 1 ≤ (bs.getD i z2).1 ∧ (bs.getD i z2).1 ≤ 512 := by
  have := h.bb (bs.getD i z2) (by rw [getD_el hi]; exact List.getElem_mem hi)
  omega
theorem c15 : FreeC Try.prog 15 := ⟨fnR_body h15 (by kernel_rfl), fun x1 x2 x3 x4 K ⟨bs, hs, hx, hw, htn, hK⟩ => ACalls.retell (fun r H' ⟨l, hq, hr, hH⟩ => by subst hr hH; exact ⟨_, _, GFin.of dropS, l, hq, rfl, rfl⟩) (ac15 (Q0 := K) (by
  subst hx
  unfold vc15
  simp only [stdE, baseE, Br_iff, tbl15, forall_eq]
  simp only [p32 _ (hw.le htn), true_and]
  simp only [e32, List.getD_cons_zero, gi_int, row2_len, hw.cntE, decide_eq_true_eq, decide_eq_false_iff_not]
  have hbl := hw.inv.bl
  refine LoopP2.run (fun g : Nat => rowsI ((List.range g).map fun (i : Nat) => (bs.getD i z2).1 - cnt hs i)) (fun g => (g : Int)) (fun g => g ≤ bs.length) (fun g => bs.length - g) 0 (Nat.zero_le _) rfl rfl ?_
  intro n hn J hJ
  simp only [toNat_cast, row2_c0]
  refine ⟨fun h => ?_, fun h => ?_⟩
  · have h1 : n < bs.length := by omega
    have hb := bay_bd hw.inv n h1
    have hc : (cnt hs n : Int) ≤ 1000 := by have := cnt_le hs n; have := hw.inv.ln; omega
    refine ⟨by omega, by simp [rowsI_len]; omega, ?_⟩
    rw [wrap_in (by omega) (by omega)]
    refine hJ _ _ (n + 1) (by omega) (by omega) ?_ (wrap_up rfl (by omega))
    rw [List.range_succ, List.map_append, rowsI_app]
    rfl
  · have h1 : n = bs.length := by omega
    subst h1
    exact hK)), fun K h => ac15N (by unfold vc15N; exact ⟨rfl, h⟩)⟩
theorem c16 : RFreeC Try.prog 16 := ⟨fnR_body h16 (by kernel_rfl), fun x1 x2 x3 K ⟨bs, hs, hr, hK⟩ => ACalls.retell (fun r H' ⟨l, hq, hr, hH⟩ => by subst hr hH; exact ⟨_, _, GFin.of dropR, l, hq, rfl, rfl⟩) (ac16 (Q0 := K) (by
  obtain ⟨l4, n4⟩ := hr.l4
  obtain ⟨h1, h2, tn, hi, htn⟩ := hr
  subst h1 h2
  unfold vc16
  simp only [stdE, baseE, Br_iff, tbl16, forall_eq]
  simp only [p33 _ l4, true_and]
  simp only [e33, List.getD_cons_zero, gi_int, row2_len, cnt4_map, decide_eq_true_eq, decide_eq_false_iff_not]
  have hbl := hi.bl
  refine LoopP2.run (fun g : Nat => rowsI ((List.range g).map fun (i : Nat) => (bs.getD i z2).1 - cnt hs i)) (fun g => (g : Int)) (fun g => g ≤ bs.length) (fun g => bs.length - g) 0 (Nat.zero_le _) rfl rfl ?_
  intro n hn J hJ
  simp only [toNat_cast, row2_c0]
  refine ⟨fun h => ?_, fun h => ?_⟩
  · have h1 : n < bs.length := by omega
    have hb := bay_bd hi n h1
    have hc : (cnt hs n : Int) ≤ 1000 := by have := cnt_le hs n; have := hi.ln; omega
    refine ⟨by omega, by simp [rowsI_len]; omega, ?_⟩
    rw [wrap_in (by omega) (by omega)]
    refine hJ _ _ (n + 1) (by omega) (by omega) ?_ (wrap_up rfl (by omega))
    rw [List.range_succ, List.map_append, rowsI_app]
    rfl
  · have h1 : n = bs.length := by omega
    subst h1
    exact hK))⟩
/-- Two lists of the same rolls, each by turns. -/
theorem turn_eq : ∀ {a b : List I5}, a.Perm b → (a.Pairwise fun x y => turnOf x < turnOf y) → (b.Pairwise fun x y => turnOf x < turnOf y) → a = b
  | [], b, hp, _, _ => hp.symm.eq_nil.symm
  | x :: a, b, hp, ha, hb => by
    match b, hp, hb with
    | [], hp, _ => exact absurd hp.eq_nil (by simp)
    | y :: b, hp, hb =>
      obtain ⟨a1, a2⟩ := List.pairwise_cons.1 ha
      obtain ⟨b1, b2⟩ := List.pairwise_cons.1 hb
      have hxy : x = y := by
        rcases List.mem_cons.1 (hp.mem_iff.1 (by simp : x ∈ x :: a)) with h | h
        · exact h
        · rcases List.mem_cons.1 (hp.mem_iff.2 (by simp : y ∈ y :: b)) with g | g
          · exact g.symm
          · have := b1 x h; have := a1 y g; omega
      subst hxy
      rw [turn_eq ((List.perm_cons x).1 hp) a2 b2]
theorem perm_erase {α : Type} : ∀ {l : List α} {i : Nat} (h : i < l.length), (l[i] :: l.eraseIdx i).Perm l
  | x :: l, 0, _ => .refl _
  | x :: l, i + 1, h => by
    have ih := perm_erase (l := l) (i := i) (by simpa using h)
    simp only [List.getElem_cons_succ, List.eraseIdx_cons_succ]
    exact (List.Perm.swap _ _ _).trans (ih.cons x)
theorem enc_get {m : List I5} {i : Nat} (hi : i < (enc m).length) (hi' : i < m.length) : (enc m)[i] = (m[i].1, cs5 m[i]) := by simp [enc]
theorem enc_erase : ∀ (m : List I5) (i : Nat), (enc m).eraseIdx i = enc (m.eraseIdx i)
  | [], _ => rfl
  | x :: m, 0 => rfl
  | x :: m, i + 1 => by
    have := enc_erase m i
    simp only [enc, List.map_cons, List.eraseIdx_cons_succ] at this ⊢
    rw [this]
theorem row5_snoc (q : List I5) (h : I5) : row5 q ++ [cs5 h] = row5 (q ++ [h]) := by rw [row5_append]; rfl
theorem c17 : BayC Try.prog 17 := ⟨fnR_body h17 (by kernel_rfl), fun x1 x2 x3 x4 b K ⟨bs, hs, hx, hw, htn, hK⟩ => ACalls.retell (fun r H' hq => by
    rcases hq with ⟨hq, hr, hH⟩ | ⟨l, hq, hr, hH⟩
    · subst hr hH; exact ⟨_, _, GFin_tup (GSt.nilSl 0 C3 rfl), [], 7, hq, rfl, rfl⟩
    · subst hr hH; exact ⟨_, _, GFin_tup dropS2, l, 0, hq, rfl, rfl⟩)
  (ac17 c35 (Q0 := K [] 7) (Q1 := fun l => K l 0) (by
  subst hx
  have hinv := hw.inv
  have hln : hs.length ≤ 1000 := by have := hinv.ln; omega
  obtain ⟨m, rfl, hp, _⟩ := hw
  unfold vc17 spSort
  simp only [stdE, baseE, Br_iff, tbl17, forall_eq]
  simp only [p34, true_and]
  simp only [e34, List.getD_cons_zero, gb_bool, row2_len, isN_b, Bool.not_eq_true', Bool.not_eq_false']
  simp only [bayL, bayE] at hK
  refine ⟨fun h => ?_, fun h => ?_⟩
  · simp only [h] at hK; exact hK
  simp only [h, if_true] at hK
  refine .mk (fun left l => ∃ q lm : List I5, left = enc lm ∧ l = row5 q ∧ (q ++ lm.filter fun h => decide (bayOf h = b)).Perm (m.filter fun h => decide (bayOf h = b))) ⟨[], m, rfl, rfl, .refl _⟩ ?_ ?_
  · rintro l ⟨q, lm, h1, h2, h3⟩
    have : lm = [] := List.map_eq_nil_iff.1 h1.symm
    subst this h2
    simp only [List.filter_nil, List.append_nil] at h3
    have h4 : q.Perm (hs.filter fun h => decide (bayOf h = b)) := h3.trans (hp.filter _)
    have hsub : (hs.filter fun h => decide (bayOf h = b)).Sublist hs := List.filter_sublist
    have hst := hinv.tu.sublist hsub
    have hql : q.length ≤ 1000 := by rw [h4.length_eq]; have := hsub.length_le; omega
    refine ⟨q, rfl, hql, ?_, fun zs hz hzs => ?_⟩
    · exact (List.Perm.pairwise_iff (R := fun a b : I5 => turnOf a ≠ turnOf b) (fun {a b} h e => h e.symm) h4).2 (hst.imp fun {a b} h => by omega)
    · have e := turn_eq (hz.trans h4) hzs hst
      subst e
      have hzl := hz.length_eq
      generalize hzs' : (hs.filter fun h => decide (bayOf h = b)) = zs at *
      refine LoopP2.run (fun g : Nat => row3 ((zs.take g).map slot3)) (fun g => (g : Int)) (fun g => g ≤ zs.length) (fun g => zs.length - g) 0 (Nat.zero_le _) rfl rfl ?_
      intro n hn J hJ
      simp only [toNat_cast, row5_c0, row5_c1, row5_c2, row5_len, decide_eq_true_eq, decide_eq_false_iff_not]
      refine ⟨fun g => ?_, fun g => ?_⟩
      · have h1 : n < zs.length := by omega
        refine ⟨by omega, by simp [row3_len]; omega, ?_⟩
        refine hJ _ _ (n + 1) (by omega) (by omega) ?_ (wrap_up rfl (by omega))
        rw [List.take_add_one, List.getElem?_eq_getElem h1, List.map_append, row3_append, getD_el h1]
        rfl
      · have h1 : n = zs.length := by omega
        subst h1
        rw [List.take_length]
        exact hK
  · rintro left l ⟨q, lm, h1, h2, h3⟩ i hi
    subst h1 h2
    have hi' : i < lm.length := by rw [enc_len] at hi; exact hi
    rw [enc_get hi hi', enc_erase]
    dsimp only
    have hbq : cellAt [cs5 lm[i]] (Int.toNat 0) 1 = C.int .i64 (bayOf lm[i]) := rfl
    have hpe : (lm[i] :: lm.eraseIdx i).Perm lm := perm_erase hi'
    have hql : q.length ≤ 1000 := by
      have e1 := h3.length_eq
      have e2 := List.length_filter_le (fun h => decide (bayOf h = b)) m
      have e3 := hp.length_eq
      rw [List.length_append] at e1
      omega
    refine ⟨fun g => ⟨?_, ?_⟩, fun g => ?_⟩
    · simp [row5_len]; omega
    · have g' : bayOf lm[i] = b := beq_iff_eq.1 g
      refine ⟨q ++ [lm[i]], lm.eraseIdx i, rfl, ?_, ?_⟩
      · rw [← row5_snoc]; rfl
      · refine .trans ?_ h3
        have := (hpe.filter fun h => decide (bayOf h = b))
        rw [List.filter_cons, if_pos (by simpa using g')] at this
        rw [List.append_assoc]
        exact List.Perm.append_left q this
    · have g' : ¬ bayOf lm[i] = b := beq_eq_false_iff_ne.1 g
      refine ⟨q, lm.eraseIdx i, rfl, rfl, ?_⟩
      refine .trans ?_ h3
      have := (hpe.filter fun h => decide (bayOf h = b))
      rw [List.filter_cons, if_neg (by simpa using g')] at this
      exact List.Perm.append_left q this)), fun b K h => ac17N (by unfold vc17N; exact ⟨rfl, h⟩)⟩
theorem c18 : RBayC Try.prog 18 := ⟨fnR_body h18 (by kernel_rfl), fun x1 x2 x3 b K ⟨bs, hs, hr, hK⟩ => ACalls.retell (fun r H' hq => by
    rcases hq with ⟨hq, hr, hH⟩ | ⟨l, hq, hr, hH⟩
    · subst hr hH; exact ⟨_, _, GFin_tup (GSt.nilSl 0 C3 rfl), [], 7, hq, rfl, rfl⟩
    · subst hr hH; exact ⟨_, _, GFin_tup dropR2, l, 0, hq, rfl, rfl⟩)
  (ac18 (Q0 := K [] 7) (Q1 := fun l => K l 0) (by
  obtain ⟨l4, n4⟩ := hr.l4
  obtain ⟨h1, h2, tn, hi, htn⟩ := hr
  subst h1 h2
  have hln : hs.length ≤ 1000 := by have := hi.ln; omega
  unfold vc18
  simp only [stdE, baseE, Br_iff, tbl18, forall_eq]
  simp only [p38, p39, true_and]
  simp only [e38, e39, List.getD_cons_zero, List.getD_cons_succ, gi_int, gb_bool, row2_len, isN_b, Bool.not_eq_true', Bool.not_eq_false']
  simp only [bayL, bayE] at hK
  refine ⟨fun h => ?_, fun h => ?_⟩
  · simp only [h] at hK; exact hK
  simp only [h, if_true] at hK
  refine LoopP2.run (fun g : Nat => row3 (((hs.take g).filter fun h => decide (bayOf h = b)).map slot3)) (fun g => (g : Int)) (fun g => g ≤ hs.length) (fun g => hs.length - g) 0 (Nat.zero_le _) rfl rfl ?_
  intro n hn J hJ
  simp only [toNat_cast, row4_c0, row4_c1, row4_c2, row4_c3, row4_len, List.length_map, decide_eq_true_eq, decide_eq_false_iff_not, beq_iff_eq, beq_eq_false_iff_ne]
  refine ⟨fun g => ?_, fun g => ?_⟩
  · have h1 : n < hs.length := by omega
    have hx : (hs.map itm).getD n z4 = itm hs[n] := by rw [getD_el (by rw [List.length_map]; exact h1), List.getElem_map]
    rw [hx]
    have hlen : ((hs.take n).filter fun h => decide (bayOf h = b)).length ≤ 1000 := by
      have := List.length_filter_le (fun h => decide (bayOf h = b)) (hs.take n)
      rw [List.length_take] at this
      omega
    have ht : (hs.take (n + 1)).filter (fun h => decide (bayOf h = b)) = (hs.take n).filter (fun h => decide (bayOf h = b)) ++ (if bayOf hs[n] = b then [hs[n]] else []) := by
      rw [List.take_add_one, List.getElem?_eq_getElem h1, List.filter_append]
      by_cases hb : bayOf hs[n] = b <;> simp [hb]
    refine ⟨by omega, fun c => ⟨by simp [row3_len]; omega, ?_⟩, fun c => ?_⟩
    · have c : bayOf hs[n] = b := c
      rw [if_pos c] at ht
      refine hJ _ _ (n + 1) (by omega) (by omega) ?_ (wrap_up rfl (by omega))
      rw [ht, List.map_append, row3_append]
      rfl
    · have c : ¬ bayOf hs[n] = b := c
      rw [if_neg c, List.append_nil] at ht
      refine hJ _ _ (n + 1) (by omega) (by omega) ?_ (wrap_up rfl (by omega))
      rw [ht]
  · have h1 : n = hs.length := by omega
    subst h1
    rw [List.take_length]
    exact hK))⟩
theorem ix_any {α : Type} (l : List α) (z : α) (q : α → Bool) : decide (0 ≤ ixF l.length (fun j => q (l.getD j z)) 0) = l.any q := by
  rcases ixF_spec l.length (fun j => q (l.getD j z)) _ 0 rfl with ⟨h1, h2⟩ | ⟨m, _, h2, h3, h4, _⟩
  · rw [h1, List.any_eq_false.2 fun x hx => ?_]
    · rfl
    · obtain ⟨i, hi, rfl⟩ := List.getElem_of_mem hx
      have := h2 i (Nat.zero_le _) hi
      rw [getD_el hi] at this
      rw [this]; simp
  · rw [h3, List.any_eq_true.2 ⟨l[m], List.getElem_mem h2, by rw [getD_el h2] at h4; exact h4⟩]
    simp
theorem new_loop {bs : List I2} {Q0 : Int → Prop} {R : Prop} (hl : bs.length ≤ 32) (h0 : bs.any badB = true → Q0 1) (h1 : bs.any badB = false → R) {b : Int → (Int → Prop) → Prop}
    (hb : ∀ (n : Nat) (K : Int → Prop), (n < bs.length → (badB (bs.getD n z2) = true → Q0 1) → (badB (bs.getD n z2) = false → K ((n + 1 : Nat) : Int)) → b n K) ∧ (¬ n < bs.length → R → b n K)) : LoopP1 b 0 := by
  have ha := ix_any bs z2 badB
  refine find_loop (p := fun j => badB (bs.getD j z2)) (n := bs.length) (A' := fun _ => bs.any badB = true) (B := bs.any badB = false) (by omega) ?_ ?_ ?_ ?_
  · intro k K hk h2 h3
    exact (hb k K).1 hk (fun h => h0 (h2 h)) h3
  · intro K hB
    exact (hb bs.length K).2 (Nat.lt_irrefl _) (h1 hB)
  · intro k hk h2 h3
    rw [← ha, h2]; simp
  · intro h
    rw [← ha, h]; rfl
theorem c24 : NewC Try.prog 24 := ⟨fnR_body h24 (by kernel_rfl), fun x1 K0 K1 ⟨bs, hx, hK0, hK1⟩ => ac24 cloneco41 (by
  subst hx
  unfold vc24 spClone
  simp only [newE] at hK0 hK1
  simp only [stdE, baseE, Br_iff, row2_len, decide_eq_true_eq, decide_eq_false_iff_not, beq_iff_eq, beq_eq_false_iff_ne]
  refine ⟨fun h => ?_, fun h => ⟨fun h2 => ?_, fun h2 => ?_⟩⟩
  · simp only [if_pos (show bs.length = 0 by omega)] at hK0; exact hK0 (by decide)
  · simp only [if_neg (show ¬ bs.length = 0 by omega), if_pos (show 32 < bs.length by omega)] at hK0; exact hK0 (by decide)
  · simp only [if_neg (show ¬ bs.length = 0 by omega), if_neg (show ¬ 32 < bs.length by omega)] at hK0 hK1
    refine new_loop (bs := bs) (Q0 := K0) (R := K1) (by omega) (fun h => by simp only [h, if_true] at hK0; exact hK0 (by decide)) (fun h => by simp only [h] at hK1; exact hK1 rfl) fun n K => ⟨fun hn b1 b2 => ?_, fun hn hR => ?_⟩
    · simp only [toNat_cast, row2_c0, row2_c1, bite_orP, Bool.decide_eq_true, Bool.or_eq_true, Bool.or_eq_false_iff, decide_eq_true_eq, decide_eq_false_iff_not]
      refine ⟨fun _ => ⟨by omega, fun c => b1 ?_, fun c => ?_⟩, fun c => by omega⟩
      · simp only [badB, decide_eq_true_eq]; omega
      · rw [wrap_up rfl (by omega)]
        exact b2 (by simp only [badB, decide_eq_false_iff_not]; omega)
    · exact ⟨fun c => by omega, fun _ => ⟨by omega, hR⟩⟩)⟩
theorem c28 : RNewC Try.prog 28 := ⟨fnR_body h28 (by kernel_rfl), fun x1 K0 K1 ⟨bs, hx, hK0, hK1⟩ => (ac28 (Q0 := K0) (Q1 := fun l => l = x1 ∧ K1) (by
  subst hx
  unfold vc28
  simp only [newE] at hK0 hK1
  simp only [stdE, baseE, Br_iff, row2_len, List.nil_append, decide_eq_true_eq, decide_eq_false_iff_not, beq_iff_eq, beq_eq_false_iff_ne]
  refine ⟨fun h => ?_, fun h => ⟨fun h2 => ?_, fun h2 => ?_⟩⟩
  · simp only [if_pos (show bs.length = 0 by omega)] at hK0; exact hK0 (by decide)
  · simp only [if_neg (show ¬ bs.length = 0 by omega), if_pos (show 32 < bs.length by omega)] at hK0; exact hK0 (by decide)
  · simp only [if_neg (show ¬ bs.length = 0 by omega), if_neg (show ¬ 32 < bs.length by omega)] at hK0 hK1
    refine new_loop (bs := bs) (Q0 := K0) (R := K1) (by omega) (fun h => by simp only [h, if_true] at hK0; exact hK0 (by decide)) (fun h => by simp only [h] at hK1; exact hK1 rfl) fun n K => ⟨fun hn b1 b2 => ?_, fun hn hR => ?_⟩
    · simp only [toNat_cast, row2_c0, row2_c1, bite_orP, Bool.decide_eq_true, Bool.or_eq_true, Bool.or_eq_false_iff, decide_eq_true_eq, decide_eq_false_iff_not]
      refine ⟨fun _ => ⟨by omega, fun c => b1 ?_, fun c => ?_⟩, fun c => by omega⟩
      · simp only [badB, decide_eq_true_eq]; omega
      · rw [wrap_up rfl (by omega)]
        exact b2 (by simp only [badB, decide_eq_false_iff_not]; omega)
    · exact ⟨fun c => by omega, fun _ => ⟨by simp; omega, trivial, hR⟩⟩)).mono fun r H' hq => hq.imp id fun ⟨l, ⟨h1, h2⟩, h3, h4⟩ => ⟨h2, h3, by rw [h4, h1]⟩⟩
theorem c10 : BeginC Try.prog 10 := ⟨fnR_body h10 (by kernel_rfl), fun x1 x2 K0 K1 ⟨bs, hx, hK0, hK1⟩ => (ac10 c24 c28 (Q0 := fun b => b = true ∧ K0) (Q1 := False) (Q2 := K1) (by
  subst hx
  unfold vc10 spNew
  simp only [stdE, baseE, Br_iff, row2_len, bite_orP, Bool.decide_eq_true, Bool.or_eq_true, Bool.or_eq_false_iff, decide_eq_true_eq, decide_eq_false_iff_not, beq_iff_eq, beq_eq_false_iff_ne]
  refine ⟨fun _ => ⟨trivial, hK0⟩, fun h => ⟨bs, rfl, fun h1 => ⟨bs, rfl, fun h2 => ?_, fun h2 => absurd h2 h1⟩, fun h1 => ⟨bs, rfl, fun h2 => absurd h1 h2, fun _ => ?_⟩⟩⟩
  · refine ⟨fun c => ?_, fun _ => ⟨trivial, hK0⟩⟩
    simp [h2] at c
  · refine ⟨fun c => ?_, fun _ => hK1 (by omega) h1⟩
    simp at c)).mono fun r H' hq => by
    rcases hq with ⟨b, ⟨rfl, hq⟩, h1, h2⟩ | ⟨hq, _⟩ | ⟨hq, h1, h2⟩
    · exact .inl ⟨hq, h1, h2⟩
    · exact hq.elim
    · exact .inr ⟨hq, h1, h2⟩⟩
end Go.Proofs.Ytniijahjfbgfpaa.V
