/- Warehouses: a call that returns an error changes nothing. No conditions. -/
import Derived.Test.YtniijahjfbgfpaaGR
import Derived.Test.YtniijahjfbgfpaaLaw2
set_option linter.unusedVariables false
set_option linter.unusedSimpArgs false
namespace Go.Proofs.Ytniijahjfbgfpaa.V
open Go Go.Eng
set_option maxRecDepth 1000000
set_option maxHeartbeats 1000000
/-- Bay i is not as it was. -/
def chB (bs : List I2) (hs hs' : List I5) (i : Nat) : Bool := decide (bayL bs hs' i ≠ bayL bs hs i)
theorem chB_nat {bs : List I2} {hs hs' : List I5} {i : Nat} (hi : i < bs.length) (h : inB hs' i = inB hs i) : chB bs hs hs' i = false := by
  unfold chB
  rw [bayL_in (isB_nat hi), bayL_in (isB_nat hi), h]
  simp
theorem chB_len {bs : List I2} {hs hs' : List I5} {i : Nat} (hi : i < bs.length) (h : (inB hs' i).length ≠ (inB hs i).length) : chB bs hs hs' i = true := by
  unfold chB
  rw [bayL_in (isB_nat hi), bayL_in (isB_nat hi)]
  exact decide_eq_true fun e => h (slot_inj e)
/-- How many bays a call changes. -/
theorem changed {bs : List I2} {tn la : Int} {hs : List I5} (hi : Inv bs tn la hs) {k r w b t : Int} (h : (opO bs hs tn la k r w b t).e = 0) : cN (chB bs hs (opO bs hs tn la k r w b t).hs) bs.length = if k = 1 then 2 else 1 := by
  have hent : ∀ {w : Int} (o : Out), o = entM bs hs tn la r w b t → o.e = 0 → o.hs = drp hs r ++ [(r, b, t, w, tn + 1)] := fun o ho he => by
    subst ho
    revert he
    unfold entM
    repeat' split
    · intro he; cases he
    · intro he; cases he
    · intro _; rfl
  unfold opO at h ⊢
  by_cases hk0 : k = 0
  · subst hk0
    simp only [if_true, show ¬ (0 : Int) = 1 by decide, if_false] at h ⊢
    unfold putO at h ⊢
    split at h
    · cases h
    split at h
    · cases h
    split at h
    · cases h
    split at h
    · cases h
    rename_i h1 h2 h3 h4
    rw [if_neg h1, if_neg h2, if_neg h3, if_neg h4, hent _ rfl h]
    have hb : isB bs b = true := by simpa using h3
    have hbd := isB_d hb
    have hd : drp hs r = hs := drp_self fun x hx e => by
      have : fnd hs r = none := by simpa using h2
      exact fnd_none this x hx e
    rw [hd]
    have hbn : ((b.toNat : Nat) : Int) = b := Int.toNat_of_nonneg hbd.1
    rw [cN_one (a := b.toNat) fun i hi' => ?_, if_pos (by omega)]
    by_cases e : i = b.toNat
    · rw [decide_eq_true e]
      refine chB_len hi' ?_
      have : (i : Int) = b := by rw [e, hbn]
      rw [this, inB_app, if_pos rfl]
      simp
    · rw [decide_eq_false e]
      refine chB_nat hi' ?_
      rw [inB_app, if_neg (show ¬ bayOf (r, b, t, w, tn + 1) = (i : Int) from fun q => e (by have q : b = (i : Int) := q; omega)), List.append_nil]
  · by_cases hk1 : k = 1
    · subst hk1
      simp only [if_true, show ¬ (1 : Int) = 0 by decide, if_false] at h ⊢
      unfold movO at h ⊢
      cases hf : fnd hs r with
      | none => simp only [hf] at h; cases h
      | some x =>
        simp only [hf] at h ⊢
        split at h
        · cases h
        split at h
        · cases h
        split at h
        · cases h
        split at h
        · cases h
        rename_i h1 h2 h3 h4
        rw [if_neg h1, if_neg h2, if_neg h3, if_neg h4, hent _ rfl h]
        have hb : isB bs b = true := by simpa using h1
        have hbd := isB_d hb
        obtain ⟨hx, hxk⟩ := fnd_some hf
        have hxb := hi.by' x hx
        have hbn : ((b.toNat : Nat) : Int) = b := Int.toNat_of_nonneg hbd.1
        have hxn : (((bayOf x).toNat : Nat) : Int) = bayOf x := Int.toNat_of_nonneg hxb.1
        rw [cN_two (a := (bayOf x).toNat) (b := b.toNat) (by omega) fun i hi' => ?_, if_pos (by omega), if_pos (by omega)]
        by_cases e1 : i = (bayOf x).toNat
        · rw [decide_eq_true (.inl e1)]
          refine chB_len hi' ?_
          have : (i : Int) = bayOf x := by rw [e1, hxn]
          rw [this, inB_app, if_neg (show ¬ bayOf (r, b, t, widOf x, tn + 1) = bayOf x from fun q => h2 q.symm), List.append_nil]
          have := inB_drp_eq hf
          omega
        · have hne : bayOf x ≠ (i : Int) := fun q => e1 (by omega)
          by_cases e2 : i = b.toNat
          · rw [decide_eq_true (.inr e2)]
            refine chB_len hi' ?_
            have : (i : Int) = b := by rw [e2, hbn]
            rw [inB_app, inB_drp_ne hi.nd hf hne, if_pos (show bayOf (r, b, t, widOf x, tn + 1) = (i : Int) from this.symm)]
            simp
          · rw [decide_eq_false (fun q => q.elim e1 e2)]
            refine chB_nat hi' ?_
            rw [inB_app, inB_drp_ne hi.nd hf hne, if_neg (show ¬ bayOf (r, b, t, widOf x, tn + 1) = (i : Int) from fun q => e2 (by have q : b = (i : Int) := q; omega)), List.append_nil]
    · simp only [if_neg hk0, if_neg hk1] at h ⊢
      unfold takO at h ⊢
      cases hf : fnd hs r with
      | none => simp only [hf] at h; cases h
      | some x =>
        simp only
        obtain ⟨hx, hxk⟩ := fnd_some hf
        have hxb := hi.by' x hx
        have hxn : (((bayOf x).toNat : Nat) : Int) = bayOf x := Int.toNat_of_nonneg hxb.1
        rw [cN_one (a := (bayOf x).toNat) fun i hi' => ?_, if_pos (by omega)]
        by_cases e1 : i = (bayOf x).toNat
        · rw [decide_eq_true e1]
          refine chB_len hi' ?_
          have : (i : Int) = bayOf x := by rw [e1, hxn]
          rw [this]
          have := inB_drp_eq hf
          omega
        · rw [decide_eq_false e1]
          exact chB_nat hi' (inB_drp_ne hi.nd hf fun q => e1 (by omega))
def S7 : List A → List C := fun _ => [.bool true]
def tbl7 : FuncId → List A → List C := fun f ds => match f with
  | 11 => S11 ds
  | 19 => S19 ds
  | _ => []
theorem pc7 (ce12 : DoC Try.prog 12) (ce17 : BayC Try.prog 17) (ce24 : NewC Try.prog 24) {x1 : List (List C)} {x2 : List (List C)} {x3 : Int} {x4 : Int} {x5 : Int} {x6 : Int} {x7 : Int} {row : List C} (hS : S7 [.c (.sl [.int .i64, .int .i64] x1), .c (.sl [.int .i64, .int .i64, .int .i64, .int .i64, .int .i64] x2), .agg [.c (.int .i64 x3), .c (.int .i64 x4), .c (.int .i64 x5), .c (.int .i64 x6), .c (.int .i64 x7)]] = row) (h : vc7 (stdE Try.prog tbl7) x1 x2 x3 x4 x5 x6 x7 fun c => c = row) : PCg Try.prog 7 S7 [(false, [.bool])] [.c (.sl [.int .i64, .int .i64] x1), .c (.sl [.int .i64, .int .i64, .int .i64, .int .i64, .int .i64] x2), .agg [.c (.int .i64 x3), .c (.int .i64 x4), .c (.int .i64 x5), .c (.int .i64 x6), .c (.int .i64 x7)]] := PureC_vc mo h7 (by kernel_rfl) hS (w7 ce12 ce17 ce24 h)
theorem p7 (bs : List I2) (l : List I5) (k r w b t : Int) : PureC Try.prog 7 [kB] [s2 (row2 bs), s5 (row5 l), opA k r w b t] fun _ => .bool true := by
  refine PureC.one (get := fun i => (S7 [s2 (row2 bs), s5 (row5 l), opA k r w b t]).getD i .nil) (pc7 c12 c17 c24 (row := [.bool true]) rfl ?_) rfl
  unfold vc7
  simp only [stdE, baseE, Br_iff, Imp_iff, tbl7, forall_eq, row5_len, row2_len]
  simp only [p11, implies_true, true_and]
  simp only [e11, List.getD_cons_zero, gb_bool, bite_orP, Bool.decide_eq_true, Bool.or_eq_true, Bool.or_eq_false_iff, decide_eq_true_eq, decide_eq_false_iff_not]
  refine ⟨fun _ => trivial, fun hlen => spNew_of rfl (fun he => ⟨fun _ => ?_, fun h => ?_⟩) fun he => ⟨fun h => ?_, fun _ => ?_⟩⟩
  · simp [he]
  · simp at h
  · simp at h
  refine do_loop (l := l) (by omega) he fun es tn la hs hw _ htn => ?_
  have hbl := hw.inv.bl
  refine LoopP2.run (fun n : Nat => (List.range n).map fun (i : Nat) => [C.sl C3 (row3 (bayL bs hs i))]) (fun n => (n : Int)) (fun n => n ≤ bs.length) (fun n => bs.length - n) 0 (Nat.zero_le _) rfl rfl ?_
  intro n hn J hJ
  refine ⟨fun h => ?_, fun h => ?_⟩
  · refine ⟨bs, hs, rfl, hw, by omega, by simp; omega, ?_⟩
    refine hJ _ _ (n + 1) (by omega) (by omega) ?_ (wrap_up rfl (by omega))
    rw [List.range_succ, List.map_append]
    rfl
  · have hnl : n = bs.length := by omega
    subst hnl
    have ht1 := opO_tn bs hs tn la k r w b t
    refine ⟨bs, hs, rfl, hw, by omega, fun es' hw' => ?_⟩
    refine LoopP2.run (fun n : Nat => (cN (chB bs hs (opO bs hs tn la k r w b t).hs) n : Int)) (fun n => (n : Int)) (fun n => n ≤ bs.length) (fun n => bs.length - n) 0 (Nat.zero_le _) rfl rfl ?_
    intro n hn J hJ
    refine ⟨fun h => ?_, fun h => ?_⟩
    · have h1 : n < bs.length := by omega
      have hcell : (cellAt ((List.range bs.length).map fun (i : Nat) => [C.sl C3 (row3 (bayL bs hs i))]) ((n : Int)).toNat 0).gl = row3 (bayL bs hs n) := by
        rw [toNat_cast]
        unfold cellAt
        rw [getD_el (show n < ((List.range bs.length).map fun (i : Nat) => [C.sl C3 (row3 (bayL bs hs i))]).length by rw [List.length_map, List.length_range]; exact h1), List.getElem_map, List.getElem_range]
        rfl
      refine ⟨bs, _, rfl, hw', by omega, by omega, by simp; omega, ?_⟩
      rw [hcell]
      refine ⟨p19 (by have := bay_len hw'.inv (by omega) n; omega) _, ?_⟩
      rw [e19]
      have hcn := cN_le (chB bs hs (opO bs hs tn la k r w b t).hs) n
      have hstep : cN (chB bs hs (opO bs hs tn la k r w b t).hs) (n + 1) = cN (chB bs hs (opO bs hs tn la k r w b t).hs) n + if chB bs hs (opO bs hs tn la k r w b t).hs n = true then 1 else 0 := rfl
      refine ⟨fun c => ?_, fun c => ?_⟩
      · have c' : chB bs hs (opO bs hs tn la k r w b t).hs n = true := by simpa [chB, gb_bool] using c
        rw [if_pos c'] at hstep
        exact hJ _ _ (n + 1) (by omega) (by omega) (by rw [hstep]; exact wrap_up rfl (by omega)) (wrap_up rfl (by omega))
      · have c' : ¬ chB bs hs (opO bs hs tn la k r w b t).hs n = true := by simpa [chB, gb_bool] using c
        rw [if_neg c'] at hstep
        exact hJ _ _ (n + 1) (by omega) (by omega) (by rw [hstep]; rfl) (wrap_up rfl (by omega))
    · have hnl : n = bs.length := by omega
      subst hnl
      refine ⟨fun c => ?_, fun c => ?_⟩
      · have he0 : (opO bs hs tn la k r w b t).e ≠ 0 := by simpa using c
        have : cN (chB bs hs (opO bs hs tn la k r w b t).hs) bs.length = 0 := cN_zero fun i hi => by rw [opO_err he0]; exact chB_nat hi rfl
        rw [this]
        simp
      · have he0 : (opO bs hs tn la k r w b t).e = 0 := by simpa using c
        have := changed hw.inv he0
        rw [this]
        by_cases hk : k = 1 <;> simp [hk]
end Go.Proofs.Ytniijahjfbgfpaa.V
