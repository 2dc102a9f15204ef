/- Warehouses: what the reference's functions make. No conditions. -/
import Derived.Test.YtniijahjfbgfpaaVal
set_option linter.unusedVariables false
set_option linter.unusedSimpArgs false
namespace Go.Proofs.Ytniijahjfbgfpaa.V
open Go Go.Eng
set_option maxRecDepth 1000000
set_option maxHeartbeats 1000000
theorem bite_or' (a b : Bool) : (if a = true then true else b) = (a || b) := by cases a <;> rfl
def fnd4 (its : List I4) (k : Int) : Option I4 := its.find? fun x => k == x.1
def drp4 (its : List I4) (k : Int) : List I4 := its.filter fun x => !(k == x.1)
def cnt4 (its : List I4) (b : Int) : Nat := (its.filter fun x => decide (x.2.2.1 = b)).length
def plc (its : List I4) (k : Int) : Int := ixF its.length (fun j => (its.getD j z4).1 == k) 0
theorem fnd4_map (hs : List I5) (k : Int) : fnd4 (hs.map itm) k = (fnd hs k).map itm := by
  unfold fnd4 fnd; rw [List.find?_map]; rfl
theorem drp4_map (hs : List I5) (k : Int) : drp4 (hs.map itm) k = (drp hs k).map itm := by
  unfold drp4 drp; rw [List.filter_map]; rfl
theorem cnt4_map (hs : List I5) (b : Int) : cnt4 (hs.map itm) b = cnt hs b := by
  unfold cnt4 cnt; rw [List.filter_map, List.length_map]; rfl
theorem keys4 {hs : List I5} (h : (keys hs).Nodup) : ((hs.map itm).map (·.1)).Nodup := by
  rw [List.map_map]; exact h
theorem getD_el {α : Type} {l : List α} {z : α} {i : Nat} (h : i < l.length) : l.getD i z = l[i] := by
  rw [List.getD_eq_getElem?_getD, List.getElem?_eq_getElem h]; rfl
theorem plc_spec {its : List I4} (hn : (its.map (·.1)).Nodup) (k : Int) : (fnd4 its k = none ∧ plc its k = -1) ∨
    ∃ m : Nat, m < its.length ∧ plc its k = m ∧ fnd4 its k = some (its.getD m z4) ∧ drp4 its k = its.take m ++ its.drop (m + 1) := by
  rcases ixF_spec its.length (fun j => (its.getD j z4).1 == k) _ 0 rfl with ⟨h1, h2⟩ | ⟨m, _, h2, h3, h4, h5⟩
  · refine .inl ⟨List.find?_eq_none.2 fun x hx => ?_, h1⟩
    obtain ⟨i, hi, rfl⟩ := List.getElem_of_mem hx
    have := h2 i (Nat.zero_le _) hi
    rw [getD_el hi] at this
    intro e
    exact (beq_eq_false_iff_ne.1 this) (beq_iff_eq.1 e).symm
  · refine .inr ⟨m, h2, h3, ?_, ?_⟩
    · refine List.find?_eq_some_iff_getElem.2 ⟨?_, m, h2, (getD_el h2).symm, fun j hj => ?_⟩
      · simp only [beq_iff_eq] at h4 ⊢; exact h4.symm
      · have := h5 j (Nat.zero_le _) hj
        rw [getD_el (by omega)] at this
        simp only [beq_eq_false_iff_ne, ne_eq, Bool.not_eq_true'] at this ⊢
        exact fun e => this e.symm
    · have hm : its[m].1 = k := by rw [getD_el h2] at h4; simpa using h4
      have e : its = its.take m ++ its[m] :: its.drop (m + 1) := by rw [← List.drop_eq_getElem_cons h2, List.take_append_drop]
      have hn' := hn
      rw [e, List.map_append, List.map_cons, List.nodup_append] at hn'
      have n2 := (List.nodup_cons.1 hn'.2.1).1
      have a1 : drp4 (its.take m) k = its.take m := List.filter_eq_self.2 fun x hx => by
        have := hn'.2.2 x.1 (List.mem_map.2 ⟨x, hx, rfl⟩) its[m].1 (by simp)
        rw [hm] at this
        simp only [Bool.not_eq_true', beq_eq_false_iff_ne, ne_eq]
        exact fun e => this e.symm
      have a2 : drp4 (its.drop (m + 1)) k = its.drop (m + 1) := List.filter_eq_self.2 fun x hx => by
        simp only [Bool.not_eq_true', beq_eq_false_iff_ne, ne_eq]
        intro e
        exact n2 (List.mem_map.2 ⟨x, hx, by rw [hm, e]⟩)
      have a3 : drp4 its k = drp4 (its.take m ++ its[m] :: its.drop (m + 1)) k := congrArg (drp4 · k) e
      rw [a3]
      show (its.take m ++ its[m] :: its.drop (m + 1)).filter _ = _
      rw [List.filter_append, List.filter_cons, if_neg (by simp [hm])]
      exact (congr (congrArg _ a1) a2)
def putR (bs : List I2) (its : List I4) (la r w b t : Int) : List I4 × Int × Int :=
  if r < 1 ∨ 1000000 < r ∨ w < 1 ∨ 12000 < w ∨ momB t = false then (its, la, 1) else if (fnd4 its r).isSome = true then (its, la, 6) else if isB bs b = false then (its, la, 7)
  else if (bs.getD b.toNat z2).2 < w then (its, la, 20) else if t < la then (its, la, 9) else if (bs.getD b.toNat z2).1 ≤ cnt4 its b then (its, la, 8) else (its ++ [(r, w, b, t)], t, 0)
def movR (bs : List I2) (its : List I4) (la r b t : Int) : List I4 × Int × Int :=
  match fnd4 its r with
  | none => (its, la, 7)
  | some x => if isB bs b = false then (its, la, 7) else if x.2.2.1 = b then (its, la, 6) else if (bs.getD b.toNat z2).2 < x.2.1 then (its, la, 20) else if momB t = false then (its, la, 1)
    else if t < la then (its, la, 9) else if (bs.getD b.toNat z2).1 ≤ cnt4 its b then (its, la, 8) else (drp4 its r ++ [(r, x.2.1, b, t)], t, 0)
def takR (its : List I4) (la r : Int) : List I4 × Int × Int × Int :=
  match fnd4 its r with
  | none => (its, la, 0, 7)
  | some x => (drp4 its r, la, x.2.2.1, 0)
theorem putR_put (bs : List I2) (hs : List I5) (tn la r w b t : Int) : (putO bs hs tn la r w b t).hs.map itm = (putR bs (hs.map itm) la r w b t).1 ∧ (putO bs hs tn la r w b t).la = (putR bs (hs.map itm) la r w b t).2.1 ∧ (putO bs hs tn la r w b t).e = (putR bs (hs.map itm) la r w b t).2.2 := by
  unfold putO putR entM
  rw [fnd4_map, cnt4_map, Option.isSome_map]
  repeat' (split <;> try exact ⟨rfl, rfl, rfl⟩)
  rename_i h1 h2 h3 h4 h5 h6
  refine ⟨?_, rfl, rfl⟩
  have hd : drp hs r = hs := drp_self fun x hx e => by
    have : fnd hs r = none := by simpa using h2
    exact fnd_none this x hx e
  dsimp only
  rw [hd, List.map_append]
  rfl
theorem movR_mov (bs : List I2) (hs : List I5) (tn la r b t : Int) : (movO bs hs tn la r b t).hs.map itm = (movR bs (hs.map itm) la r b t).1 ∧ (movO bs hs tn la r b t).la = (movR bs (hs.map itm) la r b t).2.1 ∧ (movO bs hs tn la r b t).e = (movR bs (hs.map itm) la r b t).2.2 := by
  unfold movO movR entM
  rw [fnd4_map]
  cases fnd hs r with
  | none => exact ⟨rfl, rfl, rfl⟩
  | some h =>
    simp only [Option.map_some, cnt4_map, drp4_map]
    simp only [show (itm h).2.2.1 = bayOf h from rfl, show (itm h).2.1 = widOf h from rfl]
    repeat' (split <;> try exact ⟨rfl, rfl, rfl⟩)
    refine ⟨?_, rfl, rfl⟩
    dsimp only
    rw [List.map_append]
    rfl
theorem takR_tak (hs : List I5) (tn la r : Int) : (takO hs tn la r).hs.map itm = (takR (hs.map itm) la r).1 ∧ (takO hs tn la r).la = (takR (hs.map itm) la r).2.1 ∧ (takO hs tn la r).n = (takR (hs.map itm) la r).2.2.1 ∧ (takO hs tn la r).e = (takR (hs.map itm) la r).2.2.2 := by
  unfold takO takR
  rw [fnd4_map]
  cases fnd hs r with
  | none => exact ⟨rfl, rfl, rfl, rfl⟩
  | some h => exact ⟨(drp4_map ..).symm, rfl, rfl, rfl⟩
/-! ### The functions -/
def S33 : List A → List C := fun ds => match ds with
  | [.agg [_, .c (.sl _ y), _], .c (.int _ b)] => [.int .i64 (cnt4 (un4 y) b)]
  | _ => []
theorem e33 (x1 : List (List C)) (its : List I4) (la b : Int) : S33 [agR x1 (row4 its) la, iC b] = [.int .i64 (cnt4 its b)] := by
  show [C.int .i64 (cnt4 (un4 (row4 its)) b)] = _
  rw [un4_row]
def tbl33 : FuncId → List A → List C := fun f ds => match f with
  | _ => []
theorem pc33  {x1 : List (List C)} {x2 : List (List C)} {x3 : Int} {x4 : Int} {row : List C} (hS : S33 [.agg [.c (.sl [.int .i64, .int .i64] x1), .c (.sl [.int .i64, .int .i64, .int .i64, .int .i64] x2), .c (.int .i64 x3)], .c (.int .i64 x4)] = row) (h : vc33 (stdE Try.prog tbl33) x1 x2 x3 x4 fun c => c = row) : PCg Try.prog 33 S33 [(false, [.int .i64])] [.agg [.c (.sl [.int .i64, .int .i64] x1), .c (.sl [.int .i64, .int .i64, .int .i64, .int .i64] x2), .c (.int .i64 x3)], .c (.int .i64 x4)] := PureC_vc mo h33 (by kernel_rfl) hS (w33  h)
theorem p33 (x1 : List (List C)) {its : List I4} (hl : its.length ≤ 1000000) (la b : Int) : PCg Try.prog 33 S33 [kI] [agR x1 (row4 its) la, iC b] := by
  refine pc33 (e33 ..) ?_
  unfold vc33
  simp only [stdE, baseE, Br_iff, row4_len, decide_eq_true_eq, decide_eq_false_iff_not]
  refine LoopP2.run (fun g : Nat => (cnt4 (its.take g) b : Int)) (fun g => (g : Int)) (fun g => g ≤ its.length) (fun g => its.length - g) 0 (Nat.zero_le _) rfl rfl ?_
  intro n hn K hK
  simp only [toNat_cast, row4_c2, beq_iff_eq, beq_eq_false_iff_ne]
  refine ⟨fun h => ?_, fun h => ?_⟩
  · have h1 : n < its.length := by omega
    have ht : cnt4 (its.take (n + 1)) b = cnt4 (its.take n) b + if (its.getD n z4).2.2.1 = b then 1 else 0 := by
      unfold cnt4
      rw [List.take_add_one, List.getElem?_eq_getElem h1, List.filter_append, List.length_append, getD_el h1]
      by_cases hb : its[n].2.2.1 = b <;> simp [hb]
    have hb : cnt4 (its.take n) b ≤ n := Nat.le_trans (List.length_filter_le _ _) (by rw [List.length_take]; omega)
    refine ⟨by omega, fun c => ?_, fun c => ?_⟩
    · rw [if_pos c] at ht
      exact hK _ _ (n + 1) (by omega) (by omega) (by rw [ht]; exact wrap_up rfl (by omega)) (wrap_up rfl (by omega))
    · rw [if_neg c] at ht
      exact hK _ _ (n + 1) (by omega) (by omega) (by rw [ht]; rfl) (wrap_up rfl (by omega))
  · have h1 : n = its.length := by omega
    subst h1
    rw [List.take_length]
def S40 : List A → List C := fun ds => match ds with
  | [.agg [_, .c (.sl _ y), _], .c (.int _ k)] => [.int .i64 (plc (un4 y) k)]
  | _ => []
theorem e40 (x1 : List (List C)) (its : List I4) (la k : Int) : S40 [agR x1 (row4 its) la, iC k] = [.int .i64 (plc its k)] := by
  show [C.int .i64 (plc (un4 (row4 its)) k)] = _
  rw [un4_row]
def tbl40 : FuncId → List A → List C := fun f ds => match f with
  | _ => []
theorem pc40  {x1 : List (List C)} {x2 : List (List C)} {x3 : Int} {x4 : Int} {row : List C} (hS : S40 [.agg [.c (.sl [.int .i64, .int .i64] x1), .c (.sl [.int .i64, .int .i64, .int .i64, .int .i64] x2), .c (.int .i64 x3)], .c (.int .i64 x4)] = row) (h : vc40 (stdE Try.prog tbl40) x1 x2 x3 x4 fun c => c = row) : PCg Try.prog 40 S40 [(false, [.int .i64])] [.agg [.c (.sl [.int .i64, .int .i64] x1), .c (.sl [.int .i64, .int .i64, .int .i64, .int .i64] x2), .c (.int .i64 x3)], .c (.int .i64 x4)] := PureC_vc mo h40 (by kernel_rfl) hS (w40  h)
theorem p40 (x1 : List (List C)) {its : List I4} (hl : its.length ≤ 1000000) (la k : Int) : PCg Try.prog 40 S40 [kI] [agR x1 (row4 its) la, iC k] := by
  refine pc40 (e40 ..) ?_
  unfold vc40
  simp only [stdE, baseE, Br_iff, row4_len, decide_eq_true_eq, decide_eq_false_iff_not]
  refine find_loop (p := fun j => (its.getD j z4).1 == k) (n := its.length) (A' := fun j => plc its k = j) (B := plc its k = -1) (by omega) ?_ ?_ ?_ ?_
  · intro j K hj ha hf
    simp only [toNat_cast, row4_c0]
    refine ⟨fun _ => ⟨by omega, fun h => by rw [ha h], fun h => ?_⟩, fun h => by omega⟩
    rw [wrap_up rfl (by omega)]
    exact hf h
  · intro K hB
    exact ⟨fun h => by omega, fun _ => by rw [hB]⟩
  · intro j hj h4 h5
    exact h4
  · exact fun h => h
def S51 : List A → List C := fun ds => match ds with
  | [.agg [.c (.sl _ x), .c (.sl _ y), _], .agg [.c (.int _ r), .c (.int _ w), .c (.int _ b), .c (.int _ t)]] => [.sl C2 x, .sl C4 (y ++ [cs4 (r, w, b, t)]), .int .i64 t]
  | _ => []
abbrev kW : Bool × List LK := (true, [.sl C2, .sl C4, .int .i64])
theorem e51 (x1 : List (List C)) (its : List I4) (la r w b t : Int) : S51 [agR x1 (row4 its) la, ag4 r w b t] = [.sl C2 x1, .sl C4 (row4 (its ++ [(r, w, b, t)])), .int .i64 t] := by
  rw [row4_append]; rfl
def tbl51 : FuncId → List A → List C := fun f ds => match f with
  | _ => []
theorem pc51  {x1 : List (List C)} {x2 : List (List C)} {x3 : Int} {x4 : Int} {x5 : Int} {x6 : Int} {x7 : Int} {row : List C} (hS : S51 [.agg [.c (.sl [.int .i64, .int .i64] x1), .c (.sl [.int .i64, .int .i64, .int .i64, .int .i64] x2), .c (.int .i64 x3)], .agg [.c (.int .i64 x4), .c (.int .i64 x5), .c (.int .i64 x6), .c (.int .i64 x7)]] = row) (h : vc51 (stdE Try.prog tbl51) x1 x2 x3 x4 x5 x6 x7 fun c => c = row) : PCg Try.prog 51 S51 [(true, [.sl [.int .i64, .int .i64], .sl [.int .i64, .int .i64, .int .i64, .int .i64], .int .i64])] [.agg [.c (.sl [.int .i64, .int .i64] x1), .c (.sl [.int .i64, .int .i64, .int .i64, .int .i64] x2), .c (.int .i64 x3)], .agg [.c (.int .i64 x4), .c (.int .i64 x5), .c (.int .i64 x6), .c (.int .i64 x7)]] := PureC_vc mo h51 (by kernel_rfl) hS (w51  h)
theorem p51 (x1 : List (List C)) {its : List I4} (hl : its.length ≤ 1000000) (la r w b t : Int) : PCg Try.prog 51 S51 [kW] [agR x1 (row4 its) la, ag4 r w b t] := by
  refine pc51 (e51 ..) ?_
  unfold vc51
  simp only [stdE, baseE, List.nil_append, row4_len, decide_eq_true_eq]
  refine ⟨by simp; omega, by simp; omega, ?_⟩
  rw [row4_append]; rfl
def S52 : List A → List C := fun ds => match ds with
  | [.agg [.c (.sl _ x), .c (.sl _ y), .c (.int _ la)], .c (.int _ i)] => [.sl C2 x, .sl C4 (y.take i.toNat ++ y.drop (i.toNat + 1)), .int .i64 la]
  | _ => []
theorem e52 (x1 : List (List C)) (its : List I4) (la : Int) (m : Nat) : S52 [agR x1 (row4 its) la, iC m] = [.sl C2 x1, .sl C4 (row4 (its.take m ++ its.drop (m + 1))), .int .i64 la] := by
  rw [row4_append]
  show [C.sl C2 x1, .sl C4 ((row4 its).take (m : Int).toNat ++ (row4 its).drop ((m : Int).toNat + 1)), .int .i64 la] = _
  rw [toNat_cast, row4, row4, row4, List.map_take, List.map_drop]
def tbl52 : FuncId → List A → List C := fun f ds => match f with
  | _ => []
theorem pc52  {x1 : List (List C)} {x2 : List (List C)} {x3 : Int} {x4 : Int} {row : List C} (hS : S52 [.agg [.c (.sl [.int .i64, .int .i64] x1), .c (.sl [.int .i64, .int .i64, .int .i64, .int .i64] x2), .c (.int .i64 x3)], .c (.int .i64 x4)] = row) (h : vc52 (stdE Try.prog tbl52) x1 x2 x3 x4 fun c => c = row) : PCg Try.prog 52 S52 [(true, [.sl [.int .i64, .int .i64], .sl [.int .i64, .int .i64, .int .i64, .int .i64], .int .i64])] [.agg [.c (.sl [.int .i64, .int .i64] x1), .c (.sl [.int .i64, .int .i64, .int .i64, .int .i64] x2), .c (.int .i64 x3)], .c (.int .i64 x4)] := PureC_vc mo h52 (by kernel_rfl) hS (w52  h)
theorem p52 (x1 : List (List C)) {its : List I4} (hl : its.length ≤ 1000000) (la : Int) {m : Nat} (hm : m < its.length) : PCg Try.prog 52 S52 [kW] [agR x1 (row4 its) la, iC m] := by
  refine pc52 (e52 ..) ?_
  unfold vc52
  simp only [stdE, baseE, List.nil_append, row4_len, decide_eq_true_eq]
  rw [wrap_up rfl (by omega)]
  simp only [toNat_cast, row4_cut, show Int.toNat 0 = 0 from rfl, row4_len, List.drop_zero, List.take_length]
  refine ⟨by omega, by omega, by omega, by simp; omega, by omega, by omega, by omega, by simp; omega, ?_⟩
  rw [row4_append, show row4 (its.take m) = (row4 its).take m from by simp [row4, List.map_take]]
end Go.Proofs.Ytniijahjfbgfpaa.V
