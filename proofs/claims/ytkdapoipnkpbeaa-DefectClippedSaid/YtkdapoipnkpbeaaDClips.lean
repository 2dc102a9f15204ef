/- Defects: clipped, in the program and in the reference. No conditions. -/
import Derived.Test.YtkdapoipnkpbeaaChk
import Derived.Test.YtkdapoipnkpbeaaGF
set_option linter.unusedVariables false
set_option linter.unusedSimpArgs false
namespace Go.Proofs.Ytkdapoipnkpbeaa.V
open Go Go.Eng
set_option maxRecDepth 1000000
set_option maxHeartbeats 1000000
def S29 : List A → List C := tbl 29
def S46 : List A → List C := tbl 46
theorem p29 (l r a b l' r' a' b' : Int) : PCg Try.prog 29 S29 [kR, kB] [rc l r a b, rc l' r' a' b'] := c28 l r a b l' r' a' b'
theorem p46 (l r a b l' r' a' b' : Int) : PCg Try.prog 46 S46 [kR, kB] [rc l r a b, rc l' r' a' b'] := c29 l r a b l' r' a' b'
theorem e29 (l r a b l' r' a' b' : Int) : S29 [rc l r a b, rc l' r' a' b'] = [zs (comE l r a b l' r' a' b') (mx l l'), zs (comE l r a b l' r' a' b') (mn r r'), zs (comE l r a b l' r' a' b') (mx a a'), zs (comE l r a b l' r' a' b') (mn b b'), .bool (comI l r a b l' r' a' b')] := rfl
theorem e46 (l r a b l' r' a' b' : Int) : S46 [rc l r a b, rc l' r' a' b'] = [zs (comE l r a b l' r' a' b') (mx l l'), zs (comE l r a b l' r' a' b') (mn r r'), zs (comE l r a b l' r' a' b') (mx a a'), zs (comE l r a b l' r' a' b') (mn b b'), .bool (comI l r a b l' r' a' b')] := rfl
/-- It has points in the rectangle; those. -/
def comQ (q : I6) (l r a b : Int) : Bool := comI q.1 q.2.1 q.2.2.1 q.2.2.2.1 l r a b
def cutQ (q : I6) (l r a b : Int) : I6 := (mx q.1 l, mn q.2.1 r, mx q.2.2.1 a, mn q.2.2.2.1 b, q.2.2.2.2.1, q.2.2.2.2.2)
def clpD (rs : List I6) (l r a b : Int) : List I6 := (rs.filter fun q => comQ q l r a b).map fun q => cutQ q l r a b
theorem clpD_len (rs : List I6) (l r a b : Int) : (clpD rs l r a b).length ≤ rs.length := by rw [clpD, List.length_map]; exact List.length_filter_le _ _
def clpE (rs : List I6) (l r a b : Int) : Int := if chk l r a b = 0 then allD rs else chk l r a b
def sClp : List A → List C := fun ds => match ds with
  | [.c (.sl _ xs), .agg [.c (.int _ l), .c (.int _ r), .c (.int _ a), .c (.int _ b)]] => [.sl l6 (row6 (if clpE (un6 xs) l r a b = 0 then clpD (un6 xs) l r a b else [])), .int .i64 (clpE (un6 xs) l r a b)]
  | _ => []
def S27 : List A → List C := sClp
def S28 : List A → List C := sClp
theorem e27 (rs : List I6) (l r a b : Int) : S27 [s6 (row6 rs), rc l r a b] = [.sl l6 (row6 (if clpE rs l r a b = 0 then clpD rs l r a b else [])), .int .i64 (clpE rs l r a b)] := by
  show [C.sl l6 (row6 (if clpE (un6 (row6 rs)) l r a b = 0 then clpD (un6 (row6 rs)) l r a b else [])), C.int .i64 (clpE (un6 (row6 rs)) l r a b)] = _
  rw [un6_row]
theorem e28 (rs : List I6) (l r a b : Int) : S28 [s6 (row6 rs), rc l r a b] = [.sl l6 (row6 (if clpE rs l r a b = 0 then clpD rs l r a b else [])), .int .i64 (clpE rs l r a b)] := e27 rs l r a b
def tbl27 : FuncId → List A → List C := fun f ds => match f with
  | 13 => S13 ds
  | 29 => S29 ds
  | 37 => S37 ds
  | _ => []
theorem pc27  {x1 : List (List C)} {x2 : Int} {x3 : Int} {x4 : Int} {x5 : Int} {row : List C} (hS : S27 [.c (.sl [.int .i64, .int .i64, .int .i64, .int .i64, .int .i64, .int .i64] x1), .agg [.c (.int .i64 x2), .c (.int .i64 x3), .c (.int .i64 x4), .c (.int .i64 x5)]] = row) (h : vc27 (stdE Try.prog tbl27) x1 x2 x3 x4 x5 fun c => c = row) : PCg Try.prog 27 S27 [(false, [.sl [.int .i64, .int .i64, .int .i64, .int .i64, .int .i64, .int .i64]]), (false, [.int .i64])] [.c (.sl [.int .i64, .int .i64, .int .i64, .int .i64, .int .i64, .int .i64] x1), .agg [.c (.int .i64 x2), .c (.int .i64 x3), .c (.int .i64 x4), .c (.int .i64 x5)]] := PureC_vc mo h27 (by kernel_rfl) hS (w27  h)
def tbl28 : FuncId → List A → List C := fun f ds => match f with
  | 14 => S14 ds
  | 38 => S38 ds
  | 46 => S46 ds
  | _ => []
theorem pc28  {x1 : List (List C)} {x2 : Int} {x3 : Int} {x4 : Int} {x5 : Int} {row : List C} (hS : S28 [.c (.sl [.int .i64, .int .i64, .int .i64, .int .i64, .int .i64, .int .i64] x1), .agg [.c (.int .i64 x2), .c (.int .i64 x3), .c (.int .i64 x4), .c (.int .i64 x5)]] = row) (h : vc28 (stdE Try.prog tbl28) x1 x2 x3 x4 x5 fun c => c = row) : PCg Try.prog 28 S28 [(false, [.sl [.int .i64, .int .i64, .int .i64, .int .i64, .int .i64, .int .i64]]), (false, [.int .i64])] [.c (.sl [.int .i64, .int .i64, .int .i64, .int .i64, .int .i64, .int .i64] x1), .agg [.c (.int .i64 x2), .c (.int .i64 x3), .c (.int .i64 x4), .c (.int .i64 x5)]] := PureC_vc mo h28 (by kernel_rfl) hS (w28  h)
theorem p27 {rs : List I6} (hl : rs.length ≤ 1000000) (l r a b : Int) : PCg Try.prog 27 S27 [kS6, kI] [s6 (row6 rs), rc l r a b] := by
  refine pc27 (e27 rs l r a b) ?_
  unfold vc27
  simp only [stdE, baseE, Br_iff, tbl27, p37, p13 hl, p29, true_and, forall_eq, decide_eq_true_eq, decide_eq_false_iff_not, row6_len, row6_c0, row6_c1, row6_c2, row6_c3, row6_c4, row6_c5]
  simp only [e37, e13, e29, List.getD_cons_zero, List.getD_cons_succ, gi_int, gb_bool, Bool.not_eq_true', Bool.not_eq_false', beq_iff_eq, beq_eq_false_iff_ne, ne_eq]
  refine ⟨fun h1 => ?_, fun h1 => ⟨fun h2 => ?_, fun h2 => ?_⟩⟩
  · have : clpE rs l r a b = chk l r a b := by rw [clpE, if_neg h1]
    rw [this, if_neg h1]; rfl
  · have : clpE rs l r a b = allD rs := by rw [clpE, if_pos h1]
    rw [this, if_neg h2]; rfl
  have hE : clpE rs l r a b = 0 := by rw [clpE, if_pos h1, h2]
  rw [hE, if_pos rfl]
  refine LoopP2.run (fun n : Nat => row6 (clpD (rs.take n) l r a b)) (fun n : Nat => (n : Int)) (fun n => n ≤ rs.length) (fun n => rs.length - n) 0 (Nat.zero_le _) rfl rfl ?_
  intro n hn K hK
  simp only [toNat_cast, row6_len]
  refine ⟨fun h3 => ?_, fun h3 => ?_⟩
  · have hlt : n < rs.length := by omega
    have ht : clpD (rs.take (n + 1)) l r a b = _ := filtmap_take (fun q => comQ q l r a b) (fun q => cutQ q l r a b) rs z6 hlt
    have hlen : (clpD (rs.take n) l r a b).length ≤ 1000000 := Nat.le_trans (clpD_len _ _ _ _ _) (by simp; omega)
    generalize rs.getD n z6 = q at *
    refine ⟨by omega, fun h4 => ⟨by simp; omega, hK _ _ (n + 1) hlt (by omega) ?_ (wrap_up rfl (by omega))⟩, fun h4 => hK _ _ (n + 1) hlt (by omega) ?_ (wrap_up rfl (by omega))⟩
    · have h4' : comQ q l r a b = true := h4
      rw [ht, h4', if_pos rfl, row6_append]
      have h5 : comE q.1 q.2.1 q.2.2.1 q.2.2.2.1 l r a b = false := by
        have h6 : (!comE q.1 q.2.1 q.2.2.1 q.2.2.2.1 l r a b) = true := by rw [← com_is]; exact h4
        simpa using h6
      simp only [zs, h5, Bool.false_eq_true, if_false, gi_int]
      rfl
    · have h4' : comQ q l r a b = false := h4
      rw [ht, h4', if_neg (by simp), List.append_nil]
      rfl
  · rw [show n = rs.length by omega, List.take_length]
theorem p28 {rs : List I6} (hl : rs.length ≤ 1000000) (l r a b : Int) : PCg Try.prog 28 S28 [kS6, kI] [s6 (row6 rs), rc l r a b] := by
  refine pc28 (e28 rs l r a b) ?_
  unfold vc28
  simp only [stdE, baseE, Br_iff, tbl28, p38, p14 hl, p46, true_and, forall_eq, decide_eq_true_eq, decide_eq_false_iff_not, row6_len, row6_c0, row6_c1, row6_c2, row6_c3, row6_c4, row6_c5]
  simp only [e38, e14, e46, List.getD_cons_zero, List.getD_cons_succ, gi_int, gb_bool, Bool.not_eq_true', Bool.not_eq_false', beq_iff_eq, beq_eq_false_iff_ne, ne_eq]
  refine ⟨fun h1 => ?_, fun h1 => ⟨fun h2 => ?_, fun h2 => ?_⟩⟩
  · have : clpE rs l r a b = chk l r a b := by rw [clpE, if_neg h1]
    rw [this, if_neg h1]; rfl
  · have : clpE rs l r a b = allD rs := by rw [clpE, if_pos h1]
    rw [this, if_neg h2]; rfl
  have hE : clpE rs l r a b = 0 := by rw [clpE, if_pos h1, h2]
  rw [hE, if_pos rfl]
  refine LoopP2.run (fun n : Nat => row6 (clpD (rs.take n) l r a b)) (fun n : Nat => (n : Int)) (fun n => n ≤ rs.length) (fun n => rs.length - n) 0 (Nat.zero_le _) rfl rfl ?_
  intro n hn K hK
  simp only [toNat_cast, row6_len]
  refine ⟨fun h3 => ?_, fun h3 => ?_⟩
  · have hlt : n < rs.length := by omega
    have ht : clpD (rs.take (n + 1)) l r a b = _ := filtmap_take (fun q => comQ q l r a b) (fun q => cutQ q l r a b) rs z6 hlt
    have hlen : (clpD (rs.take n) l r a b).length ≤ 1000000 := Nat.le_trans (clpD_len _ _ _ _ _) (by simp; omega)
    generalize rs.getD n z6 = q at *
    refine ⟨by omega, fun h4 => ⟨by simp; omega, hK _ _ (n + 1) hlt (by omega) ?_ (wrap_up rfl (by omega))⟩, fun h4 => hK _ _ (n + 1) hlt (by omega) ?_ (wrap_up rfl (by omega))⟩
    · have h4' : comQ q l r a b = true := h4
      rw [ht, h4', if_pos rfl, row6_append]
      have h5 : comE q.1 q.2.1 q.2.2.1 q.2.2.2.1 l r a b = false := by
        have h6 : (!comE q.1 q.2.1 q.2.2.1 q.2.2.2.1 l r a b) = true := by rw [← com_is]; exact h4
        simpa using h6
      simp only [zs, h5, Bool.false_eq_true, if_false, gi_int]
      rfl
    · have h4' : comQ q l r a b = false := h4
      rw [ht, h4', if_neg (by simp), List.append_nil]
      rfl
  · rw [show n = rs.length by omega, List.take_length]
end Go.Proofs.Ytkdapoipnkpbeaa.V
