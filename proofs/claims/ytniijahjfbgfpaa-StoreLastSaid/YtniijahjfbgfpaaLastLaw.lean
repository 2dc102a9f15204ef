/- Warehouses: a roll that is moved, or put in again, comes last. No conditions. -/
import Derived.Test.YtniijahjfbgfpaaGL
import Derived.Test.YtniijahjfbgfpaaLaw2
set_option linter.unusedVariables false
set_option linter.unusedSimpArgs false
namespace Go.Proofs.Ytniijahjfbgfpaa.V
open Go Go.Eng
set_option maxRecDepth 1000000
set_option maxHeartbeats 1000000
theorem last_bay {bs : List I2} {b : Int} (hb : isB bs b = true) {p : List I5} {r t w tn : Int} : bayL bs (p ++ [(r, b, t, w, tn)]) b = (inB p b).map slot3 ++ [(r, b, t)] := by
  rw [bayL_in hb, inB_app, if_pos rfl, List.map_append]
  rfl
theorem last_key {bs : List I2} {tn la : Int} {p : List I5} {x : I5} (h : Inv bs tn la (p ++ [x])) : ∀ y ∈ p, x.1 ≠ y.1 := fun y hy e => by
  have hn := h.nd
  simp only [keys, List.map_append, List.nodup_append] at hn
  exact hn.2.2 y.1 (List.mem_map.2 ⟨y, hy, rfl⟩) x.1 (by simp) e.symm
theorem last_take {bs : List I2} {tn la : Int} {p : List I5} {r b t w tn' : Int} (h : Inv bs tn la (p ++ [(r, b, t, w, tn')])) : takO (p ++ [(r, b, t, w, tn')]) tn la r = ⟨p, tn, la, b, 0⟩ := by
  have hk := last_key h
  have hf : fnd (p ++ [(r, b, t, w, tn')]) r = some (r, b, t, w, tn') := fnd_mem h.nd (h := (r, b, t, w, tn')) (by simp)
  have hd : drp (p ++ [(r, b, t, w, tn')]) r = p := by
    unfold drp
    rw [List.filter_append]
    have := drp_self (k := r) (m := p) hk
    unfold drp at this
    rw [this]
    simp
  unfold takO
  rw [hf, hd]
theorem last_none {bs : List I2} {tn la : Int} {p : List I5} {r b t w tn' : Int} (h : Inv bs tn la (p ++ [(r, b, t, w, tn')])) : fnd p r = none := by
  cases e : fnd p r with
  | none => rfl
  | some x => obtain ⟨h1, h2⟩ := fnd_some e; exact absurd h2.symm (last_key h x h1)
theorem last_put {bs : List I2} {tn : Int} {p : List I5} {r b w tn' : Int} (h : Inv bs tn 2147483647 (p ++ [(r, b, 2147483647, w, tn')])) (h1 : 1 ≤ r) (h2 : r ≤ 1000000) (hb : isB bs b = true) :
    putO bs p tn 2147483647 r 1 b 2147483647 = ⟨p ++ [(r, b, 2147483647, 1, tn + 1)], tn + 1, 2147483647, 0, 0⟩ := by
  have hk := last_none h
  have hbd := isB_d hb
  have hbn : ((b.toNat : Nat) : Int) = b := Int.toNat_of_nonneg hbd.1
  have hc := h.cp b.toNat (by omega)
  rw [hbn, cnt_app, if_pos rfl] at hc
  have hbb := h.bb (bs.getD b.toNat z2) (by rw [getD_el (by omega)]; exact List.getElem_mem (by omega))
  have hm : momB 2147483647 = true := by decide
  unfold putO entM
  rw [if_neg (by rw [hm]; simp; omega), if_neg (by rw [hk]; simp), if_neg (by rw [hb]; simp), if_neg (by omega), if_neg (by omega), if_neg (by omega)]
  rw [drp_self fun x hx => last_key h x hx]
theorem last_twice {bs : List I2} {tn la : Int} {p : List I5} {r b t w tn' : Int} (h1 : 1 ≤ r) (h2 : r ≤ 1000000) : (putO bs (p ++ [(r, b, t, w, tn')]) tn la r 1 b 2147483647).e = 6 := by
  have hf : (fnd (p ++ [(r, b, t, w, tn')]) r).isSome = true := by
    unfold fnd
    rw [List.find?_isSome]
    exact ⟨(r, b, t, w, tn'), by simp, by simp⟩
  have hm : momB 2147483647 = true := by decide
  unfold putO
  rw [if_neg (by rw [hm]; simp; omega), if_pos hf]
theorem ent_ok {bs : List I2} {hs : List I5} {tn la r w b t : Int} (h : (entM bs hs tn la r w b t).e = 0) : entM bs hs tn la r w b t = ⟨drp hs r ++ [(r, b, t, w, tn + 1)], tn + 1, t, 0, 0⟩ := by
  revert h
  unfold entM
  repeat' split
  · intro he; cases he
  · intro he; cases he
  · intro _; rfl
theorem ent_err {bs : List I2} {hs : List I5} {tn la r w b t : Int} (h : (entM bs hs tn la r w b t).e ≠ 0) : (entM bs hs tn la r w b t).hs = hs ∧ (entM bs hs tn la r w b t).tn = tn ∧ (entM bs hs tn la r w b t).la = la := by
  revert h
  unfold entM
  repeat' split
  · intro _; exact ⟨rfl, rfl, rfl⟩
  · intro _; exact ⟨rfl, rfl, rfl⟩
  · intro h; exact absurd rfl h
theorem put_err {bs : List I2} {hs : List I5} {tn la r w b t : Int} (h : (putO bs hs tn la r w b t).e ≠ 0) : (putO bs hs tn la r w b t).hs = hs ∧ (putO bs hs tn la r w b t).tn = tn ∧ (putO bs hs tn la r w b t).la = la := by
  revert h
  unfold putO
  repeat' split
  all_goals first | (intro _; exact ⟨rfl, rfl, rfl⟩) | exact ent_err
theorem put_ok {bs : List I2} {hs : List I5} {tn la r w b t : Int} (h : (putO bs hs tn la r w b t).e = 0) : putO bs hs tn la r w b t = ⟨drp hs r ++ [(r, b, t, w, tn + 1)], tn + 1, t, 0, 0⟩ ∧ 1 ≤ r ∧ r ≤ 1000000 ∧ isB bs b = true := by
  revert h
  unfold putO
  split
  · intro h; cases h
  split
  · intro h; cases h
  split
  · intro h; cases h
  split
  · intro h; cases h
  rename_i h1 h2 h3 h4
  intro h
  exact ⟨ent_ok h, by omega, by omega, by simpa using h3⟩
theorem mov_ok {bs : List I2} {hs : List I5} {tn la r b t : Int} (h : (movO bs hs tn la r b t).e = 0) : ∃ x, fnd hs r = some x ∧ movO bs hs tn la r b t = ⟨drp hs r ++ [(r, b, t, widOf x, tn + 1)], tn + 1, t, 0, 0⟩ ∧ isB bs b = true := by
  revert h
  unfold movO
  split
  · intro h; cases h
  rename_i x hf
  split
  · intro h; cases h
  split
  · intro h; cases h
  split
  · intro h; cases h
  split
  · intro h; cases h
  rename_i h1 h2 h3 h4
  intro h
  exact ⟨x, hf, ent_ok h, by simpa using h1⟩
theorem inB_le (p : List I5) (b : Int) : (inB p b).length ≤ p.length := List.length_filter_le _ _
def S8 : List A → List C := fun _ => [.bool true]
def tbl8 : FuncId → List A → List C := fun f ds => match f with
  | 11 => S11 ds
  | 19 => S19 ds
  | _ => []
theorem pc8 (ce12 : DoC Try.prog 12) (ce17 : BayC Try.prog 17) (ce24 : NewC Try.prog 24) (ce25 : TakeC Try.prog 25) (ce26 : PutC Try.prog 26) (ce27 : MoveC Try.prog 27) {x1 : List (List C)} {x2 : List (List C)} {x3 : Int} {x4 : Int} {x5 : Int} {x6 : Int} {x7 : Int} {row : List C} (hS : S8 [.c (.sl [.int .i64, .int .i64] x1), .c (.sl [.int .i64, .int .i64, .int .i64, .int .i64, .int .i64] x2), .agg [.c (.int .i64 x3), .c (.int .i64 x4), .c (.int .i64 x5), .c (.int .i64 x6), .c (.int .i64 x7)]] = row) (h : vc8 (stdE Try.prog tbl8) x1 x2 x3 x4 x5 x6 x7 fun c => c = row) : PCg Try.prog 8 S8 [(false, [.bool])] [.c (.sl [.int .i64, .int .i64] x1), .c (.sl [.int .i64, .int .i64, .int .i64, .int .i64, .int .i64] x2), .agg [.c (.int .i64 x3), .c (.int .i64 x4), .c (.int .i64 x5), .c (.int .i64 x6), .c (.int .i64 x7)]] := PureC_vc mo h8 (by kernel_rfl) hS (w8 ce12 ce17 ce24 ce25 ce26 ce27 h)
theorem p8 (bs : List I2) (l : List I5) (k r w b t : Int) : PureC Try.prog 8 [kB] [s2 (row2 bs), s5 (row5 l), opA k r w b t] fun _ => .bool true := by
  refine PureC.one (get := fun i => (S8 [s2 (row2 bs), s5 (row5 l), opA k r w b t]).getD i .nil) (pc8 c12 c17 c24 c25 c26 c27 (row := [.bool true]) rfl ?_) rfl
  unfold vc8
  simp only [stdE, baseE, Br_iff, Imp_iff, tbl8, forall_eq, row5_len, row2_len]
  simp only [p11, implies_true, true_and]
  simp only [e11, List.getD_cons_zero, gb_bool, bite_orP, Bool.decide_eq_true, Bool.or_eq_true, Bool.or_eq_false_iff, decide_eq_true_eq, decide_eq_false_iff_not]
  refine ⟨fun _ => trivial, fun hlen => spNew_of rfl (fun he => ⟨fun _ => ?_, fun h => ?_⟩) fun he => ⟨fun h => ?_, fun _ => ?_⟩⟩
  · simp [he]
  · simp at h
  · simp at h
  refine do_loop (l := l) (by omega) he fun es tn la hs hw hle htn => ?_
  have htn0 : tn ≤ 120 := by omega
  refine ⟨bs, hs, rfl, hw, by omega, fun es' hw' => ?_⟩
  by_cases hpe : (putO bs hs tn la r w b 2147483647).e = 0
  · obtain ⟨ho, hr1, hr2, hb⟩ := put_ok hpe
    rw [ho] at hw' ⊢
    dsimp only at hw' ⊢
    refine ⟨fun c => absurd c (by simp), fun _ => ⟨fun c => absurd c (by simp), fun _ => ?_⟩⟩
    generalize hp : drp hs r = p at hw'
    have hpl : (inB p b).length ≤ 1000 := by
      have h1 := inB_le p b
      have h2 := hw'.inv.ln
      simp at h2
      omega
    have hw2 := hw'
    generalize htn2 : tn + 1 = tn2 at hw2 hw' ⊢
    have : tn2 ≤ 200 := by omega
    generalize es' = es2 at hw2 ⊢
    refine ⟨bs, _, rfl, hw2, by omega, ?_⟩
    rw [bayE_in hb, last_bay hb]
    generalize hq : (inB p b).map slot3 = q
    have hql : q.length ≤ 1000 := by rw [← hq, List.length_map]; exact hpl
    have hlen : ((row3 (q ++ [(r, b, 2147483647)])).length : Int) = (q.length : Int) + 1 := by rw [row3_len]; simp
    rw [hlen, wrap_in (n := (q.length : Int) + 1 - 1) (by omega) (by omega)]
    have hnat : ((q.length : Int) + 1 - 1).toNat = q.length := by omega
    have hgq : (q ++ [(r, b, (2147483647 : Int))]).getD q.length z3 = (r, b, 2147483647) := by simp [List.getD]
    simp only [hnat, row3_c0, row3_c1, row3_c2, hgq]
    refine ⟨fun _ => by omega, fun _ => by omega, fun c => ?_, fun _ => ?_⟩
    · exfalso; rcases c with (c | c) | c
      · simp at c
      · have := beq_iff_eq.1 c; omega
      · simp at c
    refine ⟨bs, _, rfl, hw2, by omega, fun es3 hw3 => ?_⟩
    rw [last_take hw2.inv] at hw3 ⊢
    dsimp only at hw3 ⊢
    have hput := last_put hw2.inv hr1 hr2 hb
    refine ⟨bs, _, rfl, hw3, by omega, fun es4 hw4 => ?_⟩
    rw [hput] at hw4 ⊢
    dsimp only at hw4 ⊢
    refine ⟨bs, _, rfl, hw4, by omega, ?_⟩
    rw [bayE_in hb, last_bay hb, hq]
    refine ⟨fun _ => p19 (by simp; omega) _, ?_⟩
    rw [e19]
    refine ⟨fun _ => ?_, fun c => ?_⟩
    · refine ⟨bs, _, rfl, hw4, by omega, fun es5 hw5 => ?_⟩
      rw [show (putO bs (p ++ [(r, b, 2147483647, 1, tn2 + 1)]) (tn2 + 1) 2147483647 r 1 b 2147483647).e = 6 from last_twice hr1 hr2]
      simp [gb_bool]
    · exfalso; simp [gb_bool] at c
  · obtain ⟨q1, q2, q3⟩ := put_err hpe
    rw [q1, q2, q3] at hw'
    rw [q2, q3]
    refine ⟨fun _ => ?_, fun c => absurd (by simpa using c) hpe⟩
    refine ⟨bs, hs, rfl, hw', by omega, fun es'' hw'' => ?_⟩
    by_cases hme : (movO bs hs tn la r b 2147483647).e = 0
    · obtain ⟨x, hf, ho, hb⟩ := mov_ok hme
      have hr1 : 1 ≤ r := (fnd_some hf).2 ▸ hw.inv.ro x (fnd_some hf).1
      have hr2 : r ≤ 1000000 := (fnd_some hf).2 ▸ hle x (fnd_some hf).1
      rw [ho] at hw'' ⊢
      dsimp only at hw'' ⊢
      refine ⟨fun c => absurd c (by simp), fun _ => ?_⟩
      generalize hp : drp hs r = p at hw''
      have hpl : (inB p b).length ≤ 1000 := by
        have h1 := inB_le p b
        have h2 := hw''.inv.ln
        simp at h2
        omega
      have hw2 := hw''
      generalize htn2 : tn + 1 = tn2 at hw2 hw'' ⊢
      have : tn2 ≤ 200 := by omega
      generalize es'' = es2 at hw2 ⊢
      refine ⟨bs, _, rfl, hw2, by omega, ?_⟩
      rw [bayE_in hb, last_bay hb]
      generalize hq : (inB p b).map slot3 = q
      have hql : q.length ≤ 1000 := by rw [← hq, List.length_map]; exact hpl
      have hlen : ((row3 (q ++ [(r, b, 2147483647)])).length : Int) = (q.length : Int) + 1 := by rw [row3_len]; simp
      rw [hlen, wrap_in (n := (q.length : Int) + 1 - 1) (by omega) (by omega)]
      have hnat : ((q.length : Int) + 1 - 1).toNat = q.length := by omega
      have hgq : (q ++ [(r, b, (2147483647 : Int))]).getD q.length z3 = (r, b, 2147483647) := by simp [List.getD]
      simp only [hnat, row3_c0, row3_c1, row3_c2, hgq]
      refine ⟨fun _ => by omega, fun _ => by omega, fun c => ?_, fun _ => ?_⟩
      · exfalso; rcases c with (c | c) | c
        · simp at c
        · have := beq_iff_eq.1 c; omega
        · simp at c
      refine ⟨bs, _, rfl, hw2, by omega, fun es3 hw3 => ?_⟩
      rw [last_take hw2.inv] at hw3 ⊢
      dsimp only at hw3 ⊢
      have hput := last_put hw2.inv hr1 hr2 hb
      refine ⟨bs, _, rfl, hw3, by omega, fun es4 hw4 => ?_⟩
      rw [hput] at hw4 ⊢
      dsimp only at hw4 ⊢
      refine ⟨bs, _, rfl, hw4, by omega, ?_⟩
      rw [bayE_in hb, last_bay hb, hq]
      refine ⟨fun _ => p19 (by simp; omega) _, ?_⟩
      rw [e19]
      refine ⟨fun _ => ?_, fun c => ?_⟩
      · refine ⟨bs, _, rfl, hw4, by omega, fun es5 hw5 => ?_⟩
        rw [show (putO bs (p ++ [(r, b, 2147483647, 1, tn2 + 1)]) (tn2 + 1) 2147483647 r 1 b 2147483647).e = 6 from last_twice hr1 hr2]
        simp [gb_bool]
      · exfalso; simp [gb_bool] at c
    · refine ⟨fun _ => trivial, fun c => ?_⟩
      exfalso
      simp [hpe, hme] at c
end Go.Proofs.Ytniijahjfbgfpaa.V
