/- Warehouses: rolls leave a bay in the order in which they came. No conditions. -/
import Derived.Test.YtniijahjfbgfpaaGF
import Derived.Test.YtniijahjfbgfpaaLaw2
set_option linter.unusedVariables false
set_option linter.unusedSimpArgs false
namespace Go.Proofs.Ytniijahjfbgfpaa.V
open Go Go.Eng
set_option maxRecDepth 1000000
set_option maxHeartbeats 1000000
theorem find_congr {α : Type} {p q : α → Bool} : ∀ {l : List α}, (∀ x ∈ l, p x = q x) → l.find? p = l.find? q
  | [], _ => rfl
  | x :: l, h => by rw [List.find?_cons, List.find?_cons, h x (by simp), find_congr fun y hy => h y (by simp [hy])]
theorem inB_drp (hs : List I5) (r b : Int) : inB (drp hs r) b = drp (inB hs b) r := by
  unfold inB drp
  rw [List.filter_filter, List.filter_filter]
  exact List.filter_congr fun h _ => Bool.and_comm _ _
/-- The oldest of rolls of one bay. -/
theorem old_bay {hs : List I5} {k : Int} {ks : List Int} (hk : ∀ h ∈ hs, h.1 ∈ ks ↔ bayOf h = k) : oldR (hs.map itm) ks = match inB hs k with
    | [] => [.int .i64 0, .int .i64 7]
    | x :: _ => [.int .i64 x.1, .int .i64 0] := by
  have e1 : (hs.map itm).find? (fun x => ks.any fun k => k == x.1) = (hs.find? fun h => ks.any fun k => k == h.1).map itm := by rw [List.find?_map]; rfl
  have e2 : (hs.find? fun h => ks.any fun k => k == h.1) = hs.find? fun h => decide (bayOf h = k) := find_congr fun h hh => by
    rw [Bool.eq_iff_iff]
    simp only [decide_eq_true_eq]
    rw [← hk h hh]
    simp
  unfold oldR
  rw [e1, e2, ← List.head?_filter]
  show (match ((inB hs k).head?).map itm with | some x => _ | none => _) = _
  cases inB hs k with
  | nil => rfl
  | cons x xs => rfl
theorem find_gone {hs : List I5} {r : Int} : rfV ((drp hs r).map itm) r = [.int .i64 0, .int .i64 0, .int .i64 0, .bool false] := by
  unfold rfV
  rw [fnd4_map]
  cases h : fnd (drp hs r) r with
  | none => rfl
  | some x => obtain ⟨h1, h2⟩ := fnd_some h; exact absurd h2 (mem_drp.1 h1).2
def S6 : List A → List C := fun _ => [.bool true]
def tbl6 : FuncId → List A → List C := fun f ds => match f with
  | 11 => S11 ds
  | 20 => S20 ds
  | 22 => S22 ds
  | _ => []
theorem pc6 (ce12 : DoC Try.prog 12) (ce15 : FreeC Try.prog 15) (ce17 : BayC Try.prog 17) (ce24 : NewC Try.prog 24) (ce25 : TakeC Try.prog 25) {x1 : List (List C)} {x2 : List (List C)} {x3 : Int} {row : List C} (hS : S6 [.c (.sl [.int .i64, .int .i64] x1), .c (.sl [.int .i64, .int .i64, .int .i64, .int .i64, .int .i64] x2), .c (.int .u8 x3)] = row) (h : vc6 (stdE Try.prog tbl6) x1 x2 x3 fun c => c = row) : PCg Try.prog 6 S6 [(false, [.bool])] [.c (.sl [.int .i64, .int .i64] x1), .c (.sl [.int .i64, .int .i64, .int .i64, .int .i64, .int .i64] x2), .c (.int .u8 x3)] := PureC_vc mo h6 (by kernel_rfl) hS (w6 ce12 ce15 ce17 ce24 ce25 h)
theorem p6 (bs : List I2) (l : List I5) {x : Int} (hx1 : 0 ≤ x) (hx2 : x ≤ 255) : PureC Try.prog 6 [kB] [s2 (row2 bs), s5 (row5 l), .c (.int .u8 x)] fun _ => .bool true := by
  refine PureC.one (get := fun i => (S6 [s2 (row2 bs), s5 (row5 l), .c (.int .u8 x)]).getD i .nil) (pc6 c12 c15 c17 c24 c25 (row := [.bool true]) rfl ?_) rfl
  unfold vc6
  simp only [stdE, baseE, Br_iff, Imp_iff, tbl6, forall_eq, row5_len, row2_len]
  simp only [p11, implies_true, true_and]
  simp only [e11, List.getD_cons_zero, gb_bool, bite_orP, Bool.decide_eq_true, Bool.or_eq_true, Bool.or_eq_false_iff, decide_eq_true_eq, decide_eq_false_iff_not]
  refine ⟨fun _ => trivial, fun hlen => spNew_of rfl (fun he => ⟨fun _ => ?_, fun h => ?_⟩) fun he => ⟨fun h => ?_, fun _ => ?_⟩⟩
  · simp [he]
  · simp at h
  · exfalso
    have hb0 := (Wh.nil he).inv.bl
    rcases h with h | h
    · simp at h
    · have := beq_iff_eq.1 h; omega
  refine do_loop (l := l) (by omega) he fun es tn la hs hw _ htn => ?_
  have htn0 : tn ≤ 120 := by omega
  have hbl := hw.inv.bl
  rw [wrap_in (n := x) (by omega) (by omega)]
  have hkn : Int.tmod x (bs.length : Int) = ((x.toNat % bs.length : Nat) : Int) := by
    have hxn : x = (x.toNat : Int) := by omega
    rw [hxn]
    rfl
  have hklt : x.toNat % bs.length < bs.length := Nat.mod_lt _ (by omega)
  rw [hkn]
  generalize x.toNat % bs.length = k at hklt
  have hb := isB_nat hklt
  refine ⟨by rw [beq_eq_false_iff_ne]; omega, bs, hs, rfl, hw, by omega, ?_⟩
  rw [bayE_in hb, bayL_in hb]
  generalize hz : inB hs k = zs
  have hzl : zs.length ≤ 120 := by
    rw [← hz]
    have h1 := List.length_filter_le (fun h => decide (bayOf h = (k : Int))) hs
    have h2 := hw.inv.ln
    unfold inB
    omega
  have hzm : ∀ z ∈ zs, z ∈ hs ∧ bayOf z = k := fun z hzz => by rw [← hz] at hzz; exact mem_inB.1 hzz
  have hzn : (keys zs).Nodup := by
    rw [← hz]
    exact hw.inv.nd.sublist (List.Sublist.map _ List.filter_sublist)
  have hrl : ((row3 (zs.map slot3)).length : Int) = zs.length := by rw [row3_len, List.length_map]
  simp only [hrl]
  refine ⟨fun c => ?_, fun _ => ?_⟩
  · exfalso
    rcases c with c | c
    · simp at c
    · omega
  refine LoopP2.run (fun n : Nat => rowsI ((zs.reverse.take n).map (·.1))) (fun n => (n : Int)) (fun n => n ≤ zs.length) (fun n => zs.length - n) 0 (Nat.zero_le _) rfl rfl ?_
  intro n hn J hJ
  refine ⟨fun h => ?_, fun h => ?_⟩
  · have h1 : n < zs.length := by omega
    rw [wrap_in (n := (zs.length : Int) - 1) (by omega) (by omega), wrap_in (n := (zs.length : Int) - 1 - n) (by omega) (by omega)]
    have hidx : ((zs.length : Int) - 1 - n).toNat = zs.length - 1 - n := by omega
    refine ⟨by omega, by omega, by simp [rowsI_len]; omega, ?_⟩
    refine hJ _ _ (n + 1) (by omega) (by omega) ?_ (wrap_up rfl (by omega))
    rw [hidx, row3_c0, getD_el (by rw [List.length_map]; omega), List.getElem_map]
    rw [List.take_add_one, List.getElem?_eq_getElem (by rw [List.length_reverse]; exact h1), List.map_append, rowsI_app, List.getElem_reverse]
    rfl
  · have hnl : n = zs.length := by omega
    subst hnl
    have htk : zs.reverse.take zs.length = zs.reverse := by rw [← List.length_reverse, List.take_length]
    rw [htk]
    generalize hks : zs.reverse.map (·.1) = ks
    have hkm : ∀ a, a ∈ ks ↔ ∃ z ∈ zs, z.1 = a := fun a => by
      rw [← hks]
      simp only [List.mem_map, List.mem_reverse]
    have hkl : ks.length ≤ 1000000 := by rw [← hks]; simp; omega
    refine LoopP4.run (fun g : (List (Int × List C) × Int × Int) × List I5 × Nat => g.1.1) (fun g => g.1.2.1) (fun g => g.1.2.2) (fun g => (g.2.2 : Int)) (fun g => g.2.2 ≤ zs.length ∧ Wh bs g.1.1 g.1.2.1 g.1.2.2 g.2.1 ∧ g.1.2.1 ≤ 120 ∧ inB g.2.1 k = zs.drop g.2.2 ∧ ∀ h ∈ g.2.1, h ∈ hs) (fun g => zs.length - g.2.2) ((es, tn, la), hs, 0) ⟨Nat.zero_le _, hw, htn0, hz, fun h hh => hh⟩ rfl rfl rfl rfl ?_
    rintro ⟨⟨es1, tn1, la1⟩, hs1, i⟩ ⟨hi, hw1, ht1, hin, hsub⟩ K hK
    dsimp only at hi hw1 ht1 hin hsub ⊢
    refine ⟨fun c => ?_, fun c => ?_⟩
    · have h1 : i < zs.length := by omega
      have hd : zs.drop i = zs[i] :: zs.drop (i + 1) := List.drop_eq_getElem_cons h1
      have hold : oldR (hs1.map itm) ks = [.int .i64 zs[i].1, .int .i64 0] := by
        rw [old_bay (k := k) fun h hh => ?_, hin, hd]
        rw [hkm]
        constructor
        · rintro ⟨z, hz1, hz2⟩
          obtain ⟨g1, g2⟩ := hzm z hz1
          rw [key_unique hw.inv.nd (hsub h hh) g1 hz2.symm]
          exact g2
        · intro hbk
          exact ⟨h, by rw [← hz]; exact mem_inB.2 ⟨hsub h hh, hbk⟩, rfl⟩
      have hmem : zs[i] ∈ hs1 ∧ bayOf zs[i] = k := mem_inB.1 (by rw [hin, hd]; exact List.mem_cons.2 (.inl rfl))
      have hfnd : fnd hs1 zs[i].1 = some zs[i] := fnd_mem hw1.inv.nd hmem.1
      refine ⟨p22 _ _ _ _ hkl, ?_⟩
      rw [e22, old_same hw1, hold]
      simp only [List.getD_cons_zero, List.getD_cons_succ, gi_int]
      refine ⟨bs, hs1, rfl, hw1, by omega, fun es2 hw2 => ?_⟩
      have htk : takO hs1 tn1 la1 zs[i].1 = ⟨drp hs1 zs[i].1, tn1, la1, bayOf zs[i], 0⟩ := by unfold takO; rw [hfnd]
      rw [htk] at hw2 ⊢
      dsimp only at hw2 ⊢
      refine ⟨fun _ => by omega, fun c => ?_, fun _ => ?_⟩
      · exfalso
        rw [toNat_cast, row3_c0, getD_el (by rw [List.length_map]; exact h1), List.getElem_map, hmem.2] at c
        simp [slot3] at c
      · refine ⟨p20 .., ?_⟩
        rw [e20, find_same hw2, find_gone]
        refine ⟨fun c => ?_, fun _ => ?_⟩
        · exfalso; simp [gb_bool] at c
        · refine hK _ _ _ _ ((es2, tn1, la1), drp hs1 zs[i].1, i + 1) ⟨by dsimp only; omega, hw2, ht1, ?_, fun h hh => hsub h (mem_drp.1 hh).1⟩ (by dsimp only; omega) rfl rfl rfl (wrap_up rfl (by omega))
          dsimp only
          rw [inB_drp, hin, hd]
          have hn2 : (keys (zs[i] :: zs.drop (i + 1))).Nodup := by rw [← hd]; exact hzn.sublist (List.Sublist.map _ (List.drop_sublist _ _))
          simp only [keys, List.map_cons, List.nodup_cons] at hn2
          have e1 : drp (zs[i] :: zs.drop (i + 1)) zs[i].1 = drp (zs.drop (i + 1)) zs[i].1 := by
            unfold drp
            rw [List.filter_cons, if_neg (by simp)]
          rw [e1]
          exact drp_self fun y hy e => hn2.1 (List.mem_map.2 ⟨y, hy, e.symm⟩)
    · have hil : i = zs.length := by omega
      subst hil
      rw [List.drop_length] at hin
      refine ⟨bs, hs1, rfl, hw1, by omega, bs, hs1, rfl, hw1, by omega, ?_⟩
      rw [bayE_in hb, bayL_in hb, hin]
      have hc0 : cnt hs1 k = 0 := by
        show (inB hs1 k).length = 0
        rw [hin]; rfl
      have hfl : ((rowsI (freeL bs hs1)).length : Int) = bs.length := by rw [rowsI_len, free_len]
      have hfk : (cellAt (rowsI (freeL bs hs1)) ((k : Int)).toNat 0).gi = (bs.getD k z2).1 := by
        rw [toNat_cast, rowsI_getD, getD_el (by rw [free_len]; exact hklt)]
        simp only [freeL, List.getElem_map, List.getElem_range, hc0]
        omega
      dsimp only
      rw [hfl, hfk, toNat_cast, row2_c0]
      refine ⟨fun _ => by omega, fun _ => by omega, fun _ => by omega, ?_⟩
      simp [row3]
end Go.Proofs.Ytniijahjfbgfpaa.V
