/- Ledgers: sums over accounts. No conditions. -/
import Derived.Test.YtlmllogbaacoeaaLed
import Derived.Test.YtlmllogbaacoeaaAcc
set_option linter.unusedVariables false
set_option linter.unusedSimpArgs false
namespace Go.Proofs.Ytlmllogbaacoeaa.V
open Go Go.Eng
set_option maxRecDepth 1000000
set_option maxHeartbeats 1000000
/-- The sum of f over a list. -/
def sumL (f : Int → Int) : List Int → Int
  | [] => 0
  | a :: r => f a + sumL f r
theorem sumL_app (f : Int → Int) (l : List Int) (a : Int) : sumL f (l ++ [a]) = sumL f l + f a := by
  induction l with
  | nil => simp [sumL]
  | cons b r ih => simp only [List.cons_append, sumL, ih]; omega
theorem sumL_add (f g : Int → Int) (l : List Int) : sumL (fun k => f k + g k) l = sumL f l + sumL g l := by
  induction l with
  | nil => rfl
  | cons b r ih => simp only [sumL, ih]; omega
theorem sumL_zero {f : Int → Int} {l : List Int} (h : ∀ k ∈ l, f k = 0) : sumL f l = 0 := by
  induction l with
  | nil => rfl
  | cons b r ih => simp only [sumL, h b (by simp), ih fun k hk => h k (by simp [hk])]; rfl
theorem sumL_congr {f g : Int → Int} {l : List Int} (h : ∀ k ∈ l, f k = g k) : sumL f l = sumL g l := by
  induction l with
  | nil => rfl
  | cons b r ih => simp only [sumL, h b (by simp), ih fun k hk => h k (by simp [hk])]
theorem sumL_abs {f : Int → Int} {b : Int} {l : List Int} (h : ∀ k ∈ l, -b ≤ f k ∧ f k ≤ b) : -((l.length : Int) * b) ≤ sumL f l ∧ sumL f l ≤ (l.length : Int) * b := by
  induction l with
  | nil => simp [sumL]
  | cons a r ih =>
    have h1 := ih fun k hk => h k (by simp [hk])
    have h2 := h a (by simp)
    have e : ((a :: r).length : Int) * b = r.length * b + b := by rw [List.length_cons, Int.natCast_add, Int.add_mul]; simp
    rw [e, sumL]
    omega
/-- One account of several without twins. -/
theorem sumL_one {c v : Int} {l : List Int} (hn : l.Nodup) (hc : c ∈ l) : sumL (fun k => if c = k then v else 0) l = v := by
  induction l with
  | nil => cases hc
  | cons a r ih =>
    have h1 := List.nodup_cons.1 hn
    rw [sumL]
    by_cases e : c = a
    · subst e
      rw [if_pos rfl, sumL_zero fun k hk => if_neg (by rintro rfl; exact h1.1 hk)]; omega
    · rw [if_neg e, ih h1.2 ((List.mem_cons.1 hc).resolve_left e)]; omega
theorem sumL_items {its : List I2} {l : List Int} (hn : l.Nodup) (hc : ∀ x ∈ its, x.1 ∈ l) : ∀ n, n ≤ its.length → sumL (fun k => sumTo (itemK its k) n) l = sumTo (amt its) n
  | 0, _ => sumL_zero fun k _ => rfl
  | n + 1, h => by
    have e : sumL (fun k => sumTo (itemK its k) (n + 1)) l = sumL (fun k => sumTo (itemK its k) n + itemK its k n) l := rfl
    rw [e, sumL_add, sumL_items hn hc n (by omega), sumTo]
    congr 1
    refine sumL_one hn ?_
    unfold acc
    rw [getD_get (show n < its.length by omega)]
    exact hc _ (List.getElem_mem _)
/-- The balances of all accounts add up to zero. -/
theorem sumL_bal {l : List Int} (hn : l.Nodup) (t : Int) : ∀ {ps : List PT}, (∀ p ∈ ps, chkP p = 0) → (∀ k, k ∈ accL ps → k ∈ l) → sumL (fun k => balT ps k t) l = 0 := by
  intro ps
  refine snoc_ind (M := fun ps => (∀ p ∈ ps, chkP p = 0) → (∀ k, k ∈ accL ps → k ∈ l) → sumL (fun k => balT ps k t) l = 0) (fun _ _ => sumL_zero fun k _ => rfl) (fun ps p ih h hk => ?_) ps
  have e : (fun k => balT (ps ++ [p]) k t) = fun k => balT ps k t + if p.2.1 ≤ t then amtK p.2.2 k else 0 := funext fun k => balT_app ps p k t
  have hp := chk_ok (h p (by simp))
  have hk1 : ∀ k, k ∈ accL ps → k ∈ l := fun k hm => hk k (by unfold accL at hm ⊢; rw [List.flatMap_append]; exact List.mem_append_left _ hm)
  have hk2 : ∀ x ∈ p.2.2, x.1 ∈ l := fun x hx => hk x.1 (by
    unfold accL
    rw [List.flatMap_append]
    refine List.mem_append_right _ ?_
    simp only [List.flatMap_cons, List.flatMap_nil, List.append_nil]
    exact List.mem_map_of_mem hx)
  rw [e, sumL_add, ih (fun q hq => h q (List.mem_append_left _ hq)) hk1]
  by_cases ht : p.2.1 ≤ t
  · have e2 : sumL (fun k => if p.2.1 ≤ t then amtK p.2.2 k else 0) l = sumL (fun k => sumTo (itemK p.2.2 k) p.2.2.length) l := sumL_congr fun k _ => by rw [if_pos ht]; rfl
    rw [e2, sumL_items hn hk2 _ (Nat.le_refl _), hp.2.2.2.2.2.2.2]; rfl
  · rw [sumL_zero (f := fun k => if p.2.1 ≤ t then amtK p.2.2 k else 0) fun k _ => if_neg ht]; rfl
theorem lt_nodup {l : List Int} (h : l.Pairwise (· < ·)) : l.Nodup := h.imp fun h e => by omega
/-- No balance is out of range. -/
def InR (ps : List PT) : Prop := ∀ k, -1000000000000 ≤ bal ps k ∧ bal ps k ≤ 1000000000000
theorem amtK_none {its : List I2} {k : Int} (h : ∀ x ∈ its, x.1 ≠ k) : amtK its k = 0 := by
  unfold amtK
  refine sumTo_zero fun i hi => ?_
  unfold itemK
  refine if_neg ?_
  unfold acc
  rw [getD_get hi]
  exact h _ (List.getElem_mem _)
theorem inR_next {ps : List PT} {p : PT} (h : InR ps) (he : postE ps p = 0) : InR (ps ++ [p]) := fun k => by
  have hp := post_ok he
  by_cases hk : ∃ x ∈ p.2.2, x.1 = k
  · obtain ⟨x, hx, rfl⟩ := hk
    have ho := hp.2.2.2.1
    unfold ovfB at ho
    rw [List.any_eq_false] at ho
    have := ho x hx
    simp only [decide_eq_true_eq] at this
    omega
  · rw [bal_app _ hp.1, amtK_none fun x hx e => hk ⟨x, hx, e⟩]
    have := h k
    omega
theorem led_inR (qs : List PT) : ∀ n, InR (led qs n)
  | 0 => fun k => by show -1000000000000 ≤ (0 : Int) ∧ (0 : Int) ≤ 1000000000000; omega
  | n + 1 => by
    show InR (next (led qs n) (qs.getD n zP))
    unfold next
    split
    · exact inR_next (led_inR qs n) (by assumption)
    · exact led_inR qs n
theorem balT_all {ps : List PT} (h : ∀ p ∈ ps, chkP p = 0) (k : Int) : balT ps k 2147483647 = bal ps k := rfl
theorem balT_b {ps : List PT} (h : ∀ p ∈ ps, chkP p = 0) (hl : ps.length ≤ 80) (k t : Int) : -1280000000000000 ≤ balT ps k t ∧ balT ps k t ≤ 1280000000000000 := by
  have := sumTo_abs (f := postK ps k t) (b := 16000000000000) (n := ps.length) fun i _ => postK_b h k t i
  unfold balT
  omega
theorem sumL_take (f : Int → Int) {l : List Int} {n : Nat} (h : n < l.length) : sumL f (l.take (n + 1)) = sumL f (l.take n) + f (l.getD n 0) := by
  rw [List.take_succ_eq_append_getElem h, sumL_app, getD_get h]
end Go.Proofs.Ytlmllogbaacoeaa.V
