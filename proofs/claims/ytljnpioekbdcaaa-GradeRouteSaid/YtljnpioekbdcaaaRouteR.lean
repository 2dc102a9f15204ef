/- Routes: in the program and in the reference. No conditions. -/
import Derived.Test.YtljnpioekbdcaaaRouteQ
import Derived.Test.YtljnpioekbdcaaaChkLaw
import Derived.Test.YtljnpioekbdcaaaLays
set_option linter.unusedVariables false
set_option linter.unusedSimpArgs false
namespace Go.Proofs.Ytljnpioekbdcaaa.V
open Go Go.Eng
set_option maxRecDepth 1000000
set_option maxHeartbeats 1000000
theorem sort39C : OnArr spSort [.int .i64] Try.prog 39 := sortC Try.sort39 (by kernel_rfl)
/-! ### Lists without twins -/
theorem dedA_nodup : ∀ (l : List Int), l.Pairwise (· ≤ ·) → ((dedA l).length = l.length ↔ l.Nodup)
  | [], _ => by simp [dedA]
  | [a], _ => by simp [dedA]
  | a :: b :: r, h => by
    have ih := dedA_nodup (b :: r) (List.pairwise_cons.1 h).2
    have hle := dedA_len (b :: r)
    rw [dedA_cons]
    by_cases e : a = b
    · rw [if_pos e]
      refine ⟨fun q => ?_, fun q => ?_⟩
      · simp at q hle; omega
      · rw [e] at q; simp at q
    · rw [if_neg e, List.nodup_cons]
      have ha : a ∉ b :: r := fun hm => by
        have h1 := (List.pairwise_cons.1 h).1 b (by simp)
        rcases List.mem_cons.1 hm with hm | hm
        · exact e hm
        · have h2 := (List.pairwise_cons.1 (List.pairwise_cons.1 h).2).1 a hm
          omega
      simp only [List.length_cons] at ih ⊢
      refine ⟨fun q => ⟨ha, ih.1 (by omega)⟩, fun q => by have := ih.2 q.2; omega⟩
theorem nodup_take : ∀ (l : List Int), (∀ i, i < l.length → l.getD i 0 ∉ l.take i) ↔ l.Nodup := by
  intro l
  rw [List.nodup_iff_pairwise_ne, List.pairwise_iff_getElem]
  refine ⟨fun h i j hi hj hij e => ?_, fun h j hj hm => ?_⟩
  · refine h j hj ?_
    rw [getD_get hj, ← e]
    exact List.mem_take_iff_getElem.2 ⟨i, by omega, rfl⟩
  · rw [getD_get hj] at hm
    obtain ⟨i, hi, e⟩ := List.mem_take_iff_getElem.1 hm
    exact h i j (by omega) hj (by omega) e
theorem ms_perm (w : List Int) : (w.mergeSort fun x y => decide (x ≤ y)).Perm w := List.mergeSort_perm _ _
theorem ms_sorted (w : List Int) : (w.mergeSort fun x y => decide (x ≤ y)).Pairwise (· ≤ ·) := by
  have := List.pairwise_mergeSort (le := fun x y : Int => decide (x ≤ y)) (fun a b c h1 h2 => by simp at h1 h2 ⊢; omega) (fun a b => by simp; omega) w
  exact this.imp fun h => by simpa using h
/-! ### Put in order -/
def insA (x : Int) (l : List Int) : List Int := l.takeWhile (fun y => decide (y < x)) ++ [x] ++ l.dropWhile (fun y => decide (y < x))
def rsg (w : List Int) : List Int := w.foldl (fun out x => insA x out) []
theorem insA_perm (x : Int) (l : List Int) : (insA x l).Perm (x :: l) := by
  unfold insA
  rw [List.append_assoc, List.singleton_append]
  refine (List.perm_middle).trans ?_
  rw [List.takeWhile_append_dropWhile]
theorem insA_sorted {x : Int} : ∀ {l : List Int}, l.Pairwise (· ≤ ·) → (insA x l).Pairwise (· ≤ ·)
  | [], _ => by simp [insA]
  | a :: l, h => by
    unfold insA
    by_cases q : a < x
    · have ih := insA_sorted (x := x) (List.pairwise_cons.1 h).2
      unfold insA at ih
      simp only [List.takeWhile_cons, List.dropWhile_cons, q, decide_true, if_true, List.cons_append]
      refine List.pairwise_cons.2 ⟨fun y hy => ?_, ih⟩
      have hp := (insA_perm x l).subset
      unfold insA at hp
      rcases List.mem_cons.1 (hp hy) with e | e
      · omega
      · exact (List.pairwise_cons.1 h).1 y e
    · simp only [List.takeWhile_cons, List.dropWhile_cons, q, decide_false, Bool.false_eq_true, if_false, List.nil_append, List.cons_append]
      refine List.pairwise_cons.2 ⟨fun y hy => ?_, h⟩
      rcases List.mem_cons.1 hy with e | e
      · omega
      · have := (List.pairwise_cons.1 h).1 y e; omega
theorem rsg_snoc (w : List Int) (x : Int) : rsg (w ++ [x]) = insA x (rsg w) := by unfold rsg; rw [List.foldl_append]; rfl
theorem rsg_spec (w : List Int) : (rsg w).Perm w ∧ (rsg w).Pairwise (· ≤ ·) := by
  have key : ∀ n, n ≤ w.length → (rsg (w.take n)).Perm (w.take n) ∧ (rsg (w.take n)).Pairwise (· ≤ ·) := by
    intro n
    induction n with
    | zero => intro _; simp [rsg]
    | succ n ih =>
      intro hn
      obtain ⟨h1, h2⟩ := ih (by omega)
      rw [take1 (show n < w.length by omega), rsg_snoc]
      refine ⟨(insA_perm _ _).trans ?_, insA_sorted h2⟩
      exact (h1.cons _).trans (by simpa using (List.perm_append_comm (l₁ := [w.getD n 0]) (l₂ := w.take n)))
  have := key w.length (Nat.le_refl _)
  rwa [List.take_length] at this
theorem sorted_eq : ∀ {l m : List Int}, l.Perm m → l.Pairwise (· ≤ ·) → m.Pairwise (· ≤ ·) → l = m := fun h h1 h2 => h.eq_of_pairwise (fun a b _ _ q1 q2 => by omega) h1 h2
/-- What is left to be ordered. -/
def lft (w : List Int) : List Int := (w.mergeSort fun x y => decide (x ≤ y)).filter fun z => !(z == w.getD 0 0)
theorem lft_rsg {a : Int} {t : List Int} (h : (a :: t).Nodup) : lft (a :: t) = rsg t := by
  refine sorted_eq ?_ ((ms_sorted _).filter _) (rsg_spec t).2
  refine List.Perm.trans ?_ (rsg_spec t).1.symm
  unfold lft
  have hf : (a :: t).filter (fun z => !(z == (a :: t).getD 0 0)) = t := by
    simp only [List.getD_cons_zero, List.filter_cons, beq_self_eq_true, Bool.not_true, Bool.false_eq_true, if_false]
    refine List.filter_eq_self.2 fun z hz => ?_
    have : z ≠ a := fun e => (List.nodup_cons.1 h).1 (e ▸ hz)
    simpa using this
  have := (ms_perm (a :: t)).filter fun z => !(z == (a :: t).getD 0 0)
  rwa [hf] at this
/-! ### What Route gives -/
def outW (n : Nat) (w : List Int) (j : Nat) : Bool := decide (w.getD j 0 < 0 ∨ (n : Int) ≤ w.getD j 0)
def rtE (g : List (List C)) (k : Int) (w : List Int) : Int := if chkE g k ≠ 0 then chkE g k else if 8 < w.length then 8 else if ixF w.length (outW g.length w) 0 ≠ -1 then 7 else if w.Nodup then 0 else 6
def rtL (g : List (List C)) (k : Int) (w : List Int) : List Int := if rtE g k w = 0 ∧ w ≠ [] then best g (lft w).length (w.take 1) (lft w) else []
theorem chk_okG {g : List (List C)} {k : Int} (h : chkE g k = 0) : okG g := by
  intro i hi
  unfold chkE at h
  split at h
  · cases h
  · split at h
    · cases h
    · split at h
      · cases h
      · split at h
        · rename_i q; exact absurd h q
        · rename_i q
          have q' : firstN (oneN g k) g.length 0 = 0 := Classical.not_not.1 q
          have key : ∀ d j, g.length - j = d → firstN (oneN g k) g.length j = 0 → ∀ i, j ≤ i → i < g.length → oneN g k i = 0 := by
            intro d
            induction d with
            | zero => intro j hj _ i h1 h2; omega
            | succ d ih =>
              intro j hj hf i h1 h2
              rw [firstN_lt (by omega)] at hf
              by_cases e : oneN g k j = 0
              · rw [if_pos e] at hf
                by_cases hij : i = j
                · rw [hij]; exact e
                · exact ih (j + 1) (by omega) hf i (by omega) h2
              · rw [if_neg e] at hf; exact absurd hf e
          have h1 := key _ 0 rfl q' i (Nat.zero_le _) hi
          unfold oneN oneE at h1
          split at h1
          · cases h1
          · split at h1
            · cases h1
            · rename_i hb
              unfold badG at hb
              simp only [decide_eq_true_eq] at hb
              omega
theorem out_in {g : List (List C)} {w : List Int} (h : ixF w.length (outW g.length w) 0 = -1) : inG g w := by
  rcases ixF_spec w.length (outW g.length w) _ 0 rfl with ⟨_, h2⟩ | ⟨m, _, _, h3, _⟩
  · intro z hz
    obtain ⟨i, hi, rfl⟩ := List.mem_iff_getElem.1 hz
    have := h2 i (Nat.zero_le _) hi
    unfold outW at this
    rw [getD_get hi] at this
    simp only [decide_eq_false_iff_not] at this
    omega
  · omega
theorem lft_perm {a : Int} {t : List Int} (h : (a :: t).Nodup) : (lft (a :: t)).Perm t := by rw [lft_rsg h]; exact (rsg_spec t).1
def sRt : List A → List C := fun ds => match ds with
  | [.c (.sl _ g), .c (.int _ k), .c (.sl _ xs)] => [.sl [.int .i64] (rowsI (rtL g k (prI xs))), .int .i64 (rtE g k (prI xs))]
  | _ => []
def S22 : List A → List C := sRt
def S23 : List A → List C := sRt
theorem e22 (g : List (List C)) (k : Int) (w : List Int) : S22 [sG g, iC k, sI (rowsI w)] = [.sl [.int .i64] (rowsI (rtL g k w)), .int .i64 (rtE g k w)] := by
  show [C.sl [.int .i64] (rowsI (rtL g k (prI (rowsI w)))), C.int .i64 (rtE g k (prI (rowsI w)))] = _
  rw [prI_rowsI]
theorem e23 (g : List (List C)) (k : Int) (w : List Int) : S23 [sG g, iC k, sI (rowsI w)] = [.sl [.int .i64] (rowsI (rtL g k w)), .int .i64 (rtE g k w)] := e22 g k w
abbrev kL : Bool × List LK := (false, [.sl [.int .i64]])
def tbl22 : FuncId → List A → List C := fun f ds => match f with
  | 12 => S12 ds
  | _ => []
theorem pc22 (ce38 : CloneCO 3 [.int .i64] Try.prog 38) (ce39 : OnArr spSort [.int .i64] Try.prog 39) (ce40 : CompactC 3 [.int .i64] Try.prog 40) (ce41 : DelFuncC 3 42 Try.prog 41) (ce43 : RouteC 9 Try.prog 43) {x1 : List (List C)} {x2 : Int} {x3 : List (List C)} {row : List C} (hS : S22 [.c (.sl [.str, .int .i64, .int .i64, .int .i64, .int .i64, .int .i64, .sl [.int .i64], .int .i64] x1), .c (.int .i64 x2), .c (.sl [.int .i64] x3)] = row) (h : vc22 (stdE Try.prog tbl22) x1 x2 x3 fun c => c = row) : PCg Try.prog 22 S22 [(false, [.sl [.int .i64]]), (false, [.int .i64])] [.c (.sl [.str, .int .i64, .int .i64, .int .i64, .int .i64, .int .i64, .sl [.int .i64], .int .i64] x1), .c (.int .i64 x2), .c (.sl [.int .i64] x3)] := PureC_vc mo h22 (by kernel_rfl) hS (w22 ce38 ce39 ce40 ce41 ce43 h)
theorem p22 {g : List (List C)} (hg : recsB g) (k : Int) (w : List Int) : PCg Try.prog 22 S22 [kL, kI] [sG g, iC k, sI (rowsI w)] := by
  refine pc22 cloneco38 sort39C cpt40 delf41 (route 9) (e22 g k w) ?_
  unfold vc22 spClone spSort spCloneK spCompact spDelFunc
  simp only [stdE, baseE, Br_iff, Imp_iff, tbl22, forall_eq, rowsI_len, rowsI_getD]
  simp only [p12 hg, true_and]
  simp only [e12, List.getD_cons_zero, gi_int]
  simp only [Bool.not_eq_true', Bool.not_eq_false', decide_eq_true_eq, decide_eq_false_iff_not, beq_iff_eq, beq_eq_false_iff_ne, ne_eq]
  have hR : ∀ e : Int, rtE g k w = e → e ≠ 0 → [C.sl [.int .i64] [], C.int .i64 e] = [C.sl [.int .i64] (rowsI (rtL g k w)), .int .i64 (rtE g k w)] := fun e h1 h2 => by
    rw [h1, rtL, if_neg (fun q => h2 (h1 ▸ q.1))]; rfl
  refine ⟨fun h1 => hR _ ?_ h1, fun h1 => ⟨fun h2 => hR _ ?_ (by decide), fun h2 => ?_⟩⟩
  · rw [rtE, if_pos h1]
  · rw [rtE, if_neg (by simpa using h1), if_pos (by omega)]
  have hg0 := chk_okG h1
  have h2' : w.length ≤ 8 := by omega
  refine find_loop (p := outW g.length w) (n := w.length) (A' := fun _ => [C.sl [.int .i64] [], C.int .i64 7] = [C.sl [.int .i64] (rowsI (rtL g k w)), .int .i64 (rtE g k w)]) (B := ixF w.length (outW g.length w) 0 = -1) (by omega) ?_ ?_ ?_ ?_
  · intro j K hj ha hf
    simp only [toNat_cast]
    unfold outW at ha hf
    simp only [decide_eq_true_eq, decide_eq_false_iff_not] at ha hf
    refine ⟨fun _ => ⟨by omega, fun h => ha ?_, fun h => ?_⟩, fun h => by omega⟩
    · by_cases q : w.getD j 0 < 0
      · exact .inl q
      · rw [if_neg q] at h; exact .inr (by simpa using h)
    · rw [wrap_up rfl (by omega)]
      refine hf ?_
      by_cases q : w.getD j 0 < 0
      · rw [if_pos q] at h; cases h
      · rw [if_neg q] at h; have := of_decide_eq_false h; omega
  · intro K hB
    refine ⟨fun h => by omega, fun _ => ?_⟩
    have hi := out_in hB
    refine ⟨by omega, w, rfl, by omega, by omega, by omega, by omega, by rw [(ms_perm w).length_eq]; omega, ?_⟩
    have hml : (w.mergeSort fun x y => decide (x ≤ y)).length = w.length := (ms_perm w).length_eq
    refine ⟨w.mergeSort fun x y => decide (x ≤ y), ?_, by omega, fun ys hy1 hy2 => ?_⟩
    · rw [Int.toNat_zero, List.drop_zero, show (0 + ((w.mergeSort fun x y => decide (x ≤ y)).length : Int)).toNat = (rowsI (w.mergeSort fun x y => decide (x ≤ y))).length by rw [rowsI_len]; omega, List.take_length]
    have hd : (((dedA (w.mergeSort fun x y => decide (x ≤ y))).length : Int) = (w.length : Int)) ↔ w.Nodup := by
      rw [← (ms_perm w).nodup_iff, ← dedA_nodup _ (ms_sorted w), hml]; omega
    refine ⟨fun h3 => hR _ ?_ (by decide), fun h3 => ?_⟩
    · rw [rtE, if_neg (by simpa using h1), if_neg (by omega), if_neg (by simpa using hB), if_neg (fun q => h3 (hd.2 q))]
    have hnd := hd.1 h3
    have hE : rtE g k w = 0 := by rw [rtE, if_neg (by simpa using h1), if_neg (by omega), if_neg (by simpa using hB), if_pos hnd]
    refine ⟨fun h4 => ?_, fun h4 => ⟨Int.le_refl 0, by omega, ?_⟩⟩
    · have : w = [] := List.length_eq_zero_iff.1 (by omega)
      rw [hE, rtL, if_neg (fun q => q.2 this)]; rfl
    obtain ⟨a, t, rfl⟩ : ∃ a t, w = a :: t := by
      cases w with
      | nil => simp at h4
      | cons a t => exact ⟨a, t, rfl⟩
    have hp := lft_perm hnd
    refine ⟨_, rfl, by omega, fun ys2 hz1 hz2 => ⟨by omega, by omega, by simp, ?_⟩⟩
    have hlf : (List.filter (fun z => !z == (a :: t).getD (0 : Int).toNat 0) ((a :: t).mergeSort fun x y => decide (x ≤ y))) = lft (a :: t) := rfl
    rw [hlf] at hz2 ⊢
    have hlen : (lft (a :: t)).length = t.length := hp.length_eq
    simp only [List.length_cons] at h2'
    refine ⟨rfl, [a], lft (a :: t), ⟨by simp, by simp [rowsI], by simp, rfl, hz2, by rw [hz1]; simp only [List.length_cons] at hml; omega, by simp [hlen]; omega, by simp [hlen]; omega, by omega, by simp [lenL], hg0, ?_⟩, fun xs2 q1 q2 => ?_⟩
    · intro z hz
      refine hi z ?_
      simp only [List.singleton_append, List.mem_cons] at hz ⊢
      exact hz.imp id fun hz => hp.subset hz
    · rw [rtL, if_pos ⟨hE, by simp⟩, hE]; rfl
  · intro j hj h3 h4
    exact hR _ (by rw [rtE, if_neg (by simpa using h1), if_neg (by omega), if_pos (by omega)]) (by decide)
  · intro h3; exact h3
end Go.Proofs.Ytljnpioekbdcaaa.V
