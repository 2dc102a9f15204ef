/- The number of rolls in a bay: a loop over the map. No conditions. -/
import Derived.Test.YtniijahjfbgfpaaProg
import Derived.Test.YtniijahjfbgfpaaE4
import Derived.KernelRfl
set_option linter.unusedVariables false
set_option linter.unusedSimpArgs false
namespace Go.Proofs.Ytniijahjfbgfpaa
open Go Go.Eng
set_option maxRecDepth 100000
theorem mo : Try.prog.follows .mixedOrders = true := by kernel_rfl
def ms : List FuncId := [10,12,13,15,16,17,18,24,25,26,27,28,29,30,31,35,36,41,43,47,53,54,55,56,57,58,59,60,63,65,66,67,68]
def DD : Opts := ⟨ms, false, false, false⟩
def DI : Opts := ⟨ms, false, true, false⟩
def DX : Opts := ⟨ms, false, false, true⟩
theorem b32 : hasBody Try.prog 32 = true := by kernel_rfl
/-- (*papermill store.Store).many -/
def rf32 : RFn := ⟨(.seq (.ops 0 [⟨(some 4), (.v (.mv (.k (.c (.int .i64 0))))), none, []⟩]) (.seq (.ops 0 [⟨(some 5), (.v (.mv (.k (.c (.int .i64 0))))), none, []⟩]) (.seq (.rng ⟨0, [⟨(some 8), (.v (.mv (.t 0))), none, []⟩, ⟨(some 9), (.v (.nc (.t 8))), none, []⟩, ⟨(some 10), (.v (.fa 1 (.t 9))), none, []⟩, ⟨(some 11), (.v (.ld (.t 10))), none, []⟩], 11, 12, 13, 14, 0, 1, 1, 15, [⟨(some 16), (.v (.ext (.t 15) 1)), none, []⟩, ⟨(some 7), (.v (.alloc 0 73 [(.c (.int .i64 0)), (.c (.int .i64 0)), (.c (.int .i64 0)), (.c (.int .i64 0)), (.c (.int .i64 0))])), none, []⟩, ⟨none, (.v (.st 5 (.t 7) (.t 16))), none, []⟩]⟩ (.seq (.ops 0 [⟨(some 17), (.v (.fa 0 (.t 7))), none, []⟩, ⟨(some 18), (.v (.fa 1 (.t 17))), none, []⟩, ⟨(some 19), (.v (.ld (.t 18))), none, []⟩, ⟨(some 20), (.v (.mv (.t 1))), none, []⟩, ⟨(some 21), (.v (.bin .eql (.t 19) (.t 20))), none, []⟩]) (.cond (.t 21) (.ops 0 [⟨(some 22), (.v (.mv (.t 5))), none, []⟩, ⟨(some 23), (.v (.bin .add (.t 22) (.k (.c (.int .i64 1))))), none, []⟩, ⟨(some 5), (.v (.mv (.t 23))), none, []⟩]) .skip))) (.seq (.ops 0 [⟨(some 24), (.v (.mv (.t 5))), none, []⟩, ⟨(some 4), (.v (.mv (.t 24))), none, []⟩]) .ret)))), 25, [(.t 4)]⟩
theorem h32 : fnR Try.prog DD 32 = some rf32 := by kernel_rfl
def vc32 (E : Env) (x1 : List (List C)) (x2 : List (Int × List C)) (x3 : Int) (x4 : Int) (x5 : Int) (Q : List C → Prop) : Prop :=
  RngP1 ((E.gm (E.cell [[.sl [.int .i64, .int .i64] x1, .mp .i64 true [.int .i64, .int .i64, .int .i64, .int .i64, .int .i64] x2, .int .i64 x3, .int .i64 x4]] 0 1))) (fun (i3 : Int) (q4 : List C) (i5 : Int) (K6 : (Int) → Prop) =>
  Br (E.eq (E.gi (E.cell [q4] 0 1)) x5)
    (K6 ((E.add .i64 i5 1)))
    (K6 (i5)))
  (fun (i5 : Int) =>
  Q [.int .i64 i5])
  (0)
theorem w32 {P : Program} {tbl : FuncId → List A → List C}  {x1 : List (List C)} {x2 : List (Int × List C)} {x3 : Int} {x4 : Int} {x5 : Int} {row : List C} (h : vc32 (stdE P tbl) x1 x2 x3 x4 x5 fun c => c = row) : WPg P tbl rf32 [(false, [.int .i64])] row [.el [.sl [.int .i64, .int .i64], .mp .i64 true [.int .i64, .int .i64, .int .i64, .int .i64, .int .i64], .int .i64, .int .i64] [[.sl [.int .i64, .int .i64] x1, .mp .i64 true [.int .i64, .int .i64, .int .i64, .int .i64, .int .i64] x2, .int .i64 x3, .int .i64 x4]] 0 0, .c (.int .i64 x5)] := by
  refine ⟨?_⟩
  revert h
  generalize hE : stdE P tbl = E
  intro h
  unfold vc32 at h
  cbv
  intro v1 v2
  obtain ⟨I, h0, hf, hI⟩ := h
  refine RngW.inv rngRnd_mono2 (fun p : Int => (fun (i5 : Int) => (⟨[.u, .c (.int .i64 x5), .u, .u, .u, .c (.int .i64 i5), .u, .u, .u, .u, .u, .u, .pin v1 (.u), .u, .u, .u, .u, .u, .u, .u, .u, .u, .u, .u, .u], []⟩ : St)) p) (fun left p => I left p) _ h0 ?_ (fun p => ⟨rfl, rfl, rfl⟩) ?_ ?_
  · refine GSt.ren [] rfl rfl rfl (fun i hi => absurd hi (Nat.not_lt_zero i)) (Nat.zero_le _) ?_ ?_
    all_goals (repeat' (first | exact trivial | exact Or.inl rfl | exact Or.inr rfl | refine And.intro ?_ ?_))
  · rintro i5 h
    replace h := hf i5 h
    cbv
    have h : _ = row := h
    subst h
    repeat' (first | exact trivial | exact rfl | refine And.intro ?_ ?_)
  · rintro left i5 h i hi
    replace h := hI left i5 h i hi
    generalize left.eraseIdx i = left2 at h ⊢
    generalize left[i] = en at h ⊢
    obtain ⟨i3, q4⟩ := en
    cbv
    refine ⟨fun hb7 => ?_, fun hb7 => ?_⟩
    · replace h := h.t hb7
      refine ⟨_, h, GSt.ren [] rfl rfl rfl (fun i hi => absurd hi (Nat.not_lt_zero i)) (Nat.zero_le _) ?_ ?_⟩
      all_goals (repeat' (first | exact trivial | exact Or.inl rfl | exact Or.inr rfl | refine And.intro ?_ ?_))
    · replace h := h.f hb7
      refine ⟨_, h, GSt.ren [] rfl rfl rfl (fun i hi => absurd hi (Nat.not_lt_zero i)) (Nat.zero_le _) ?_ ?_⟩
      all_goals (repeat' (first | exact trivial | exact Or.inl rfl | exact Or.inr rfl | refine And.intro ?_ ?_))
def vc32E (E : Env) (x1 : List (List C)) (x2 : List (Int × List C)) (x3 : Int) (x4 : Int) (x5 : Int) (Q0 : (Int) → Prop) : Prop :=
  RngP1 ((E.gm (E.cell [[.sl [.int .i64, .int .i64] x1, .mp .i64 true [.int .i64, .int .i64, .int .i64, .int .i64, .int .i64] x2, .int .i64 x3, .int .i64 x4]] 0 1))) (fun (i4 : Int) (q5 : List C) (i6 : Int) (K7 : (Int) → Prop) =>
  Br (E.eq (E.gi (E.cell [q5] 0 1)) x5)
    (K7 ((E.add .i64 i6 1)))
    (K7 (i6)))
  (fun (i6 : Int) =>
  Q0 (i6))
  (0)
theorem w32E {P : Program} {tbl : FuncId → List A → List C} {x1 : List (List C)} {x2 : List (Int × List C)} {x3 : Int} {x4 : Int} {x5 : Int}  {Q0 : (Int) → Prop} (h : vc32E (stdE P tbl) x1 x2 x3 x4 x5 Q0) : WEg P tbl rf32 (fun r H' => (∃ i1 : Int, Q0 i1 ∧ r = .c (.int .i64 i1) ∧ H' = [])) [.el [.sl [.int .i64, .int .i64], .mp .i64 true [.int .i64, .int .i64, .int .i64, .int .i64, .int .i64], .int .i64, .int .i64] [[.sl [.int .i64, .int .i64] x1, .mp .i64 true [.int .i64, .int .i64, .int .i64, .int .i64, .int .i64] x2, .int .i64 x3, .int .i64 x4]] 0 0, .c (.int .i64 x5)] [] := by
  refine ⟨?_⟩
  revert h
  generalize hE : stdE P tbl = E
  intro h
  unfold vc32E at h
  cbv
  intro v2 v3
  obtain ⟨I, h0, hf, hI⟩ := h
  refine RngW.inv rngRnd_mono2 (fun p : Int => (fun (i6 : Int) => (⟨[.u, .c (.int .i64 x5), .u, .u, .u, .c (.int .i64 i6), .u, .u, .u, .u, .u, .u, .pin v2 (.u), .u, .u, .u, .u, .u, .u, .u, .u, .u, .u, .u, .u], []⟩ : St)) p) (fun left p => I left p) _ h0 ?_ (fun p => ⟨rfl, rfl, rfl⟩) ?_ ?_
  · refine GSt.ren [] rfl rfl rfl (fun i hi => absurd hi (Nat.not_lt_zero i)) (Nat.zero_le _) ?_ ?_
    all_goals (repeat' (first | exact trivial | exact Or.inl rfl | exact Or.inr rfl | refine And.intro ?_ ?_))
  · rintro i6 h
    replace h := hf i6 h
    cbv
    refine ⟨_, _, GFin.of (GSt.ren [] rfl rfl rfl (fun i hi => absurd hi (Nat.not_lt_zero i)) (Nat.zero_le _) ?_ ?_), ⟨_, h, rfl, rfl⟩⟩
    all_goals (repeat' (first | exact trivial | exact Or.inl rfl | exact Or.inr rfl | refine And.intro ?_ ?_))
  · rintro left i6 h i hi
    replace h := hI left i6 h i hi
    generalize left.eraseIdx i = left2 at h ⊢
    generalize left[i] = en at h ⊢
    obtain ⟨i4, q5⟩ := en
    cbv
    refine ⟨fun hb8 => ?_, fun hb8 => ?_⟩
    · replace h := h.t hb8
      refine ⟨_, h, GSt.ren [] rfl rfl rfl (fun i hi => absurd hi (Nat.not_lt_zero i)) (Nat.zero_le _) ?_ ?_⟩
      all_goals (repeat' (first | exact trivial | exact Or.inl rfl | exact Or.inr rfl | refine And.intro ?_ ?_))
    · replace h := h.f hb8
      refine ⟨_, h, GSt.ren [] rfl rfl rfl (fun i hi => absurd hi (Nat.not_lt_zero i)) (Nat.zero_le _) ?_ ?_⟩
      all_goals (repeat' (first | exact trivial | exact Or.inl rfl | exact Or.inr rfl | refine And.intro ?_ ?_))
def tbl32E : FuncId → List A → List C := fun f ds => match f with
  | _ => []
theorem ac32E {x1 : List (List C)} {x2 : List (Int × List C)} {x3 : Int} {x4 : Int} {x5 : Int}  {Q0 : (Int) → Prop} (h : vc32E (stdE Try.prog tbl32E) x1 x2 x3 x4 x5 Q0) : ACalls Try.prog 32 [.el [.sl [.int .i64, .int .i64], .mp .i64 true [.int .i64, .int .i64, .int .i64, .int .i64, .int .i64], .int .i64, .int .i64] [[.sl [.int .i64, .int .i64] x1, .mp .i64 true [.int .i64, .int .i64, .int .i64, .int .i64, .int .i64] x2, .int .i64 x3, .int .i64 x4]] 0 0, .c (.int .i64 x5)] [] fun r H' => (∃ i1 : Int, Q0 i1 ∧ r = .c (.int .i64 i1) ∧ H' = []) := ACalls_vc mo h32 (w32E  h)
abbrev C2 : List LK := [.int .i64, .int .i64]
abbrev C5 : List LK := [.int .i64, .int .i64, .int .i64, .int .i64, .int .i64]
/-- The number of entries whose second number is this one. -/
def cntE (b : Int) : List (Int × List C) → Nat
  | [] => 0
  | e :: es => (if (e.2.getD 1 .nil).gi = b then 1 else 0) + cntE b es
theorem cntE_erase (b : Int) : ∀ (es : List (Int × List C)) (i : Nat) (hi : i < es.length), cntE b es = cntE b (es.eraseIdx i) + if (es[i].2.getD 1 .nil).gi = b then 1 else 0
  | e :: es, 0, _ => by simp only [cntE, List.eraseIdx_cons_zero, List.getElem_cons_zero]; omega
  | e :: es, i + 1, hi => by
    have := cntE_erase b es i (by simpa using hi)
    simp only [cntE, List.eraseIdx_cons_succ, List.getElem_cons_succ]; omega
theorem cnt_loop {es : List (Int × List C)} {b : Int} {Q : Int → Prop} (hlen : es.length ≤ 1000000) (hQ : Q (cntE b es)) :
    RngP1 es (fun (i4 : Int) (q5 : List C) (i6 : Int) (K7 : Int → Prop) => ((cellAt [q5] (Int.toNat 0) 1).gi = b → K7 (IntKind.i64.wrap (i6 + 1))) ∧ (¬ (cellAt [q5] (Int.toNat 0) 1).gi = b → K7 i6)) Q 0 := by
  refine .mk (fun left n => left.length ≤ es.length ∧ 0 ≤ n ∧ n ≤ es.length - left.length ∧ n + cntE b left = cntE b es) ⟨Nat.le_refl _, by omega, by omega, by omega⟩ (fun n ⟨_, _, _, h⟩ => by have h : n = cntE b es := (by simpa [cntE] using h); rw [h]; exact hQ) fun left n ⟨h0, h1, h2, h3⟩ i hi => ?_
  have hc := cntE_erase b left i hi
  have hl : (left.eraseIdx i).length = left.length - 1 := by rw [List.length_eraseIdx, if_pos hi]
  simp only [show cellAt [left[i].2] (Int.toNat 0) 1 = left[i].2.getD 1 .nil from rfl]
  refine ⟨fun he => ?_, fun he => ?_⟩
  · rw [if_pos he] at hc
    show _ ≤ _ ∧ _
    rw [wrap_in (by omega) (by omega)]
    exact ⟨by omega, by omega, by omega, by omega⟩
  · rw [if_neg he] at hc
    exact ⟨by omega, by omega, by omega, by omega⟩
abbrev SLay : List LK := [.sl C2, .mp .i64 true C5, .int .i64, .int .i64]
/-- A warehouse's variable, frozen. -/
abbrev elS (bays : List (List C)) (es : List (Int × List C)) (tn la : Int) : A := .el SLay [[.sl C2 bays, .mp .i64 true C5 es, .int .i64 tn, .int .i64 la]] 0 0
theorem many_call (bays : List (List C)) (es : List (Int × List C)) (tn la b : Int) (hlen : es.length ≤ 1000000) :
    ACalls Try.prog 32 [elS bays es tn la, .c (.int .i64 b)] [] fun r H' => r = .c (.int .i64 (cntE b es)) ∧ H' = [] := by
  refine (ac32E (Q0 := fun n => n = cntE b es) ?_).mono fun r H' ⟨i, hi, hr, hH⟩ => ⟨by rw [hr, hi], hH⟩
  unfold vc32E
  simp only [stdE, baseE, Br_iff, beq_iff_eq, beq_eq_false_iff_ne, decide_eq_true_eq, decide_eq_false_iff_not]
  exact cnt_loop hlen rfl
def ovF (f : FuncId) (xs : List A) (H : List O) : Option (A × List O) :=
  match Nat.beq f 32 with
  | false => none
  | true => match xs with
    | [.el lay [[.sl lay1 bays, .mp .i64 true lay2 es, .int .i64 tn, .int .i64 la]] 0 0, .c (.int .i64 b)] =>
      if (LK.beqs lay SLay && (LK.beqs lay1 C2 && LK.beqs lay2 C5)) && Nat.ble es.length 1000000 then some (.c (.int .i64 (cntE b es)), H) else none
    | _ => none
theorem ovF_ok : ∀ f xs H r H', ovF f xs H = some (r, H') → HCall Try.prog f xs H fun r' H'' => r' = r ∧ H'' = H' := by
  intro f xs H r H' h
  unfold ovF at h
  split at h
  · cases h
  rename_i hf
  have hf := Nat.eq_of_beq_eq_true hf
  subst hf
  split at h
  · rename_i lay lay1 bays lay2 es tn la b
    split at h
    · rename_i hk
      cases h
      simp only [Bool.and_eq_true, Nat.ble_eq] at hk
      obtain ⟨⟨k1, k2, k3⟩, k4⟩ := hk
      have e1 := LK.beqs_eq _ _ k1
      have e2 := LK.beqs_eq _ _ k2
      have e3 := LK.beqs_eq _ _ k3
      subst e1 e2 e3
      refine ⟨b32, (ACalls.frame (many_call bays es tn la b k4) (H := _) (tgt := []) rfl (by simp) ?_).mono fun r H' hq => ?_⟩
      · intro i o ho
        cases ho
      · obtain ⟨r1, H1', ⟨rfl, rfl⟩, _, rfl, rfl⟩ := hq
        exact ⟨by simp [A.ren], by simp [frH]⟩
    · cases h
  · cases h
end Go.Proofs.Ytniijahjfbgfpaa
