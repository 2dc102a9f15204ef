/- Knives: checks of deckles and patterns, in the program and in the reference; strips. No conditions. -/
import Derived.Test.YtjmgphobpgajbaaPat3
set_option linter.unusedVariables false
set_option linter.unusedSimpArgs false
namespace Go.Proofs.Ytjmgphobpgajbaa.V
open Go Go.Eng
set_option maxRecDepth 1000000
set_option maxHeartbeats 1000000
def S58 : List A → List C := fun ds => match ds with
  | [.agg [.c (.int _ w), .c (.int _ e), .c (.int _ t), .c (.int _ k), .c (.sl _ xs)], .c (.int _ most)] => [.sl L1 (rowL (enu t k most.toNat (prI xs) [] k (w - 2 * e) []))]
  | _ => []
theorem e58 (w e t k : Int) (ss : List Int) (most : Int) : S58 [dk w e t k ss, iC most] = [.sl L1 (rowL (enu t k most.toNat ss [] k (w - 2 * e) []))] := by
  show [C.sl L1 (rowL (enu t k most.toNat (prI (rowsI ss)) [] k (w - 2 * e) []))] = _
  rw [prI_rowsI]
def tbl58 : FuncId → List A → List C := fun f ds => match f with
  | 68 => S68 ds
  | _ => []
theorem pc58 (ce69 : ListC 9 Try.prog 69) {x1 : Int} {x2 : Int} {x3 : Int} {x4 : Int} {x5 : List (List C)} {x6 : Int} {row : List C} (hS : S58 [.agg [.c (.int .i64 x1), .c (.int .i64 x2), .c (.int .i64 x3), .c (.int .i64 x4), .c (.sl [.int .i64] x5)], .c (.int .i64 x6)] = row) (h : vc58 (stdE Try.prog tbl58) x1 x2 x3 x4 x5 x6 fun c => c = row) : PCg Try.prog 58 S58 [(false, [.sl [.sl [.int .i64]]])] [.agg [.c (.int .i64 x1), .c (.int .i64 x2), .c (.int .i64 x3), .c (.int .i64 x4), .c (.sl [.int .i64] x5)], .c (.int .i64 x6)] := PureC_vc mo h58 (by kernel_rfl) hS (w58 ce69 h)
theorem rowsI_rep (n : Nat) : rowsI (List.replicate n 0) = List.replicate n [.int .i64 0] := by simp [rowsI]
theorem p58 {w e t k : Int} {ss : List Int} (hd : DOk w e t k ss) {most : Int} (h0 : 0 ≤ most) (h1 : most ≤ 1100) : PCg Try.prog 58 S58 [kLL] [dk w e t k ss, iC most] := by
  refine pc58 (list0 9) (e58 ..) ?_
  unfold vc58 spLn
  simp only [stdE, baseE, tbl58, forall_eq, rowsI_len, decide_eq_true_eq]
  simp only [p68, true_and]
  simp only [e68, List.getD_cons_zero, gi_int, hd.usb]
  have n1 := hd.n1; have n8 := hd.n8; have k2 := hd.k2; have k1 := hd.k1; have w2 := hd.w2; have e0 := hd.e0; have e1 := hd.e1
  refine ⟨by omega, Int.le_refl _, by omega, ss, [], rfl, ⟨rfl, Nat.zero_le _, by simp; omega, ?_, n8, by omega, by omega, by omega, by omega, hd.s12, by simp, h0, h1⟩, ?_⟩
  · rw [List.nil_append, rowsI_rep]; simp
  · simp
/-! ### The reference's list -/
def S60 : List A → List C := fun ds => match ds with
  | [.agg [.c (.int _ w), .c (.int _ e), .c (.int _ t), .c (.int _ k), .c (.sl _ xs)], .c c, .c (.int _ kn), .c (.int _ left), .c o, .c (.int _ most)] => [.sl L1 (rowL (enl t k (most.toNat + 1) ((prI xs).drop (prI c.gl).length) (prI c.gl) kn left (unL o.gl)))]
  | _ => []
theorem e60 (w e t k : Int) (ss c : List Int) (kn left : Int) (out : List (List Int)) (most : Int) : S60 [dk w e t k ss, sI (rowsI c), iC kn, iC left, sL (rowL out), iC most] = [.sl L1 (rowL (enl t k (most.toNat + 1) (ss.drop c.length) c kn left out))] := by
  show [C.sl L1 (rowL (enl t k (most.toNat + 1) ((prI (rowsI ss)).drop (prI (rowsI c)).length) (prI (rowsI c)) kn left (unL (rowL out))))] = _
  rw [prI_rowsI, prI_rowsI, unL_rowL]
theorem e60N (w e t k : Int) (ss : List Int) (kn left : Int) (most : Int) : S60 [dk w e t k ss, .c .nil, iC kn, iC left, .c .nil, iC most] = [.sl L1 (rowL (enl t k (most.toNat + 1) ss [] kn left []))] := by
  show [C.sl L1 (rowL (enl t k (most.toNat + 1) ((prI (rowsI ss)).drop 0) [] kn left []))] = _
  rw [prI_rowsI]; rfl
theorem enl_len {t k : Int} {most N : Nat} (hm : most ≤ N) : ∀ (r pre : List Int) (kn left : Int) (out : List (List Int)), out.length ≤ N → (enl t k most r pre kn left out).length ≤ N
  | [], pre, kn, left, out, h => by
    unfold enl
    split
    · exact h
    · split
      · simp; omega
      · exact h
  | w :: r, pre, kn, left, out, h => by
    unfold enl
    split
    · exact h
    · exact dnk_inv (fun o : List (List Int) => o.length ≤ N) h (fun i o ho => enl_len hm r _ _ _ _ ho) _
theorem enl_full {t k : Int} {most : Nat} (r pre : List Int) (kn left : Int) {out : List (List Int)} (h : most ≤ out.length) : enl t k most r pre kn left out = out := by
  cases r <;> (unfold enl; rw [if_pos h])
structure AllOk (w e k kn left : Int) (ss c : List Int) (out : List (List Int)) : Prop where
  hl : c.length ≤ ss.length
  pos : ∀ a ∈ c, 0 ≤ a
  sum : sumL c + kn = k
  wid : dot c (ss.take c.length) + left = w - 2 * e
  kn0 : 0 ≤ kn
  l0 : 0 ≤ left
  ol : out.length ≤ 1100
def tbl60 : FuncId → List A → List C := fun f ds => match f with
  | 44 => S44 ds
  | 60 => S60 ds
  | _ => []
theorem pc60  {x1 : Int} {x2 : Int} {x3 : Int} {x4 : Int} {x5 : List (List C)} {x6 : List (List C)} {x7 : Int} {x8 : Int} {x9 : List (List C)} {x10 : Int} {row : List C} (hS : S60 [.agg [.c (.int .i64 x1), .c (.int .i64 x2), .c (.int .i64 x3), .c (.int .i64 x4), .c (.sl [.int .i64] x5)], .c (.sl [.int .i64] x6), .c (.int .i64 x7), .c (.int .i64 x8), .c (.sl [.sl [.int .i64]] x9), .c (.int .i64 x10)] = row) (h : vc60 (stdE Try.prog tbl60) x1 x2 x3 x4 x5 x6 x7 x8 x9 x10 fun c => c = row) : PCg Try.prog 60 S60 [(false, [.sl [.sl [.int .i64]]])] [.agg [.c (.int .i64 x1), .c (.int .i64 x2), .c (.int .i64 x3), .c (.int .i64 x4), .c (.sl [.int .i64] x5)], .c (.sl [.int .i64] x6), .c (.int .i64 x7), .c (.int .i64 x8), .c (.sl [.sl [.int .i64]] x9), .c (.int .i64 x10)] := PureC_vc mo h60 (by kernel_rfl) hS (w60  h)
theorem p60 {w e t k : Int} {ss : List Int} (hd : DOk w e t k ss) {most : Int} (h0 : 0 ≤ most) (h1 : most ≤ 1050) : ∀ (r : Nat) (c : List Int) (kn left : Int) (out : List (List Int)), ss.length - c.length = r → AllOk w e k kn left ss c out →
    PCg Try.prog 60 S60 [kLL] [dk w e t k ss, sI (rowsI c), iC kn, iC left, sL (rowL out), iC most] := by
  intro r
  induction r with
  | zero =>
    intro c kn left out hr ⟨hl, pos, sum, wid, kn0, l0, ol⟩
    have hcl : c.length = ss.length := by omega
    have n8 := hd.n8
    refine pc60 (e60 ..) ?_
    unfold vc60
    simp only [stdE, baseE, Br_iff, tbl60, forall_eq, rowsI_len, rowL_len, decide_eq_true_eq, decide_eq_false_iff_not, beq_iff_eq, beq_eq_false_iff_ne]
    simp only [p44 hd c (by omega), true_and]
    simp only [e44, List.getD_cons_zero, gi_int, List.nil_append, List.length_nil, rowL_len]
    refine ⟨fun q => ?_, fun q => ⟨fun _ => ⟨fun q2 => ⟨by omega, by simp; omega, ?_⟩, fun q2 => ?_⟩, fun q1 => by omega⟩⟩
    · rw [enl_full _ _ _ _ (by omega)]
    · have hf := fitE_ok q2
      rw [List.take_of_length_le (by omega)] at wid
      rw [List.drop_of_length_le (by omega), enl, if_neg (by omega), if_pos (by have := hf.one; have := hf.trm; omega), rowL_append]
      rfl
    · rw [List.take_of_length_le (by omega)] at wid
      rw [List.drop_of_length_le (by omega), enl, if_neg (by omega), if_neg (fun q3 => q2 (fitE_iff.2 ⟨hcl, pos, by have := sumL_nonneg pos; omega, by omega, by omega, by omega⟩))]
  | succ r ih =>
    intro c kn left out hr ⟨hl, pos, sum, wid, kn0, l0, ol⟩
    have n8 := hd.n8; have k2 := hd.k2; have k1 := hd.k1; have w2 := hd.w2; have e0 := hd.e0; have e1 := hd.e1
    have hlt : c.length < ss.length := by omega
    obtain ⟨s, hs⟩ : ∃ s, ss.getD c.length 0 = s := ⟨_, rfl⟩
    have hdr : ss.drop c.length = s :: ss.drop (c.length + 1) := by rw [List.drop_eq_getElem_cons hlt, ← hs, getD_get hlt]
    have hs1 := hd.s12 s (by rw [← hs]; exact getD_mem hlt)
    have hsum := sumL_nonneg pos
    have hdt := dot_bd c (ss.take c.length) pos fun x hx => hd.s12 x (mem_take hx)
    refine pc60 (e60 ..) ?_
    unfold vc60
    simp only [stdE, baseE, Br_iff, tbl60, forall_eq, rowsI_len, rowsI_getD, rowL_len, decide_eq_true_eq, decide_eq_false_iff_not, beq_iff_eq, beq_eq_false_iff_ne, toNat_cast, hs]
    refine ⟨fun q => ?_, fun q => ⟨fun q1 => by omega, fun _ => ⟨by omega, by omega, by omega, ?_⟩⟩⟩
    · rw [enl_full _ _ _ _ (by omega)]
    rw [hdr, enl, if_neg (by omega)]
    obtain ⟨m3, m4, m5⟩ := mst_ok kn0 l0 hs1.1
    have hM : (if IntKind.i64.wrap (left.tdiv s) < kn then IntKind.i64.wrap (left.tdiv s) else kn) = mst kn left s := by
      have hd0 : 0 ≤ left / s := Int.ediv_nonneg l0 (by omega)
      have hd1 : left / s ≤ left := Int.ediv_le_self _ l0
      rw [Int.tdiv_eq_ediv_of_nonneg l0, wrap_in (n := left / s) (by omega) (by omega)]; rfl
    rw [hM]
    obtain ⟨M, hMM⟩ : ∃ M, mst kn left s = M := ⟨_, rfl⟩
    rw [hMM] at m3 m4 m5 ⊢
    obtain ⟨F, hF⟩ : ∃ F : Int → List (List Int) → List (List Int), F = fun n o => enl t k (most.toNat + 1) (ss.drop (c.length + 1)) (c ++ [n]) (kn - n) (left - n * s) o := ⟨_, rfl⟩
    rw [← hF]
    have hlen : ∀ i, (dnk F M out i).length ≤ 1100 := fun i => dnk_inv (fun o : List (List Int) => o.length ≤ 1100) ol (fun n o ho => by rw [hF]; exact enl_len (by omega) _ _ _ _ _ ho) i
    refine LoopP2.run (x1 := rowL out) (x2 := M) (fun i : Nat => rowL (dnk F M out i)) (fun i => M - (i : Int)) (fun i => (i : Int) ≤ M + 1) (fun i => (M + 1).toNat - i) 0 (by omega) rfl (by omega) ?_
    intro i hi K7 hK7
    refine ⟨fun h4 => ?_, fun h4 => ?_⟩
    · obtain ⟨n, hn⟩ : ∃ n, M - (i : Int) = n := ⟨_, rfl⟩
      rw [hn] at h4 ⊢
      have hn2 : n ≤ M := by omega
      have hns := mul_up (w := s) (by omega) hn2
      have hns0 : 0 ≤ n * s := Int.mul_nonneg h4 (by omega)
      have e2 : List.map (fun z => [C.int IntKind.i64 z]) c = rowsI c := rfl
      have e3 : (([] : List (List C)) ++ rowsI c ++ [[C.int IntKind.i64 n]]) = rowsI (c ++ [n]) := by rw [List.nil_append, rowsI_append]; rfl
      rw [e3, wrap_in (n := kn - n) (by omega) (by omega), wrap_in (n := n * s) (by omega) (by omega), wrap_in (n := left - n * s) (by omega) (by omega), wrap_in (n := n - 1) (by omega) (by omega)]
      have hok : AllOk w e k (kn - n) (left - n * s) ss (c ++ [n]) (dnk F M out i) := by
        refine ⟨by simp; omega, fun a ha => ?_, by rw [sumL_snoc]; omega, ?_, by omega, by omega, hlen i⟩
        · rcases List.mem_append.1 ha with ha | ha
          · exact pos a ha
          · simp at ha; omega
        · rw [List.length_append, List.length_singleton, take_s hlt, hs, dot_snoc _ _ _ _ (by simp; omega)]; omega
      have hp := ih (c ++ [n]) (kn - n) (left - n * s) (dnk F M out i) (by simp; omega) hok
      refine ⟨by simp; omega, by simp [rowsI_len]; omega, hp, ?_⟩
      rw [e60, List.getD_cons_zero, gl_sl]
      refine hK7 _ _ (i + 1) (by omega) (by omega) ?_ (by omega)
      rw [dnk_succ, hn, hF]
      simp only [List.length_append, List.length_singleton]
    · have hi2 : i = (M + 1).toNat := by omega
      rw [hi2]
theorem PureC.nil14 {P : Program} {f : FuncId} {rty : List (Bool × List LK)} {lay lay' : List LK} {a b c : A} {ds : List A} {get : Nat → C} (k : PureC P f rty (a :: .c (.sl lay []) :: b :: c :: .c (.sl lay' []) :: ds) get) : PureC P f rty (a :: .c .nil :: b :: c :: .c .nil :: ds) get :=
  ⟨k.1, ACalls.le (ds := a :: .c (.sl lay []) :: b :: c :: .c (.sl lay' []) :: ds) (by simp) (fun G i h1 h2 v hv => by
    match i with
    | 0 => exact hv
    | 1 => exact VR.nilSl lay hv
    | 2 => exact hv
    | 3 => exact hv
    | 4 => exact VR.nilSl lay' hv
    | i + 5 => exact hv) k.2⟩
theorem p60N {w e t k : Int} {ss : List Int} (hd : DOk w e t k ss) {most : Int} (h0 : 0 ≤ most) (h1 : most ≤ 1050) : PCg Try.prog 60 S60 [kLL] [dk w e t k ss, .c .nil, iC k, iC (w - 2 * e), .c .nil, iC most] := by
  have k1 := hd.k1; have e1 := hd.e1
  have h := p60 hd h0 h1 _ [] k (w - 2 * e) [] rfl ⟨Nat.zero_le _, fun a ha => (by cases ha), by simp [sumL], by simp [dot], by omega, by omega, by simp⟩
  exact PureC.cg (PureC.nil14 h) ((e60 ..).trans (e60N ..).symm)
/-! ### Checks -/
def sChk : List A → List C := fun ds => match ds with
  | [.agg [.c (.int _ w), .c (.int _ e), .c (.int _ t), .c (.int _ k), .c (.sl _ xs)]] => [.int .i64 (chkE w e t k (prI xs))]
  | _ => []
def S42 : List A → List C := sChk
def S43 : List A → List C := sChk
theorem e42 (w e t k : Int) (ss : List Int) : S42 [dk w e t k ss] = [.int .i64 (chkE w e t k ss)] := by
  show [C.int .i64 (chkE w e t k (prI (rowsI ss)))] = _
  rw [prI_rowsI]
theorem e43 (w e t k : Int) (ss : List Int) : S43 [dk w e t k ss] = [.int .i64 (chkE w e t k ss)] := e42 w e t k ss
def tbl42 : FuncId → List A → List C := fun f ds => match f with
  | 57 => S57 ds
  | 58 => S58 ds
  | _ => []
theorem pc42  {x1 : Int} {x2 : Int} {x3 : Int} {x4 : Int} {x5 : List (List C)} {row : List C} (hS : S42 [.agg [.c (.int .i64 x1), .c (.int .i64 x2), .c (.int .i64 x3), .c (.int .i64 x4), .c (.sl [.int .i64] x5)]] = row) (h : vc42 (stdE Try.prog tbl42) x1 x2 x3 x4 x5 fun c => c = row) : PCg Try.prog 42 S42 [(false, [.int .i64])] [.agg [.c (.int .i64 x1), .c (.int .i64 x2), .c (.int .i64 x3), .c (.int .i64 x4), .c (.sl [.int .i64] x5)]] := PureC_vc mo h42 (by kernel_rfl) hS (w42  h)
def tbl43 : FuncId → List A → List C := fun f ds => match f with
  | 38 => S38 ds
  | 59 => S59 ds
  | 60 => S60 ds
  | _ => []
theorem pc43  {x1 : Int} {x2 : Int} {x3 : Int} {x4 : Int} {x5 : List (List C)} {row : List C} (hS : S43 [.agg [.c (.int .i64 x1), .c (.int .i64 x2), .c (.int .i64 x3), .c (.int .i64 x4), .c (.sl [.int .i64] x5)]] = row) (h : vc43 (stdE Try.prog tbl43) x1 x2 x3 x4 x5 fun c => c = row) : PCg Try.prog 43 S43 [(false, [.int .i64])] [.agg [.c (.int .i64 x1), .c (.int .i64 x2), .c (.int .i64 x3), .c (.int .i64 x4), .c (.sl [.int .i64] x5)]] := PureC_vc mo h43 (by kernel_rfl) hS (w43  h)
theorem p42 (w e t k : Int) (ss : List Int) : PCg Try.prog 42 S42 [kI] [dk w e t k ss] := by
  refine pc42 (e42 ..) ?_
  unfold vc42
  simp only [stdE, baseE, Br_iff, tbl42, forall_eq]
  simp only [p57, true_and]
  simp only [e57, List.getD_cons_zero, gi_int, Bool.not_eq_true', Bool.not_eq_false', beq_iff_eq, beq_eq_false_iff_ne]
  refine ⟨fun h => ?_, fun h => ⟨p58 (rngE_ok h) (by omega) (by omega), ?_⟩⟩
  · rw [chkE, if_pos h]
  · simp only [e58, List.getD_cons_zero, gl_sl, rowL_len, decide_eq_true_eq, decide_eq_false_iff_not]
    rw [chkE, if_neg (fun q => q h), show (1025 : Int).toNat = 1025 from rfl]
    refine ⟨fun q => by rw [if_pos (by omega)], fun q => by rw [if_neg (by omega)]⟩
theorem p43 (w e t k : Int) (ss : List Int) : PCg Try.prog 43 S43 [kI] [dk w e t k ss] := by
  refine pc43 (e43 ..) ?_
  unfold vc43
  simp only [stdE, baseE, Br_iff, tbl43, forall_eq]
  simp only [p59, p38, true_and]
  simp only [e59, e38, List.getD_cons_zero, gi_int, Bool.not_eq_true', Bool.not_eq_false', beq_iff_eq, beq_eq_false_iff_ne]
  refine ⟨fun h => ?_, fun h => ?_⟩
  · rw [chkE, if_pos h]
  · have hd := rngE_ok h
    rw [hd.usb]
    refine ⟨p60N hd (by omega) (by omega), ?_⟩
    rw [e60N, List.getD_cons_zero, gl_sl, rowL_len, chkE, if_neg (fun q => q h), show (1024 : Int).toNat + 1 = 1025 from rfl,
      enu_enl 1025 ss [] k (w - 2 * e) [] (fun s hs => (hd.sz s hs).1) hd.dn (by have := hd.k1; omega) (by have := hd.e1; omega)]
    simp only [decide_eq_true_eq, decide_eq_false_iff_not]
    refine ⟨fun q => by rw [if_pos (by omega)], fun q => by rw [if_neg (by omega)]⟩
def sFit : List A → List C := fun ds => match ds with
  | [.agg [.c (.int _ w), .c (.int _ e), .c (.int _ t), .c (.int _ k), .c (.sl _ xs)], .c (.sl _ c)] => [.int .i64 (fitsE w e t k (prI xs) (prI c))]
  | _ => []
def S45 : List A → List C := sFit
def S37 : List A → List C := sFit
theorem e45 (w e t k : Int) (ss c : List Int) : S45 [dk w e t k ss, sI (rowsI c)] = [.int .i64 (fitsE w e t k ss c)] := by
  show [C.int .i64 (fitsE w e t k (prI (rowsI ss)) (prI (rowsI c)))] = _
  rw [prI_rowsI, prI_rowsI]
theorem e37 (w e t k : Int) (ss c : List Int) : S37 [dk w e t k ss, sI (rowsI c)] = [.int .i64 (fitsE w e t k ss c)] := e45 w e t k ss c
def tbl45 : FuncId → List A → List C := fun f ds => match f with
  | 42 => S42 ds
  | 61 => S61 ds
  | _ => []
theorem pc45  {x1 : Int} {x2 : Int} {x3 : Int} {x4 : Int} {x5 : List (List C)} {x6 : List (List C)} {row : List C} (hS : S45 [.agg [.c (.int .i64 x1), .c (.int .i64 x2), .c (.int .i64 x3), .c (.int .i64 x4), .c (.sl [.int .i64] x5)], .c (.sl [.int .i64] x6)] = row) (h : vc45 (stdE Try.prog tbl45) x1 x2 x3 x4 x5 x6 fun c => c = row) : PCg Try.prog 45 S45 [(false, [.int .i64])] [.agg [.c (.int .i64 x1), .c (.int .i64 x2), .c (.int .i64 x3), .c (.int .i64 x4), .c (.sl [.int .i64] x5)], .c (.sl [.int .i64] x6)] := PureC_vc mo h45 (by kernel_rfl) hS (w45  h)
def tbl37 : FuncId → List A → List C := fun f ds => match f with
  | 43 => S43 ds
  | 44 => S44 ds
  | _ => []
theorem pc37  {x1 : Int} {x2 : Int} {x3 : Int} {x4 : Int} {x5 : List (List C)} {x6 : List (List C)} {row : List C} (hS : S37 [.agg [.c (.int .i64 x1), .c (.int .i64 x2), .c (.int .i64 x3), .c (.int .i64 x4), .c (.sl [.int .i64] x5)], .c (.sl [.int .i64] x6)] = row) (h : vc37 (stdE Try.prog tbl37) x1 x2 x3 x4 x5 x6 fun c => c = row) : PCg Try.prog 37 S37 [(false, [.int .i64])] [.agg [.c (.int .i64 x1), .c (.int .i64 x2), .c (.int .i64 x3), .c (.int .i64 x4), .c (.sl [.int .i64] x5)], .c (.sl [.int .i64] x6)] := PureC_vc mo h37 (by kernel_rfl) hS (w37  h)
theorem p45 (w e t k : Int) (ss : List Int) {c : List Int} (hc : c.length ≤ 1000000) : PCg Try.prog 45 S45 [kI] [dk w e t k ss, sI (rowsI c)] := by
  refine pc45 (e45 ..) ?_
  unfold vc45
  simp only [stdE, baseE, Br_iff, tbl45, forall_eq]
  simp only [p42, true_and]
  simp only [e42, List.getD_cons_zero, gi_int, Bool.not_eq_true', Bool.not_eq_false', beq_iff_eq, beq_eq_false_iff_ne]
  refine ⟨fun h => ?_, fun h => ⟨p61 (chkE_ok h) c hc, ?_⟩⟩
  · rw [fitsE, if_pos h]
  · rw [e61, fitsE, if_neg (fun q => q h), roomV]
    split
    · rename_i q; rw [q]; rfl
    · rfl
theorem p37 (w e t k : Int) (ss : List Int) {c : List Int} (hc : c.length ≤ 1000000) : PCg Try.prog 37 S37 [kI] [dk w e t k ss, sI (rowsI c)] := by
  refine pc37 (e37 ..) ?_
  unfold vc37
  simp only [stdE, baseE, Br_iff, tbl37, forall_eq]
  simp only [p43, true_and]
  simp only [e43, List.getD_cons_zero, gi_int, Bool.not_eq_true', Bool.not_eq_false', beq_iff_eq, beq_eq_false_iff_ne]
  refine ⟨fun h => ?_, fun h => ⟨p44 (chkE_ok h) c hc, ?_⟩⟩
  · rw [fitsE, if_pos h]
  · rw [e44, fitsE, if_neg (fun q => q h)]; rfl
/-! ### Strips -/
def stV (w e t k : Int) (ss c : List Int) : List C := [.sl l2 (if fitsE w e t k ss c = 0 then row2 (stL e (wsL c ss)) else []), .int .i64 (fitsE w e t k ss c)]
def sStr : List A → List C := fun ds => match ds with
  | [.agg [.c (.int _ w), .c (.int _ e), .c (.int _ t), .c (.int _ k), .c (.sl _ xs)], .c (.sl _ c)] => stV w e t k (prI xs) (prI c)
  | _ => []
def S39 : List A → List C := sStr
def S26 : List A → List C := sStr
theorem e39 (w e t k : Int) (ss c : List Int) : S39 [dk w e t k ss, sI (rowsI c)] = stV w e t k ss c := by
  show stV w e t k (prI (rowsI ss)) (prI (rowsI c)) = _
  rw [prI_rowsI, prI_rowsI]
theorem e26 (w e t k : Int) (ss c : List Int) : S26 [dk w e t k ss, sI (rowsI c)] = stV w e t k ss c := e39 w e t k ss c
theorem stL_snoc : ∀ (ws : List Int) (at' w : Int), stL at' (ws ++ [w]) = stL at' ws ++ [(at' + sumL ws, w)]
  | [], at', w => by simp [stL, sumL]
  | v :: r, at', w => by
    simp only [List.cons_append, stL, sumL]
    rw [stL_snoc r (at' + v) w]
    simp [Int.add_assoc]
theorem wsL_take {c ss : List Int} {n : Nat} (h1 : n < c.length) (h2 : n < ss.length) : wsL (c.take (n + 1)) (ss.take (n + 1)) = wsL (c.take n) (ss.take n) ++ List.replicate (c.getD n 0).toNat (ss.getD n 0) := by
  have key : ∀ (a b : List Int) (x s : Int), a.length = b.length → wsL (a ++ [x]) (b ++ [s]) = wsL a b ++ List.replicate x.toNat s := by
    intro a
    induction a with
    | nil =>
      intro b x s h
      cases b with
      | nil => simp [wsL]
      | cons _ _ => simp at h
    | cons y a ih =>
      intro b x s h
      cases b with
      | nil => simp at h
      | cons z b =>
        simp only [List.cons_append, wsL]
        rw [ih b x s (by simpa using h), List.append_assoc]
  rw [take_s h1, take_s h2, key _ _ _ _ (by simp; omega)]
theorem sum_rep (n : Nat) (s : Int) : sumL (List.replicate n s) = n * s := by
  induction n with
  | zero => simp [sumL]
  | succ n ih => rw [List.replicate_succ, sumL, ih]; push_cast; rw [Int.add_mul]; omega
theorem sumL_app (a b : List Int) : sumL (a ++ b) = sumL a + sumL b := by
  induction a with
  | nil => simp [sumL]
  | cons x a ih => simp only [List.cons_append, sumL, ih]; omega
/-- What both of the loops keep. -/
structure StJ (w e t k : Int) (ss c : List Int) (hd : DOk w e t k ss) (hf : Fit w e t k ss c) (n j : Nat) : Prop where
  hn : n ≤ c.length
  hj : (j : Int) ≤ c.getD n 0 ∨ j = 0
def stW (ss c : List Int) (n j : Nat) : List Int := wsL (c.take n) (ss.take n) ++ List.replicate j (ss.getD n 0)
theorem stW_up (ss c : List Int) (n j : Nat) : stW ss c n (j + 1) = stW ss c n j ++ [ss.getD n 0] := by
  unfold stW; rw [List.replicate_succ', List.append_assoc]
theorem stW_next {ss c : List Int} {n : Nat} (h1 : n < c.length) (h2 : n < ss.length) : stW ss c (n + 1) 0 = stW ss c n (c.getD n 0).toNat := by
  unfold stW; rw [wsL_take h1 h2]; simp
theorem stW_bd {w e t k : Int} {ss c : List Int} (hd : DOk w e t k ss) (hf : Fit w e t k ss c) {n j : Nat} (hn : n < c.length) (hj : (j : Int) ≤ c.getD n 0) : (stW ss c n j).length ≤ 12 ∧ 0 ≤ sumL (stW ss c n j) ∧ sumL (stW ss c n j) ≤ 144000 := by
  have hl := hf.len
  have hp : ∀ a ∈ c.take n, 0 ≤ a := fun a ha => hf.pos a (mem_take ha)
  have h1 := wsL_len (c.take n) (ss.take n) hp (by simp; omega)
  have h2 := wsL_sum (c.take n) (ss.take n) hp (by simp; omega)
  have h3 := dot_bd (c.take n) (ss.take n) hp fun s hs => hd.s12 s (mem_take hs)
  have h4 := sum_split c (n + 1)
  rw [take_s hn, sumL_snoc] at h4
  have h5 := sumL_nonneg (l := c.drop (n + 1)) fun a ha => hf.pos a (List.mem_of_mem_drop ha)
  have h6 := sumL_nonneg hp
  have hk := hf.knv; have k2 := hd.k2
  have hs := hd.s12 _ (getD_mem (l := ss) (d := 0) (n := n) (by omega))
  have hm : (j : Int) * ss.getD n 0 ≤ (j : Int) * 12000 := Int.mul_le_mul_of_nonneg_left hs.2 (by omega)
  have hm0 : 0 ≤ (j : Int) * ss.getD n 0 := Int.mul_nonneg (by omega) (by omega)
  unfold stW
  rw [sumL_app, sum_rep, List.length_append, List.length_replicate]
  omega
def tbl39 : FuncId → List A → List C := fun f ds => match f with
  | 45 => S45 ds
  | _ => []
theorem pc39  {x1 : Int} {x2 : Int} {x3 : Int} {x4 : Int} {x5 : List (List C)} {x6 : List (List C)} {row : List C} (hS : S39 [.agg [.c (.int .i64 x1), .c (.int .i64 x2), .c (.int .i64 x3), .c (.int .i64 x4), .c (.sl [.int .i64] x5)], .c (.sl [.int .i64] x6)] = row) (h : vc39 (stdE Try.prog tbl39) x1 x2 x3 x4 x5 x6 fun c => c = row) : PCg Try.prog 39 S39 [(false, [.sl [.int .i64, .int .i64]]), (false, [.int .i64])] [.agg [.c (.int .i64 x1), .c (.int .i64 x2), .c (.int .i64 x3), .c (.int .i64 x4), .c (.sl [.int .i64] x5)], .c (.sl [.int .i64] x6)] := PureC_vc mo h39 (by kernel_rfl) hS (w39  h)
def tbl26 : FuncId → List A → List C := fun f ds => match f with
  | 37 => S37 ds
  | _ => []
theorem pc26  {x1 : Int} {x2 : Int} {x3 : Int} {x4 : Int} {x5 : List (List C)} {x6 : List (List C)} {row : List C} (hS : S26 [.agg [.c (.int .i64 x1), .c (.int .i64 x2), .c (.int .i64 x3), .c (.int .i64 x4), .c (.sl [.int .i64] x5)], .c (.sl [.int .i64] x6)] = row) (h : vc26 (stdE Try.prog tbl26) x1 x2 x3 x4 x5 x6 fun c => c = row) : PCg Try.prog 26 S26 [(false, [.sl [.int .i64, .int .i64]]), (false, [.int .i64])] [.agg [.c (.int .i64 x1), .c (.int .i64 x2), .c (.int .i64 x3), .c (.int .i64 x4), .c (.sl [.int .i64] x5)], .c (.sl [.int .i64] x6)] := PureC_vc mo h26 (by kernel_rfl) hS (w26  h)
theorem p39 (w e t k : Int) (ss : List Int) {c : List Int} (hc : c.length ≤ 1000000) : PCg Try.prog 39 S39 [kS2, kI] [dk w e t k ss, sI (rowsI c)] := by
  refine pc39 (e39 ..) ?_
  unfold vc39
  simp only [stdE, baseE, Br_iff, tbl39, forall_eq, rowsI_len, rowsI_getD]
  simp only [p45 w e t k ss hc, true_and]
  simp only [e45, List.getD_cons_zero, gi_int, Bool.not_eq_true', Bool.not_eq_false', beq_iff_eq, beq_eq_false_iff_ne, decide_eq_true_eq, decide_eq_false_iff_not]
  refine ⟨fun h => ?_, fun h => ?_⟩
  · rw [stV, if_neg h]
  obtain ⟨hd, hf⟩ := fitsE_ok h
  have hl := hf.len; have n8 := hd.n8; have w2 := hd.w2; have e0 := hd.e0; have e1 := hd.e1
  refine LoopP3.run (x1 := []) (x2 := e) (x3 := 0) (fun n : Nat => row2 (stL e (stW ss c n 0))) (fun n => e + sumL (stW ss c n 0)) (fun n => (n : Int)) (fun n => n ≤ c.length) (fun n => c.length - n) 0 (Nat.zero_le _) (by simp [stW, wsL, stL, row2]) (by simp [stW, wsL, sumL]) rfl ?_
  intro n hn K hK
  refine ⟨fun h1 => ⟨by omega, ?_⟩, fun h1 => ?_⟩
  · have hlt : n < c.length := by omega
    have hpn := hf.pos _ (getD_mem (d := 0) hlt)
    have hs := hd.s12 _ (getD_mem (l := ss) (d := 0) (n := n) (by omega))
    simp only [toNat_cast]
    refine LoopP3.run (x1 := row2 (stL e (stW ss c n 0))) (x2 := e + sumL (stW ss c n 0)) (x3 := 0) (fun j : Nat => row2 (stL e (stW ss c n j))) (fun j => e + sumL (stW ss c n j)) (fun j => (j : Int)) (fun j => (j : Int) ≤ c.getD n 0) (fun j => (c.getD n 0).toNat - j) 0 (by omega) rfl rfl rfl ?_
    intro j hj K2 hK2
    obtain ⟨b1, b2, b3⟩ := stW_bd hd hf hlt hj
    have bj : j ≤ (stW ss c n j).length := by unfold stW; simp
    refine ⟨fun h2 => ⟨by omega, by rw [row2_len, stL_len]; simp; omega, ?_⟩, fun h2 => ?_⟩
    · refine hK2 _ _ _ (j + 1) (by omega) (by omega) ?_ ?_ (wrap_up rfl (by omega))
      · rw [stW_up, stL_snoc, row2_append]; rfl
      · rw [stW_up, sumL_snoc, wrap_in (by omega) (by omega)]; omega
    · have hjn : j = (c.getD n 0).toNat := by omega
      refine hK _ _ _ (n + 1) hlt (by omega) ?_ ?_ (wrap_up rfl (by omega))
      · rw [stW_next hlt (by omega), hjn]
      · rw [stW_next hlt (by omega), hjn]
  · have hnl : n = c.length := by omega
    subst hnl
    rw [stV, if_pos h, h]
    unfold stW
    rw [List.take_length, List.take_of_length_le (by omega)]
    simp
theorem p26 (w e t k : Int) (ss : List Int) {c : List Int} (hc : c.length ≤ 1000000) : PCg Try.prog 26 S26 [kS2, kI] [dk w e t k ss, sI (rowsI c)] := by
  refine pc26 (e26 ..) ?_
  unfold vc26
  simp only [stdE, baseE, Br_iff, tbl26, forall_eq, rowsI_len, rowsI_getD]
  simp only [p37 w e t k ss hc, true_and]
  simp only [e37, List.getD_cons_zero, gi_int, Bool.not_eq_true', Bool.not_eq_false', beq_iff_eq, beq_eq_false_iff_ne, decide_eq_true_eq, decide_eq_false_iff_not]
  refine ⟨fun h => ?_, fun h => ?_⟩
  · rw [stV, if_neg h]
  obtain ⟨hd, hf⟩ := fitsE_ok h
  have hl := hf.len; have n8 := hd.n8; have w2 := hd.w2; have e0 := hd.e0; have e1 := hd.e1
  refine LoopP3.run (x1 := []) (x2 := e) (x3 := 0) (fun n : Nat => row2 (stL e (stW ss c n 0))) (fun n => e + sumL (stW ss c n 0)) (fun n => (n : Int)) (fun n => n ≤ c.length) (fun n => c.length - n) 0 (Nat.zero_le _) (by simp [stW, wsL, stL, row2]) (by simp [stW, wsL, sumL]) rfl ?_
  intro n hn K hK
  refine ⟨fun h1 => ?_, fun h1 => ?_⟩
  · have hlt : n < c.length := by omega
    have hpn := hf.pos _ (getD_mem (d := 0) hlt)
    have hs := hd.s12 _ (getD_mem (l := ss) (d := 0) (n := n) (by omega))
    simp only [toNat_cast]
    refine LoopP3.run (x1 := row2 (stL e (stW ss c n 0))) (x2 := e + sumL (stW ss c n 0)) (x3 := 0) (fun j : Nat => row2 (stL e (stW ss c n j))) (fun j => e + sumL (stW ss c n j)) (fun j => (j : Int)) (fun j => (j : Int) ≤ c.getD n 0) (fun j => (c.getD n 0).toNat - j) 0 (by omega) rfl rfl rfl ?_
    intro j hj K2 hK2
    obtain ⟨b1, b2, b3⟩ := stW_bd hd hf hlt hj
    have bj : j ≤ (stW ss c n j).length := by unfold stW; simp
    refine ⟨by omega, fun h2 => ⟨by omega, by rw [row2_len, stL_len]; simp; omega, ?_⟩, fun h2 => ?_⟩
    · refine hK2 _ _ _ (j + 1) (by omega) (by omega) ?_ ?_ (wrap_up rfl (by omega))
      · rw [stW_up, stL_snoc, row2_append]; rfl
      · rw [stW_up, sumL_snoc, wrap_in (by omega) (by omega)]; omega
    · have hjn : j = (c.getD n 0).toNat := by omega
      refine hK _ _ _ (n + 1) hlt (by omega) ?_ ?_ (wrap_up rfl (by omega))
      · rw [stW_next hlt (by omega), hjn]
      · rw [stW_next hlt (by omega), hjn]
  · have hnl : n = c.length := by omega
    subst hnl
    rw [stV, if_pos h, h]
    unfold stW
    rw [List.take_length, List.take_of_length_le (by omega)]
    simp
end Go.Proofs.Ytjmgphobpgajbaa.V
