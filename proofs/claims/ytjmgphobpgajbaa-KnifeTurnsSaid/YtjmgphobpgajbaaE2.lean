/- An abstract machine over plain data, with a proof that it follows the model (2 of 5). No conditions. -/
import Derived.Test.YtjmgphobpgajbaaE1
import Derived.Deep.Upon
import Derived.Laws.Append
import Derived.Tactics
set_option linter.unusedVariables false
set_option linter.unusedSimpArgs false
/- An abstract machine over plain data, part H: freezing, data, calls of functions that change nothing. -/
namespace Go.Eng
open Go.RowKit

theorem kindOf_fix {c : C} {k : LK} (h : kindOf (.c c) = some k) : fixC k c = c := by
  cases c <;> simp [kindOf] at h <;> subst h <;> rfl

theorem kindsOf_spec : ∀ {cs : List A} {ks : List LK} {row : List C}, kindsOf cs = some (ks, row) → ks.length = cs.length ∧ ∀ j (h : j < cs.length), cs[j] = .c (fixC (ks.getD j .bool) (row.getD j .nil))
  | [], ks, row, h => by simp [kindsOf] at h; obtain ⟨rfl, rfl⟩ := h; exact ⟨rfl, fun j h => by simp at h⟩
  | a :: cs, ks, row, h => by
    unfold kindsOf at h
    split at h
    · rename_i e; cases e
    · rename_i c as e
      cases e
      split at h
      · rename_i k ks' cs' e1 e2
        cases h
        obtain ⟨h1, h2⟩ := kindsOf_spec e2
        refine ⟨by simp [h1], fun j hj => ?_⟩
        cases j with
        | zero => simp [kindOf_fix e1]
        | succ j => simp at hj ⊢; simpa using h2 j hj
      · cases h
    · cases h

/-- A variable becomes frozen. -/
theorem HR.freezeBox {w0 : Base} {w : World} {G : Gh} {H : List O} (h : HR w0 G H w) {id : Nat} {T : TypeId} {cs : List A} (hid : H[id]? = some (.box T cs)) {lay : List LK} {row : List C} (hk : kindsOf cs = some (lay, row)) :
    ∃ G', HR w0 G' (H.set id (.frz lay [row])) w ∧ Gh.Le w0.keeps G G' ∧ G'.al = G.al := by
  obtain ⟨ha, hp, hc, hz, vs, hb, hs, hv⟩ := h.obj id _ hid
  obtain ⟨hn1, hn2, hn3⟩ := h.new id _ hid rfl hp
  obtain ⟨k1, k2⟩ := kindsOf_spec hk
  have hLe := Gh.le_ice (m := w0.keeps) (f := iceF cs.length vs) hn2 hn1
  obtain ⟨h1, h2⟩ := h.frozen hid rfl hp hb cs.length (.frz lay [row]) rfl ⟨ha, hc, by rw [k1]; exact hz, fun _ i j hi hj => by
    have hi0 : i = 0 := by simpa using hi
    subst hi0
    have hj' : j < cs.length := by omega
    have hjs : j < vs.size := by omega
    have hvr := (hv j hj' hjs).1
    rw [k2 j hj'] at hvr
    cases hvr with
    | c hcr =>
      refine ⟨vs[j], ?_, hcr.mono hLe.F⟩
      show (if G.blk id = G.blk id then _ else _) = _
      rw [if_pos rfl, Nat.zero_mul, Nat.zero_add]
      exact iceF_at hj' (Array.getElem?_eq_getElem hjs) hcr.one, fun h2 => by change G.ph id = true at h2; rw [hp] at h2; cases h2⟩
  exact ⟨_, h1, h2, rfl⟩

section
variable {P : Program} {w0 : Base} {w : World} {G : Gh} {H : List O} {rs : FuncId → List A → Nat → C} {pk : FuncId → List (Bool × List LK) → List A → Prop}

/-- A write that freezes an object of H. -/
def FrzW (H : List O) (ws : List (Nat × O)) : Prop := ∀ x ∈ ws, frz1 H x.1 = [x]

theorem frz1_W (H : List O) (id : Nat) : FrzW H (frz1 H id) := by
  intro x hx
  have : ∀ o, frz1 H id = [(id, o)] → x ∈ [(id, o)] → frz1 H x.1 = [x] := by
    intro o e h
    simp at h
    subst h
    exact e
  unfold frz1 at hx this
  split at hx
  · rename_i e; simp only [e] at this; exact this _ rfl hx
  · rename_i e
    split at hx
    · rename_i e2; simp only [e, e2] at this; exact this _ rfl hx
    · cases hx
  · rename_i e; simp only [e] at this; exact this _ rfl hx
  · cases hx

mutual
theorem frzA_W (H : List O) : ∀ a, FrzW H (frzA H a)
  | .gr id => frz1_W H id
  | .own id _ _ => frz1_W H id
  | .ptr id _ => frz1_W H id
  | .agg l => frzL_W H l
  | .fn _ l => frzL_W H l
  | .c _ => by simp [frzA, FrzW]
  | .u => by simp [frzA, FrzW]
  | .wh _ _ => by simp [frzA, FrzW]
  | .eptr _ _ _ => by simp [frzA, FrzW]
  | .el _ _ _ _ => by simp [frzA, FrzW]
  | .np => by simp [frzA, FrzW]
  | .map id => frz1_W H id
  | .nm => by simp [frzA, FrzW]
  | .pin _ _ => by simp [frzA, FrzW]
  | .nf => by simp [frzA, FrzW]
  | .tup _ => by simp [frzA, FrzW]
theorem frzL_W (H : List O) : ∀ l, FrzW H (frzL H l)
  | [] => by simp [frzL, FrzW]
  | a :: l => by
    intro x hx
    simp only [frzL, List.mem_append] at hx
    exact hx.elim (frzA_W H a x) (frzL_W H l x)
end

theorem set_same {H : List O} {id : Nat} {o : O} (h : H[id]? = some o) : H.set id o = H := by
  obtain ⟨hlt, e⟩ := List.getElem?_eq_some_iff.1 h
  rw [← e]; exact List.set_getElem_self hlt

theorem putW_length : ∀ (ws : List (Nat × O)) (H : List O), (putW H ws).length = H.length
  | [], H => rfl
  | x :: ws, H => by rw [putW, putW_length, List.length_set]

theorem freeze_one {id : Nat} {o : O} (hH : HR w0 G H w) (h : frz1 H id = [(id, o)]) : ∃ G', HR w0 G' (H.set id o) w ∧ Gh.Le w0.keeps G G' ∧ G'.al = G.al := by
  unfold frz1 at h
  split at h
  · rename_i e; cases h; exact hH.freeze e
  · rename_i e
    split at h
    · rename_i e2; cases h; exact hH.freezeBox e e2
    · cases h
  · rename_i e; cases h; exact hH.freezeMap e
  · cases h

theorem frz1_lt {H : List O} {id : Nat} {o : O} (h : frz1 H id = [(id, o)]) : id < H.length := by
  unfold frz1 at h
  split at h
  · rename_i e; exact lt_of_get e
  · rename_i e; exact lt_of_get e
  · rename_i e; exact lt_of_get e
  · cases h

theorem freeze_all (H0 : List O) : ∀ (ws : List (Nat × O)) {H : List O} {G : Gh}, FrzW H0 ws → HR w0 G H w → H.length = H0.length →
    (∀ id, H[id]? = H0[id]? ∨ ∃ o, frz1 H0 id = [(id, o)] ∧ H[id]? = some o) → ∃ G', HR w0 G' (putW H ws) w ∧ Gh.Le w0.keeps G G' ∧ G'.al = G.al
  | [], H, G, _, hH, _, _ => ⟨G, hH, Gh.Le.refl _ _, rfl⟩
  | (id, o) :: ws, H, G, hw, hH, hl, hi => by
    have h1 := hw (id, o) (by simp)
    have hlt := frz1_lt h1
    have hw' : FrzW H0 ws := fun x hx => hw x (by simp [hx])
    have hi' : ∀ (H' : List O), H' = H.set id o → ∀ j, H'[j]? = H0[j]? ∨ ∃ o, frz1 H0 j = [(j, o)] ∧ H'[j]? = some o := by
      rintro _ rfl j
      by_cases hj : j = id
      · subst hj; exact .inr ⟨o, h1, by rw [List.getElem?_set_self (by omega)]⟩
      · rw [List.getElem?_set_ne (Ne.symm hj)]; exact hi j
    have h2 : ∃ G', HR w0 G' (H.set id o) w ∧ Gh.Le w0.keeps G G' ∧ G'.al = G.al := by
      rcases hi id with e | ⟨o', e1, e2⟩
      · refine freeze_one hH ?_
        unfold frz1 at h1 ⊢
        rw [e]; exact h1
      · rw [h1] at e1
        cases e1
        rw [set_same e2]; exact ⟨G, hH, Gh.Le.refl _ _, rfl⟩
    obtain ⟨G1, g1, g2, g3⟩ := h2
    obtain ⟨G2, k1, k2, k3⟩ := freeze_all H0 ws hw' g1 (by simpa using hl) (hi' _ rfl)
    exact ⟨G2, k1, g2.trans k2, k3.trans g3⟩

theorem freezeL (l : List A) (hH : HR w0 G H w) : ∃ G', HR w0 G' (putW H (frzL H l)) w ∧ Gh.Le w0.keeps G G' ∧ G'.al = G.al :=
  freeze_all H _ (frzL_W H l) hH rfl fun _ => .inl rfl

/-! ### Data -/
mutual
/-- Nothing in it names an object. -/
def A.dt : A → Bool
  | .c _ => true
  | .u => true
  | .el _ _ _ _ => true
  | .np => true
  | .nm => true
  | .nf => true
  | .agg l => A.dts l
  | .fn _ l => A.dts l
  | .tup l => A.dts l
  | _ => false
def A.dts : List A → Bool
  | [] => true
  | a :: as => a.dt && A.dts as
end
theorem A.dts_get : ∀ {l : List A}, A.dts l = true → ∀ i (h : i < l.length), l[i].dt = true
  | [], _, i, h => by simp at h
  | a :: l, hd, i, h => by
    simp only [A.dts, Bool.and_eq_true] at hd
    cases i with
    | zero => exact hd.1
    | succ i => simp at h ⊢; exact A.dts_get hd.2 i h

theorem VR.data {G G' : Gh} {a : A} {v : Value} (h : VR G a v) (hd : a.dt = true) (hF : ∀ b o v, G.F b o = some v → G'.F b o = some v) : VR G' a v := by
  induction h with
  | c h => exact .c (h.mono hF)
  | u v => exact .u v
  | wh => cases hd
  | own => cases hd
  | ownn => cases hd
  | gr => cases hd
  | grn => cases hd
  | ptr => cases hd
  | eptr => cases hd
  | el lay xs i off b o vs h0 h1 hF' hv => exact .el lay xs i off b o vs h0 h1 (fun j hj => hF _ _ _ (hF' j hj)) fun j hj => (hv j hj).mono hF
  | np => exact .np
  | map => cases hd
  | nm => exact .nm
  | pin => cases hd
  | fn f l vs hl h ih => exact .fn f l vs hl fun i h1 h2 => ih i h1 h2 (A.dts_get hd i h1)
  | nf => exact .nf
  | agg l vs hl h1 h ih => exact .agg l vs hl h1 fun i h2 h3 => ih i h2 h3 (A.dts_get hd i h2)
  | tup l vs hl h ih => exact .tup l vs hl fun i h2 h3 => ih i h2 h3 (A.dts_get hd i h2)

theorem gr_data {id : Nat} {lay : List LK} {xs : List (List C)} {v : Value} (hH : HR w0 G H w) (hid : H[id]? = some (.frz lay xs)) (h : VR G (.gr id) v) : VR G (.c (.sl lay xs)) v := by
  obtain ⟨_, hc, hz, hR, hn⟩ := hH.obj id _ hid
  obtain ⟨_, ⟨hp, hcn, e1⟩ | ⟨hp, ad, e1, hlen, had⟩⟩ := h.gr_inv
  · have hx := hn hp
    subst hx
    subst e1
    exact .c (.sl lay [] none 0 0 0 (fun _ _ => .bool false) (by simp) (fun h => absurd rfl h) (fun i j h => by simp at h) (fun i j h => by simp at h))
  · subst e1
    rw [hc]
    have hR := hR hp
    have hch : ∃ g : Nat → Nat → Value, ∀ i j, i < xs.length → j < lay.length → G.F (G.blk id) (i * lay.length + j) = some (g i j) ∧ CR G.F (cellC lay xs i j) (g i j) := by
      refine ⟨fun i j => if h : i < xs.length ∧ j < lay.length then (hR i j h.1 h.2).choose else default, fun i j hi hj => ?_⟩
      simp only [dif_pos (And.intro hi hj)]
      exact (hR i j hi hj).choose_spec
    obtain ⟨g, hg⟩ := hch
    refine .c (.sl lay xs (some ad) _ (G.blk id) 0 g (by omega) (fun hne => ?_) (fun i j hi hj => ?_) (fun i j hi hj => (hg i j hi hj).2))
    · have : 0 < xs.length := List.length_pos_iff.2 hne
      rw [had (by omega)]
    · rw [Nat.zero_add]; exact (hg i j hi hj).1

theorem own_data {id : Nat} {off len : Int} {lay : List LK} {xs : List (List C)} {v : Value} (hH : HR w0 G H w) (hid : H[id]? = some (.frz lay xs)) (h : VR G (.own id off len) v) :
    VR G (.c (.sl lay ((baseE rs pk).cut xs off ((baseE rs pk).pl off len)))) v := by
  obtain ⟨_, hc, hz, hR, hn⟩ := hH.obj id _ hid
  show VR G (.c (.sl lay ((xs.take (off + len).toNat).drop off.toNat))) v
  rcases h.own_inv' with ⟨cap, ad, e1, _, hp, h0, h1, hcap, hcnt, hlen, had⟩ | ⟨_, hp, hcn, h0, h1, e1⟩
  · subst e1
    have hR := hR hp
    have hll : ((xs.take (off + len).toNat).drop off.toNat).length = len.toNat := by simp; omega
    have hch : ∃ g : Nat → Nat → Value, ∀ i j, i < len.toNat → j < lay.length → G.F (G.blk id) ((off.toNat + i) * lay.length + j) = some (g i j) ∧ CR G.F (cellC lay xs (off.toNat + i) j) (g i j) := by
      refine ⟨fun i j => if h : i < len.toNat ∧ j < lay.length then (hR (off.toNat + i) j (by omega) h.2).choose else default, fun i j hi hj => ?_⟩
      simp only [dif_pos (And.intro hi hj)]
      exact (hR (off.toNat + i) j (by omega) hj).choose_spec
    obtain ⟨g, hg⟩ := hch
    rw [← hll]
    refine .c (.sl lay _ (some ad) _ (G.blk id) (off.toNat * G.esz id) g (by omega) (fun hne => ?_) (fun i j hi hj => ?_) (fun i j hi hj => ?_))
    · have : 0 < ((xs.take (off + len).toNat).drop off.toNat).length := List.length_pos_iff.2 hne
      rw [had (by omega)]
    · have := (hg i j (by omega) hj).1
      rw [← this, hz, Nat.add_mul]; congr 1; omega
    · have := (hg i j (by omega) hj).2
      rw [← cellC_cut lay xs off.toNat (off + len).toNat i j (by omega)] at this
      exact this
  · have hx := hn hp
    subst hx
    subst e1
    simp only [List.take_nil, List.drop_nil]
    exact .c (.sl lay [] none 0 0 0 (fun _ _ => .bool false) (by simp) (fun h => absurd rfl h) (fun i j h => by simp at h) (fun i j h => by simp at h))

theorem ptr_data {id off : Nat} {lay : List LK} {x : List C} {xs : List (List C)} {v : Value} (hH : HR w0 G H w) (hid : H[id]? = some (.frz lay (x :: xs))) (h : VR G (.ptr id off) v) : VR G (.el lay (x :: xs) 0 off) v := by
  obtain ⟨_, hc, hz, hR, hn⟩ := hH.obj id _ hid
  obtain ⟨_, hp, e⟩ := h.ptr_inv
  subst e
  have hR := hR hp
  have hch : ∃ g : Nat → Value, ∀ j, j < lay.length → G.F (G.blk id) (0 * lay.length + j) = some (g j) ∧ CR G.F (cellC lay (x :: xs) 0 j) (g j) := by
    refine ⟨fun j => if h : j < lay.length then (hR 0 j (by simp) h).choose else default, fun j hj => ?_⟩
    simp only [dif_pos hj]
    exact (hR 0 j (by simp) hj).choose_spec
  obtain ⟨g, hg⟩ := hch
  have := VR.el (G := G) lay (x :: xs) 0 off (G.blk id) 0 g (Int.le_refl 0) (by simp) (fun j hj => by have := (hg j hj).1; rw [Nat.zero_mul] at this; exact this) (fun j hj => (hg j hj).2)
  rwa [Nat.zero_add] at this

theorem map_data {id : Nat} {kk : IntKind} {row : Bool} {lay : List LK} {es : List (Int × List C)} {v : Value} (hH : HR w0 G H w) (hid : H[id]? = some (.fmp kk row lay es)) (h : VR G (.map id) v) : VR G (.c (.mp kk row lay es)) v := by
  obtain ⟨_, hp, ms, clock, hF, hm⟩ := hH.obj id _ hid
  obtain ⟨_, _, e⟩ := h.map_inv
  subst e
  have hch : ∃ g : Nat → Nat → Value, ∀ i (h1 : i < es.length) (h2 : i < ms.size), ms[i].val = mval row lay.length (g i) ∧ ∀ j, j < lay.length → CR G.F (fixC (lay.getD j .bool) (es[i].2.getD j .nil)) (g i j) := by
    refine ⟨fun i => if h : i < es.length ∧ i < ms.size then (hm.val i h.1 h.2).choose else default, fun i h1 h2 => ?_⟩
    simp only [dif_pos (And.intro h1 h2)]
    exact (hm.val i h1 h2).choose_spec
  obtain ⟨g, hg⟩ := hch
  refine .c (.mp kk row lay es (some (G.blk id)) ms clock g (fun h => by cases h) (fun b hb => by cases hb; exact hF) (fun _ => hm.st) hm.wide (fun _ i h => (hg i (by rw [← hm.st.size]; exact h) h).1) fun i j hi hj => ?_)
  have := (hg i hi (by rw [hm.st.size]; exact hi)).2 j hj
  simpa [mcell, List.getD, hi] using this

mutual
theorem dat_sound (hH : HR w0 G H w) : ∀ (a : A) (d : A) (v : Value), dat (baseE rs pk) H a = some d → VR G a v → d.dt = true ∧ VR G d v
  | .c c, d, v, h, hv => by simp only [dat, Option.some.injEq] at h; subst h; exact ⟨rfl, hv⟩
  | .el lay xs i off, d, v, h, hv => by simp only [dat, Option.some.injEq] at h; subst h; exact ⟨rfl, hv⟩
  | .gr id, d, v, h, hv => by
    simp only [dat] at h
    split at h
    · rename_i e; cases h; exact ⟨rfl, gr_data hH e hv⟩
    · cases h
  | .own id off len, d, v, h, hv => by
    simp only [dat] at h
    split at h
    · rename_i e; cases h; exact ⟨rfl, own_data hH e hv⟩
    · cases h
  | .ptr id off, d, v, h, hv => by
    simp only [dat] at h
    split at h
    · rename_i e; cases h; exact ⟨rfl, ptr_data hH e hv⟩
    · cases h
  | .np, d, v, h, hv => by simp only [dat, Option.some.injEq] at h; subst h; exact ⟨rfl, hv⟩
  | .nm, d, v, h, hv => by simp only [dat, Option.some.injEq] at h; subst h; exact ⟨rfl, hv⟩
  | .nf, d, v, h, hv => by simp only [dat, Option.some.injEq] at h; subst h; exact ⟨rfl, hv⟩
  | .agg l, d, v, h, hv => by
    simp only [dat, Option.map_eq_some_iff] at h
    obtain ⟨ds, e, rfl⟩ := h
    obtain ⟨vs, rfl, hl, h1, h2⟩ := hv.agg_inv
    obtain ⟨k1, k2, k3⟩ := datL_sound hH l ds vs.toList e (by simpa using hl) (fun i a b => by simpa using h2 i a (by simpa using b))
    exact ⟨k1, .agg ds vs (by rw [hl, k2]) h1 fun i a b => by have := k3 i a (by simpa using b); rw [Array.getElem_toList] at this; exact this⟩
  | .fn f l, d, v, h, hv => by
    simp only [dat, Option.map_eq_some_iff] at h
    obtain ⟨ds, e, rfl⟩ := h
    obtain ⟨vs, rfl, hl, h2⟩ := hv.fn_inv
    obtain ⟨k1, k2, k3⟩ := datL_sound hH l ds vs.toList e (by simpa using hl) (fun i a b => by simpa using h2 i a (by simpa using b))
    exact ⟨k1, .fn f ds vs (by rw [hl, k2]) fun i a b => by have := k3 i a (by simpa using b); rw [Array.getElem_toList] at this; exact this⟩
  | .u, d, v, h, hv => by simp [dat] at h
  | .wh _ _, d, v, h, hv => by simp [dat] at h
  | .eptr _ _ _, d, v, h, hv => by simp [dat] at h
  | .map id, d, v, h, hv => by
    simp only [dat] at h
    split at h
    · rename_i e; cases h; exact ⟨rfl, map_data hH e hv⟩
    · cases h
  | .tup _, d, v, h, hv => by simp [dat] at h
  | .pin _ _, d, v, h, hv => by simp [dat] at h
theorem datL_sound (hH : HR w0 G H w) : ∀ (l ds : List A) (vs : List Value), datL (baseE rs pk) H l = some ds → vs.length = l.length → (∀ i (_ : i < l.length) (_ : i < vs.length), VR G l[i] vs[i]) →
    A.dts ds = true ∧ ds.length = l.length ∧ ∀ i (_ : i < ds.length) (_ : i < vs.length), VR G ds[i] vs[i]
  | [], ds, vs, h, hl, _ => by simp only [datL, Option.some.injEq] at h; subst h; exact ⟨rfl, rfl, fun i h => by simp at h⟩
  | a :: l, ds, [], h, hl, _ => by simp at hl
  | a :: l, ds, v :: vs, h, hl, hv => by
    simp only [datL] at h
    split at h
    · rename_i x xs e1 e2
      cases h
      obtain ⟨k1, k2⟩ := dat_sound hH a x v e1 (hv 0 (by simp) (by simp))
      obtain ⟨m1, m2, m3⟩ := datL_sound hH l xs vs e2 (by simpa using hl) (fun i h1 h2 => by
        have := hv (i + 1) (by simp; omega) (by simp; omega)
        simpa using this)
      refine ⟨by simp [A.dts, k1, m1], by simp [m2], fun i h1 h2 => ?_⟩
      cases i with
      | zero => exact k2
      | succ i => simp at h1 h2 ⊢; exact m3 i h1 h2
    · cases h
end
end
end Go.Eng

/- An abstract machine over plain data, part I: calls of functions that change nothing. -/
namespace Go.Eng
open Go.RowKit

def E0 : Env := baseE (fun _ _ _ => .nil) fun _ _ _ => True
/-- A function's results, one cell behind another. -/
def shapeC (get : Nat → C) (rty : List (Bool × List LK)) : A := shapeV E0 get rty
theorem partV_base {rs : FuncId → List A → Nat → C} {pk : FuncId → List (Bool × List LK) → List A → Prop} (get : Nat → C) : ∀ (ks : List LK) (i : Nat), partV (baseE rs pk) get i ks = partV E0 get i ks
  | [], i => rfl
  | k :: ks, i => by simp only [partV, partV_base get ks, fixE_base]; rw [show fixE E0 k (get i) = fixC k (get i) from fixE_base _ _]
theorem partsV_base {rs : FuncId → List A → Nat → C} {pk : FuncId → List (Bool × List LK) → List A → Prop} (get : Nat → C) : ∀ (rty : List (Bool × List LK)) (i : Nat), partsV (baseE rs pk) get i rty = partsV E0 get i rty
  | [], i => rfl
  | (false, ks) :: ps, i => by simp only [partsV, partsV_base get ps, partV_base]
  | (true, ks) :: ps, i => by simp only [partsV, partsV_base get ps, partV_base]
theorem shapeV_base {rs : FuncId → List A → Nat → C} {pk : FuncId → List (Bool × List LK) → List A → Prop} (get : Nat → C) (rty : List (Bool × List LK)) : shapeV (baseE rs pk) get rty = shapeC get rty := by
  unfold shapeV shapeC shapeV; rw [partsV_base]

mutual
/-- Numbers, bools and strings alone. -/
def A.pl : A → Bool
  | .c (.int _ _) => true
  | .c (.bool _) => true
  | .c (.str _) => true
  | .u => true
  | .agg l => A.pls l
  | .tup l => A.pls l
  | _ => false
def A.pls : List A → Bool
  | [] => true
  | a :: as => a.pl && A.pls as
end
theorem A.pls_get : ∀ {l : List A}, A.pls l = true → ∀ i (h : i < l.length), l[i].pl = true
  | [], _, i, h => by simp at h
  | a :: l, hd, i, h => by
    simp only [A.pls, Bool.and_eq_true] at hd
    cases i with
    | zero => exact hd.1
    | succ i => simp at h ⊢; exact A.pls_get hd.2 i h

theorem VR.plain {G G' : Gh} {a : A} {v : Value} (h : VR G a v) (hd : a.pl = true) : VR G' a v := by
  induction h with
  | c h =>
    cases h with
    | int => exact .c (.int _ _)
    | bool => exact .c (.bool _)
    | str => exact .c (.str _)
    | nil => cases hd
    | sl => cases hd
    | mp => cases hd
  | u v => exact .u v
  | wh => cases hd
  | own => cases hd
  | ownn => cases hd
  | gr => cases hd
  | grn => cases hd
  | ptr => cases hd
  | eptr => cases hd
  | el => cases hd
  | np => cases hd
  | map => cases hd
  | nm => cases hd
  | pin => cases hd
  | fn => cases hd
  | nf => cases hd
  | agg l vs hl h1 h ih => exact .agg l vs hl h1 fun i h2 h3 => ih i h2 h3 (A.pls_get hd i h2)
  | tup l vs hl h ih => exact .tup l vs hl fun i h2 h3 => ih i h2 h3 (A.pls_get hd i h2)

theorem partV_pl (get : Nat → C) : ∀ (ks : List LK) (i : Nat), ks.all LK.plain = true → A.pls (partV E0 get i ks) = true
  | [], i, _ => rfl
  | k :: ks, i, h => by
    simp only [List.all_cons, Bool.and_eq_true] at h
    simp only [partV, A.pls, Bool.and_eq_true]
    refine ⟨?_, partV_pl get ks _ h.2⟩
    cases k with
    | sl lay => simp [LK.plain] at h
    | mp kk row lay => simp [LK.plain] at h
    | _ => rfl
theorem partsV_pl (get : Nat → C) : ∀ (rty : List (Bool × List LK)) (i : Nat), plainR rty = true → A.pls (partsV E0 get i rty) = true
  | [], i, _ => rfl
  | (false, ks) :: ps, i, h => by
    simp only [plainR, List.all_cons, Bool.and_eq_true] at h
    simp only [partsV, A.pls, Bool.and_eq_true]
    refine ⟨?_, partsV_pl get ps _ h.2⟩
    have := partV_pl get ks i h.1
    cases e : partV E0 get i ks with
    | nil => rfl
    | cons a l => rw [e] at this; simp only [A.pls, Bool.and_eq_true] at this; exact this.1
  | (true, ks) :: ps, i, h => by
    simp only [plainR, List.all_cons, Bool.and_eq_true] at h
    simp only [partsV, A.pls, Bool.and_eq_true]
    exact ⟨partV_pl get ks i h.1, partsV_pl get ps _ h.2⟩
theorem shapeC_pl (get : Nat → C) (rty : List (Bool × List LK)) (h : plainR rty = true) : (shapeC get rty).pl = true := by
  have := partsV_pl get rty 0 h
  unfold shapeC shapeV
  generalize partsV E0 get 0 rty = l at this
  match l, this with
  | [], h => exact h
  | [a], h => simp only [A.pls, Bool.and_true] at h; exact h
  | a :: b :: l, h => exact h

theorem partV_dt (get : Nat → C) : ∀ (ks : List LK) (i : Nat), A.dts (partV E0 get i ks) = true
  | [], i => rfl
  | k :: ks, i => by simp only [partV, A.dts, Bool.and_eq_true]; exact ⟨rfl, partV_dt get ks _⟩
theorem partsV_dt (get : Nat → C) : ∀ (rty : List (Bool × List LK)) (i : Nat), A.dts (partsV E0 get i rty) = true
  | [], i => rfl
  | (false, ks) :: ps, i => by
    simp only [partsV, A.dts, Bool.and_eq_true]
    refine ⟨?_, partsV_dt get ps _⟩
    have := partV_dt get ks i
    cases e : partV E0 get i ks with
    | nil => rfl
    | cons a l => rw [e] at this; simp only [A.dts, Bool.and_eq_true] at this; exact this.1
  | (true, ks) :: ps, i => by
    simp only [partsV, A.dts, Bool.and_eq_true]
    exact ⟨partV_dt get ks i, partsV_dt get ps _⟩
theorem shapeC_dt (get : Nat → C) (rty : List (Bool × List LK)) : (shapeC get rty).dt = true := by
  have := partsV_dt get rty 0
  unfold shapeC shapeV
  generalize partsV E0 get 0 rty = l at this
  match l, this with
  | [], h => exact h
  | [a], h => simp only [A.dts, Bool.and_true] at h; exact h
  | a :: b :: l, h => exact h

theorem putW_append' (ws ws' : List (Nat × O)) : ∀ H : List O, putW H (ws ++ ws') = putW (putW H ws) ws' := by
  induction ws with
  | nil => intro H; rfl
  | cons x ws ih => intro H; simp [putW, ih]
section deep
variable {w0 : Base} {w : World} {G : Gh} {H : List O} {rs : FuncId → List A → Nat → C} {pk : FuncId → List (Bool × List LK) → List A → Prop}
theorem frzB_W : ∀ (ids : List Nat), FrzW H (frzB H ids)
  | [] => by intro x hx; simp [frzB] at hx
  | id :: ids => by
    intro x hx
    simp only [frzB, List.mem_append] at hx
    rcases hx with hx | hx
    · split at hx
      · exact frzL_W H _ x hx
      · cases hx
    · exact frzB_W ids x hx
theorem datT1_VR (hH : HR w0 G H w) {a : A} {v : Value} (hv : VR G a v) : VR G (datT1 (baseE rs pk) H a) v := by
  unfold datT1
  split
  · rename_i d hd; exact (dat_sound hH a d v hd hv).2
  · exact hv
theorem boxD_all (hH : HR w0 G H w) : ∀ (ids : List Nat) (H' : List O), HR w0 G H' w → (∀ id : Nat, H'[id]? = H[id]? ∨ ∃ T cs, H[id]? = some (O.box T cs) ∧ H'[id]? = some (O.box T (cs.map (datT1 (baseE rs pk) H)))) →
    HR w0 G (putW H' (boxD (baseE rs pk) H ids)) w
  | [], H', h, _ => h
  | id :: ids, H', h, hi => by
    simp only [boxD]
    cases hid : H[id]? with
    | none => simp only [List.nil_append]; exact boxD_all hH ids H' h hi
    | some o =>
      cases o with
      | box T cs =>
        simp only [List.singleton_append, putW]
        obtain ⟨ha, hp, hc, hz, vs, hb, hs, hv⟩ := hH.obj id _ hid
        obtain ⟨o', ho', hl'⟩ : ∃ o', H'[id]? = some o' ∧ o'.live = true := by
          rcases hi id with e | ⟨T', cs', e1, e2⟩
          · exact ⟨_, e.trans hid, rfl⟩
          · exact ⟨_, e2, rfl⟩
        have h1 : HR w0 G (H'.set id (.box T (cs.map (datT1 (baseE rs pk) H)))) w := by
          refine h.update ho' hl' hp _ rfl (fun _ _ => rfl) rfl rfl rfl ⟨ha, hp, hc, by simpa using hz, vs, hb, by simpa using hs, fun j h1 h2 => ?_⟩
          simp at h1
          simp only [List.getElem_map]
          exact ⟨datT1_VR hH (hv j h1 h2).1, (hv j h1 h2).2⟩
        refine boxD_all hH ids _ h1 fun j => ?_
        by_cases hj : id = j
        · subst hj
          right
          exact ⟨T, cs, hid, List.getElem?_set_self (lt_of_get ho')⟩
        · rw [List.getElem?_set_ne hj]; exact hi j
      | arr T lay xs => simp only [List.nil_append]; exact boxD_all hH ids H' h hi
      | frz lay xs => simp only [List.nil_append]; exact boxD_all hH ids H' h hi
      | mp kk row lay es => simp only [List.nil_append]; exact boxD_all hH ids H' h hi
      | fmp kk row lay es => simp only [List.nil_append]; exact boxD_all hH ids H' h hi
      | dead => simp only [List.nil_append]; exact boxD_all hH ids H' h hi
theorem freezeD (l : List A) (hH : HR w0 G H w) : ∃ G', HR w0 G' (putW H (frzD (baseE rs pk) H l)) w ∧ Gh.Le w0.keeps G G' ∧ G'.al = G.al := by
  obtain ⟨G1, h1, h2, h3⟩ := freeze_all H _ (frzB_W (ptrsL l)) hH rfl fun _ => .inl rfl
  have k1 := boxD_all (rs := rs) (pk := pk) h1 (ptrsL l) _ h1 fun _ => .inl rfl
  obtain ⟨G2, m1, m2, m3⟩ := freezeL l k1
  refine ⟨G2, ?_, h2.trans m2, m3.trans h3⟩
  unfold frzD
  rw [putW_append', putW_append']
  exact m1
end deep

/-- f called with data hands back this, and changes nothing. -/
structure PureC (P : Program) (f : FuncId) (rty : List (Bool × List LK)) (ds : List A) (get : Nat → C) : Prop where
  body : hasBody P f = true
  calls : ACalls P f ds [] fun r H' => r = shapeC get rty ∧ H' = []

def stdE (P : Program) (tbl : FuncId → List A → List C) : Env := baseE (fun f ds i => (tbl f ds).getD i .nil) fun f rty ds => PureC P f rty ds fun i => (tbl f ds).getD i .nil

/-- What is known behind an operation: v its value, ws what it wrote, mk the place of what it made. -/
def AfterV (w0 : Base) (G : Gh) (H : List O) (a : Act) (dst : Option Tmp) (v : A) (ws : List (Nat × O)) (mk : Option Nat) (a' : Act) (w' : World) : Prop :=
  ∃ val G', a' = a.put dst val ∧ VR G' v val ∧ HR w0 G' (putW H ws) w' ∧ Gh.Le w0.keeps G G' ∧ ∀ i, G'.al i = true → G.al i = true ∨ mk = some i

section
variable {P : Program} {w0 : Base} {w : World} {G : Gh} {H : List O} {a : Act} {o : Oper} {Q : Exit → Act → World → Prop} {tbl : FuncId → List A → List C}

theorem wp_of_value {next : Act → World → Prop} {val : Value} {w' : World} (hr : (execOp a.eval o).run P w = .ok (.value val) w') (h : next (a.put o.dst val) w') : o.wp P a w next Q := by
  unfold Oper.wp; rw [hr]; exact h
theorem wp_of_skip {next : Act → World → Prop} {w' : World} (hr : (execOp a.eval o).run P w = .ok .skip w') (h : next (a.put o.dst undef) w') : o.wp P a w next Q := by
  unfold Oper.wp; rw [hr]; exact h

/-- A quiet one. -/
theorem Yl.after {r : Rs} (hH : HR w0 G H w) (h : Yl P G a.eval o w r) (mk : Option Nat) : o.wp P a w (AfterV w0 G H a o.dst r.v r.ws mk) Q := by
  obtain ⟨hw, val, hr, hv⟩ := h
  refine wp_of_value hr ⟨val, G, rfl, hv, ?_, Gh.Le.refl _ _, fun i h => .inl h⟩
  rw [hw]; exact hH

theorem det_core {f : FuncId} {rty : List (Bool × List LK)} {as : List A} {vals : Array Value} (hrun : (execOp a.eval o).run P w = .ok (.enter f vals) w) (hs : vals.size = as.length)
    (hv : ∀ i (_ : i < as.length) (_ : i < vals.size), VR G as[i] vals[i]) (hH : HR w0 G H w) (h : AllP (detE (stdE P tbl) H f rty as).p) (mk : Option Nat) :
    o.wp P a w (AfterV w0 G H a o.dst (detE (stdE P tbl) H f rty as).v (detE (stdE P tbl) H f rty as).ws mk) Q := by
  revert h
  unfold detE
  split
  rotate_left
  · intro h; exact (no_stuck h).elim
  rename_i ds hds
  intro h
  simp only [AllP_cons, Cnd.holds, AllP_nil, and_true] at h
  have hpc : PureC P f rty ds fun i => (tbl f ds).getD i .nil := h
  obtain ⟨G1, hH1, hLe1, hal1⟩ := freezeD (rs := fun f ds i => (tbl f ds).getD i .nil) (pk := fun f rty ds => PureC P f rty ds fun i => (tbl f ds).getD i .nil) as hH
  obtain ⟨k1, k2, k3⟩ := datL_sound hH1 as ds vals.toList hds (by simpa using hs) (fun i h1 h2 => by
    have := (hv i h1 (by simpa using h2)).mono hLe1
    rw [Array.getElem_toList]; exact this)
  let G2 : Gh := { G1 with al := fun _ => false }
  have hH2 : HR ⟨w, fun _ => false, []⟩ G2 [] w := ⟨fun i o h => by simp at h, fun i o h => by simp at h, fun i j o1 o2 h => by simp at h, fun i h => (by cases h), hH1.fz, Kept.refl ⟨w, fun _ => false, []⟩⟩
  have hcall := hpc.calls ⟨w, fun _ => false, []⟩ w G2 vals hH2 (by rw [hs, k2]) (fun i h1 h2 => by
    have := k3 i h1 (by simpa using h2)
    rw [Array.getElem_toList] at this
    exact this.data (A.dts_get k1 i h1) fun _ _ _ h => h)
  unfold Oper.wp
  rw [hrun]
  refine hcall.mono ?_
  rintro e w' ⟨r, v, G3, H3, rfl, hH3, hvr, hle, _, _, rfl, rfl⟩
  show AfterV w0 G H a o.dst (shapeV (stdE P tbl) ((stdE P tbl).res f ds) rty) _ mk (a.put o.dst v) w'
  have hshape : shapeV (stdE P tbl) ((stdE P tbl).res f ds) rty = shapeC (fun i => (tbl f ds).getD i .nil) rty := shapeV_base _ _
  rw [hshape]
  cases hp : plainR rty with
  | true => exact ⟨v, G, rfl, hvr.plain (shapeC_pl _ _ hp), hH.below (hH3.bel.to_below fun _ => rfl), Gh.Le.refl _ _, fun i h => .inl h⟩
  | false =>
    let G4 : Gh := { G1 with F := G3.F }
    have hF : ∀ b x, b < w.heap.size → G3.F b x = G1.F b x := fun b x hb => hle.old b x ⟨hb, rfl⟩
    have hsz := hH1.bel.size
    have hLe4 : Gh.Le w0.keeps G1 G4 := ⟨fun b x v e => hle.F b x v e, fun b x hb => hF b x (Nat.lt_of_lt_of_le hb.1 hsz), fun _ h => h, fun _ _ => rfl, fun _ _ => rfl, fun _ _ => rfl, fun _ _ => rfl, fun _ _ => rfl⟩
    have hbel := hH1.below (hH3.bel.to_below fun _ => rfl)
    refine ⟨v, G4, rfl, hvr.data (shapeC_dt _ _) fun _ _ _ h => h, ⟨fun i o h => (hbel.obj i o h).mono hLe4, fun i o h hl hp => ?_, hH1.inj, hH1.lt, hH3.fz, hbel.bel⟩, hLe1.trans hLe4, fun i h => .inl (by rw [← hal1]; exact h)⟩
    obtain ⟨n1, n2, n3⟩ := hH1.new i o h hl hp
    exact ⟨n1, fun x => by show G3.F _ x = none; rw [hF _ _ n3]; exact n2 x, (hbel.new i o h hl hp).2.2⟩

theorem hasBody_spec {f : FuncId} (h : hasBody P f = true) : ∃ fn, P.funcs[f]? = some fn ∧ ¬ fn.body = none ∧ ¬ fn.name = "runtime.NumGoroutine" := by
  unfold hasBody at h
  split at h
  · rename_i fn hf
    simp only [Bool.and_eq_true, Bool.not_eq_true'] at h
    exact ⟨fn, hf, by intro e; rw [e] at h; simp at h, by simpa using h.2⟩
  · cases h

theorem enter_fun {f : FuncId} {xs : List Operand} {aTs : Array TypeId} (ho : o.op = .call ⟨.value (.func f), xs.toArray, aTs⟩) (hb : hasBody P f = true) : (execOp a.eval o).run P w = .ok (.enter f (xs.map a.eval).toArray) w := by
  obtain ⟨fn, hf, hb', hn'⟩ := hasBody_spec hb
  simp [execOp, ho, resolve, Deferred.ofValue, Act.eval, invoke, callFunc, hf, hb', hn']

theorem enter_val {f : FuncId} {x : Operand} {xs : List Operand} {aTs : Array TypeId} {vs : Array Value} (ho : o.op = .call ⟨.value x, xs.toArray, aTs⟩) (hb : hasBody P f = true) (e : a.eval x = .func (.func f) #[] vs) :
    (execOp a.eval o).run P w = .ok (.enter f ((xs.map a.eval).toArray ++ vs)) w := by
  obtain ⟨fn, hf, hb', hn'⟩ := hasBody_spec hb
  simp [execOp, ho, resolve, Deferred.ofValue, e, invoke, callFunc, hf, hb', hn']

theorem args_VR {ev : Opd → A} {xs : List Operand} (hx : ∀ x ∈ xs, VR G (ev (opd x)) (a.eval x)) : ∀ i (_ : i < ((xs.map opd).map ev).length) (_ : i < (xs.map a.eval).toArray.size), VR G ((xs.map opd).map ev)[i] (xs.map a.eval).toArray[i] := by
  intro i h1 h2
  simp at h1 ⊢
  exact hx _ (List.getElem_mem _)

theorem argsv_VR {ev : Opd → A} {xs : List Operand} {cap : List A} {vs : Array Value} (hl : vs.size = cap.length) (hv : ∀ i (_ : i < cap.length) (_ : i < vs.size), VR G cap[i] vs[i]) (hx : ∀ x ∈ xs, VR G (ev (opd x)) (a.eval x)) :
    ∀ i (_ : i < ((xs.map opd).map ev ++ cap).length) (_ : i < ((xs.map a.eval).toArray ++ vs).size), VR G ((xs.map opd).map ev ++ cap)[i] ((xs.map a.eval).toArray ++ vs)[i] := by
  intro i h1 h2
  by_cases hi : i < xs.length
  · rw [List.getElem_append_left (by simpa using hi), Array.getElem_append_left (by simpa using hi)]
    simp
    exact hx _ (List.getElem_mem _)
  · rw [List.getElem_append_right (by simpa using hi), Array.getElem_append_right (by simpa using hi)]
    simp at h1 h2 ⊢
    exact hv _ (by omega) (by omega)

theorem detE_body {f : FuncId} {rty : List (Bool × List LK)} {as : List A} (h : AllP (detE (stdE P tbl) H f rty as).p) : hasBody P f = true := by
  revert h
  unfold detE
  split
  · intro h
    simp only [AllP_cons, Cnd.holds, AllP_nil, and_true] at h
    exact PureC.body h
  · intro h; exact (no_stuck h).elim

theorem det_sound {f : FuncId} {xs : List Operand} {aTs : Array TypeId} {ev : Opd → A} {rty : List (Bool × List LK)} (ho : o.op = .call ⟨.value (.func f), xs.toArray, aTs⟩)
    (hH : HR w0 G H w) (hx : ∀ x ∈ xs, VR G (ev (opd x)) (a.eval x)) (h : AllP (detE (stdE P tbl) H f rty ((xs.map opd).map ev)).p) (mk : Option Nat) :
    o.wp P a w (AfterV w0 G H a o.dst (detE (stdE P tbl) H f rty ((xs.map opd).map ev)).v (detE (stdE P tbl) H f rty ((xs.map opd).map ev)).ws mk) Q :=
  det_core (enter_fun ho (detE_body h)) (by simp) (args_VR hx) hH h mk

theorem detv_sound {f : FuncId} {x : Operand} {xs : List Operand} {cap : List A} {aTs : Array TypeId} {ev : Opd → A} {rty : List (Bool × List LK)} (ho : o.op = .call ⟨.value x, xs.toArray, aTs⟩)
    (hH : HR w0 G H w) (hxf : VR G (.fn f cap) (a.eval x)) (hx : ∀ x ∈ xs, VR G (ev (opd x)) (a.eval x)) (h : AllP (detE (stdE P tbl) H f rty ((xs.map opd).map ev ++ cap)).p) (mk : Option Nat) :
    o.wp P a w (AfterV w0 G H a o.dst (detE (stdE P tbl) H f rty ((xs.map opd).map ev ++ cap)).v (detE (stdE P tbl) H f rty ((xs.map opd).map ev ++ cap)).ws mk) Q := by
  obtain ⟨vs, e, hl, hv⟩ := hxf.fn_inv
  exact det_core (enter_val ho (detE_body h) e) (by simp [hl]) (argsv_VR hl hv hx) hH h mk
end
end Go.Eng

/- An abstract machine over plain data, part J: rows of elements; new objects; stores. -/
namespace Go.Eng
open Go.RowKit

/-- The cells of elements, one behind another. -/
def RowsR (F : Nat → Nat → Option Value) (lay : List LK) (xs : List (List C)) (news : List Value) : Prop :=
  news.length = xs.length * lay.length ∧ ∀ i j, i < xs.length → j < lay.length → ∃ v, news[i * lay.length + j]? = some v ∧ CR F (cellC lay xs i j) v

theorem divmod {k n z : Nat} (h : k < n * z) : k / z < n ∧ k % z < z ∧ k / z * z + k % z = k := by
  have hpos : 0 < z := by
    rcases Nat.eq_zero_or_pos z with h0 | h0
    · rw [h0] at h; omega
    · exact h0
  exact ⟨by rw [Nat.div_lt_iff_lt_mul hpos]; exact h, Nat.mod_lt _ hpos, by rw [Nat.mul_comm]; exact Nat.div_add_mod k z⟩

theorem RowsR.one {F : Nat → Nat → Option Value} {lay : List LK} {xs : List (List C)} {news : List Value} (h : RowsR F lay xs news) : ∀ u ∈ news, u.oneCell' = true := by
  intro u hu
  obtain ⟨k, hk, rfl⟩ := List.getElem_of_mem hu
  obtain ⟨h1, h2⟩ := h
  obtain ⟨d1, d2, d3⟩ := divmod (by rw [← h1]; exact hk : k < xs.length * lay.length)
  obtain ⟨v, e, hc⟩ := h2 _ _ d1 d2
  rw [d3, List.getElem?_eq_getElem hk] at e
  rw [Option.some.inj e]; exact hc.one

theorem RowsR.mono {F F' : Nat → Nat → Option Value} {lay : List LK} {xs : List (List C)} {news : List Value} (h : RowsR F lay xs news) (hF : ∀ b o v, F b o = some v → F' b o = some v) : RowsR F' lay xs news :=
  ⟨h.1, fun i j hi hj => by obtain ⟨v, e, hc⟩ := h.2 i j hi hj; exact ⟨v, e, hc.mono hF⟩⟩

theorem RowsR.nil (F : Nat → Nat → Option Value) (lay : List LK) : RowsR F lay [] [] := ⟨by simp, fun i j h => by simp at h⟩

theorem cellC_append_left {lay : List LK} {xs ys : List (List C)} {i : Nat} (h : i < xs.length) (j : Nat) : cellC lay (xs ++ ys) i j = cellC lay xs i j := by
  unfold cellC cellAt
  rw [show (xs ++ ys).getD i [] = xs.getD i [] by rw [List.getD_eq_getElem?_getD, List.getElem?_append_left h, ← List.getD_eq_getElem?_getD]]
theorem cellC_append_right {lay : List LK} {xs ys : List (List C)} {i : Nat} (h : xs.length ≤ i) (j : Nat) : cellC lay (xs ++ ys) i j = cellC lay ys (i - xs.length) j := by
  unfold cellC cellAt
  rw [show (xs ++ ys).getD i [] = ys.getD (i - xs.length) [] by rw [List.getD_eq_getElem?_getD, List.getElem?_append_right h, ← List.getD_eq_getElem?_getD]]

theorem RowsR.join {F : Nat → Nat → Option Value} {lay : List LK} {xs ys : List (List C)} {us vs : List Value} (h : RowsR F lay xs us) (k : RowsR F lay ys vs) : RowsR F lay (xs ++ ys) (us ++ vs) := by
  refine ⟨by simp [h.1, k.1, Nat.add_mul], fun i j hi hj => ?_⟩
  by_cases hlt : i < xs.length
  · obtain ⟨v, e, hc⟩ := h.2 i j hlt hj
    refine ⟨v, ?_, by rw [cellC_append_left hlt]; exact hc⟩
    rw [List.getElem?_append_left (by rw [h.1]; exact row_lt hlt hj)]; exact e
  · obtain ⟨v, e, hc⟩ := k.2 (i - xs.length) j (by simp at hi; omega) hj
    refine ⟨v, ?_, by rw [cellC_append_right (by omega)]; exact hc⟩
    have hge : xs.length * lay.length ≤ i * lay.length := Nat.mul_le_mul_right _ (by omega)
    rw [List.getElem?_append_right (by rw [h.1]; omega), ← e, h.1, Nat.sub_mul]
    congr 1; omega

theorem RowsR.take {F : Nat → Nat → Option Value} {lay : List LK} {xs : List (List C)} {vs : List Value} (hl : xs.length * lay.length ≤ vs.length)
    (hv : ∀ i j, i < xs.length → j < lay.length → ∃ v, vs[i * lay.length + j]? = some v ∧ CR F (cellC lay xs i j) v) : RowsR F lay xs (vs.take (xs.length * lay.length)) := by
  refine ⟨by simp; omega, fun i j hi hj => ?_⟩
  obtain ⟨v, e, hc⟩ := hv i j hi hj
  exact ⟨v, by rw [List.getElem?_take_of_lt (row_lt hi hj)]; exact e, hc⟩

/-- Rows that memory holds. -/
theorem RowsR.cells {F : Nat → Nat → Option Value} {lay : List LK} {xs : List (List C)} {f : Nat → Option Value} (h : ∀ i j, i < xs.length → j < lay.length → ∃ v, f (i * lay.length + j) = some v ∧ CR F (cellC lay xs i j) v) :
    ∃ news, RowsR F lay xs news ∧ ∀ k u, news[k]? = some u → f k = some u := by
  have hf : ∀ k, k < xs.length * lay.length → ∃ v, f k = some v := fun k hk => by
    obtain ⟨d1, d2, d3⟩ := divmod hk
    obtain ⟨v, e, _⟩ := h _ _ d1 d2
    exact ⟨v, by rw [← d3]; exact e⟩
  refine ⟨(List.range (xs.length * lay.length)).map fun k => (f k).getD default, ⟨by simp, fun i j hi hj => ?_⟩, fun k u hu => ?_⟩
  · obtain ⟨v, e, hc⟩ := h i j hi hj
    exact ⟨v, by simp [row_lt hi hj, e], hc⟩
  · obtain ⟨hk, rfl⟩ := List.getElem?_eq_some_iff.1 hu
    simp at hk ⊢
    obtain ⟨v, e⟩ := hf k hk
    simp [e]

section
variable {P : Program} {w0 : Base} {w : World} {G : Gh} {H : List O} {a : Act} {o : Oper} {Q : Exit → Act → World → Prop} {rs : FuncId → List A → Nat → C} {pk : FuncId → List (Bool × List LK) → List A → Prop}

theorem new_al {G : Gh} {b r z c : Nat} {p : Bool} {n : Nat} : ∀ i, (G.push n b r z c p).al i = true → G.al i = true ∨ some n = some i := by
  intro i hi
  by_cases h : i = n
  · exact .inr (by rw [h])
  · simp only [Gh.push, if_neg h] at hi; exact .inl hi

/-- A new variable. -/
theorem place_box {l : List A} {cs : Array Value} (T : TypeId) {n : Nat} (hn : n < H.length) (hal : G.al n = false) (hH : HR w0 G H w) (hR : CellsR G l cs) :
    HR w0 (G.push n w.heap.size 0 l.length 1 false) (H.set n (.box T l)) (w.alloc (.cells cs T)) := by
  refine hH.alloc _ n 0 l.length 1 _ hn hal ⟨by simp, by simp, by simp, by simp, cs, ?_, hR.1, fun j h1 h2 => ⟨(hR.2.2 j h1 h2).mono (G.le_push (fun _ => False) _ _ _ _ _ _ hal), hR.2.1 j h2⟩⟩
  rw [Gh.push_blk]; exact heap_alloc_new w _

/-- A new array. -/
theorem place_arr {lay : List LK} {xs : List (List C)} {news : List Value} {cs : Array Value} (T : TypeId) (room : Nat) {n : Nat} (hn : n < H.length) (hal : G.al n = false) (hH : HR w0 G H w) (hs : cs.size = room * lay.length)
    (hl : xs.length ≤ room) (hR : RowsR G.F lay xs news) (hcs : ∀ (k : Nat) (u : Value), news[k]? = some u → cs[k]? = some u) :
    HR w0 (G.push n w.heap.size room lay.length xs.length false) (H.set n (.arr T lay xs)) (w.alloc (.cells cs T)) := by
  refine hH.alloc _ n room lay.length xs.length _ hn hal ⟨by simp, by simp, by simp, fun _ => ⟨cs, ?_, by rw [Gh.push_room]; exact hs, by rw [Gh.push_room]; exact hl, fun i j hi hj => ?_⟩, fun h => by simp at h⟩
  · rw [Gh.push_blk]; exact heap_alloc_new w _
  · obtain ⟨v, e, hc⟩ := hR.2 i j hi hj
    exact ⟨v, hcs _ _ e, hc⟩

theorem gr_new {n b r z c : Nat} (h : c ≤ r) (ad : Addr) (had : r ≠ 0 → ad = ⟨b, 0, none⟩) : VR (G.push n b r z c false) (.gr n) (.slice (some ad) c r) := by
  have := VR.gr (G := G.push n b r z c false) n r ad (by simp) (by simp) (by simp) (by simpa using h) (by simpa using had)
  rwa [Gh.push_cnt] at this

theorem alloc_sound {T : TypeId} {inf : TypeInfo} {z : Value} {n : Nat} (ho : o.op = .alloc T) (hi : P.info? T = some inf) (hz : inf.zero = some z) (hone : z.cells.all (·.oneCell') = true) (hH : HR w0 G H w)
    (hn : n < H.length) (hal : G.al n = false) : o.wp P a w (AfterV w0 G H a o.dst (.ptr n 0) [(n, .box T (z.cells.toList.map toA1))] (some n)) Q := by
  have hz0 : (zeroValue T).run P w = .ok z w := by simp [zeroValue, typeInfo, hi, hz]
  refine wp_of_value (val := .pointer (some ⟨w.heap.size, 0, none⟩)) (w' := w.alloc (.cells z.cells T)) ?_ ?_
  · simp [execOp, ho, Instr.alloc, hz0, newVar, newRow]
  · refine ⟨_, _, rfl, ?_, place_box T hn hal hH (cellsR_zero z hone), G.le_push _ _ _ _ _ _ _ hal, new_al⟩
    have := VR.ptr (G := G.push n w.heap.size 0 (z.cells.toList.map toA1).length 1 false) n 0 (by simp) (by simp)
    rwa [Gh.push_blk] at this

theorem box_sound {T : TypeId} {x : Operand} {b : A} {n : Nat} (ho : o.op = .box T x) (hH : HR w0 G H w) (hx : VR G b (a.eval x)) (hk : known b = true)
    (hn : n < H.length) (hal : G.al n = false) : o.wp P a w (AfterV w0 G H a o.dst (.ptr n 0) [(n, .box T (cellsOf b))] (some n)) Q := by
  obtain ⟨c1, c2, c3⟩ := hx.known_cells hk
  refine wp_of_value (val := .pointer (some ⟨w.heap.size, 0, none⟩)) (w' := w.alloc (.cells (a.eval x).cells T)) ?_ ?_
  · simp [execOp, ho, Instr.box, newVar, newRow]
  · refine ⟨_, _, rfl, ?_, place_box T hn hal hH ⟨c1, c2, c3⟩, G.le_push _ _ _ _ _ _ _ hal, new_al⟩
    have := VR.ptr (G := G.push n w.heap.size 0 (cellsOf b).length 1 false) n 0 (by simp) (by simp)
    rwa [Gh.push_blk] at this

/-! ### Stores -/
theorem heap_setCells_other (b : Nat) : ∀ (vs : List Value) (o : Nat) (w : World) (k : Nat), k ≠ b → (w.setCells b o vs).heap[k]? = w.heap[k]?
  | [], _, _, _, _ => rfl
  | v :: vs, o, w, k, h => by rw [World.setCells, heap_setCells_other b vs _ _ k h, heap_setCell_other _ _ _ _ h]

theorem heap_setCells_same (b : Nat) (T : TypeId) : ∀ (vs : List Value) (o : Nat) (w : World) (cs : Array Value), w.heap[b]? = some (.cells cs T (0, 0)) →
    (w.setCells b o vs).heap[b]? = some (.cells (sets cs.toList o vs).toArray T (0, 0))
  | [], _, _, cs, h => by simpa [World.setCells, sets] using h
  | v :: vs, o, w, cs, h => by
    rw [World.setCells, heap_setCells_same b T vs (o + 1) _ _ (heap_setCell_same w b o cs T v h)]
    simp [sets]

theorem setCells_rest (b : Nat) : ∀ (vs : List Value) (o : Nat) (w : World), (w.setCells b o vs).heap.size = w.heap.size ∧ (w.setCells b o vs).os = w.os ∧ (w.setCells b o vs).tape = w.tape ∧ (w.setCells b o vs).output = w.output
  | [], _, _ => ⟨rfl, rfl, rfl, rfl⟩
  | v :: vs, o, w => by
    rw [World.setCells]
    obtain ⟨h1, h2, h3, h4⟩ := setCells_rest b vs (o + 1) (w.setCell ⟨b, o, none⟩ v)
    exact ⟨by rw [h1]; simp [World.setCell], h2, h3, h4⟩

theorem there_of {id : Nat} {cs : Array Value} {T : TypeId} (hb : w.heap[id]? = some (.cells cs T (0, 0))) (off n : Nat) (h : off + n ≤ cs.size) : w.there id off n := fun j hj =>
  ⟨by rw [cell_box hb]; simp; omega, frozen_of_row w id _ cs T hb⟩

theorem run_storeVar_cells {t : TypeId} {b off n : Nat} {v : Value} (hi : (P.info? t).map (·.size) = some n) (hn : v.cells.size = n) (hone : ∀ i (h : i < v.cells.size), v.cells[i].oneCell' = true) (ht : w.there b off n) :
    (storeVar t ⟨b, off, none⟩ v).run P w = .ok () (w.setCells b off v.cells.toList) := by
  have := run_storeCells_cells (P := P) b off v.cells.toList 0 w (fun j hj => by simpa using (ht j (by simpa [hn] using hj)).1) (fun j hj => by simpa using (ht j (by simpa [hn] using hj)).2)
    (fun u hu => by
      obtain ⟨i, hi, rfl⟩ := List.getElem_of_mem hu
      simpa using hone i (by simpa using hi))
  cases hq : P.info? t with
  | none => simp [hq] at hi
  | some i =>
    have hs : i.size = n := by simpa [hq] using hi
    simp only [Nat.add_zero] at this
    simp [storeVar, sizeOf, typeInfo, hq, hn, hs, this]

theorem asC_of {k : LK} {x : A} {c : C} {v : Value} (h : asC k x = some c) (hv : VR G x v) : CR G.F (fixC k c) v := asC_CR h hv rfl

theorem setC_get (c : C) : ∀ (row : List C) (j j' : Nat), (setC row j c).getD j' .nil = if j' = j then c else row.getD j' .nil
  | [], 0, j' => by cases j' <;> simp [setC]
  | [], j + 1, j' => by
    cases j' with
    | zero => simp [setC]
    | succ j' => have := setC_get c [] j j'; simp [setC] at this ⊢; exact this
  | a :: as, 0, j' => by cases j' <;> simp [setC]
  | a :: as, j + 1, j' => by
    cases j' with
    | zero => simp [setC]
    | succ j' => have := setC_get c as j j'; simp [setC] at this ⊢; exact this

theorem cellAt_upd (xs : List (List C)) (i j i' j' : Nat) (c : C) (hi : i < xs.length) : cellAt (updC xs i j c) i' j' = if i' = i ∧ j' = j then c else cellAt xs i' j' := by
  unfold cellAt updC
  by_cases h1 : i' = i
  · subst h1
    rw [show (xs.set i' (setC (xs.getD i' []) j c)).getD i' [] = setC (xs.getD i' []) j c by rw [List.getD_eq_getElem?_getD, List.getElem?_set_self hi]; rfl, setC_get]
    simp
  · rw [if_neg (fun h => h1 h.1)]
    rw [show (xs.set i (setC (xs.getD i []) j c)).getD i' [] = xs.getD i' [] by rw [List.getD_eq_getElem?_getD, List.getElem?_set_ne (Ne.symm h1), ← List.getD_eq_getElem?_getD]]
end
end Go.Eng

/- An abstract machine over plain data, part K: stores and maps. -/
namespace Go.Eng
open Go.RowKit
section
variable {P : Program} {w0 : Base} {w : World} {G : Gh} {H : List O} {a : Act} {o : Oper} {Q : Exit → Act → World → Prop} {rs : FuncId → List A → Nat → C} {pk : FuncId → List (Bool × List LK) → List A → Prop}

theorem putW_append (ws ws' : List (Nat × O)) : ∀ H : List O, putW H (ws ++ ws') = putW (putW H ws) ws' := by
  induction ws with
  | nil => intro H; rfl
  | cons x ws ih => intro H; simp [putW, ih]

theorem updE_spec {xs : List (List C)} {i : Int} (hi : i.toNat < xs.length) : ∀ (as : List A) (off : Nat) (lay : List LK) (xs' : List (List C)), updE (baseE rs pk) xs i off lay as = some xs' →
    xs'.length = xs.length ∧ (∀ i' j', ¬ (i' = i.toNat ∧ off ≤ j' ∧ j' < off + as.length) → cellAt xs' i' j' = cellAt xs i' j') ∧
    ∀ q (hq : q < as.length), asC (lay.getD (off + q) .bool) as[q] = some (cellAt xs' i.toNat (off + q))
  | [], off, lay, xs', h => by
    simp only [updE, Option.some.injEq] at h
    subst h
    exact ⟨rfl, fun _ _ _ => rfl, fun q hq => by simp at hq⟩
  | x :: as, off, lay, xs', h => by
    unfold updE at h
    split at h
    · rename_i c hc
      simp only [Option.map_eq_some_iff] at h
      obtain ⟨r, hr, rfl⟩ := h
      obtain ⟨h1, h2, h3⟩ := updE_spec hi as (off + 1) lay r hr
      have key : ∀ i' j', cellAt ((baseE rs pk).upd r i off c) i' j' = if i' = i.toNat ∧ j' = off then c else cellAt r i' j' := fun i' j' => cellAt_upd r i.toNat off i' j' c (by omega)
      refine ⟨by show (updC r _ _ _).length = _; simp [updC, h1], fun i' j' hn => ?_, fun q hq => ?_⟩
      · rw [key, if_neg (fun h => hn ⟨h.1, by omega, by simp; omega⟩)]
        exact h2 i' j' (fun h => hn ⟨h.1, by omega, by simp; omega⟩)
      · rw [key]
        cases q with
        | zero => simpa using hc
        | succ q =>
          simp at hq
          rw [if_neg (by omega)]
          have := h3 q hq
          rw [show off + 1 + q = off + (q + 1) by omega] at this
          simpa using this
    · cases h

theorem st_sound {t : TypeId} {x v : Operand} {n : Nat} {b c : A} (ho : o.op = .store t x v) (hi : (P.info? t).map (·.size) = some n) (hH : HR w0 G H w) (hx : VR G b (a.eval x)) (hv : VR G c (a.eval v))
    (h : AllP (stE (baseE rs pk) H n b c).p) (mk : Option Nat) : o.wp P a w (AfterV w0 G H a o.dst (stE (baseE rs pk) H n b c).v (stE (baseE rs pk) H n b c).ws mk) Q := by
  revert h
  unfold stE
  split
  · intro h; exact (no_stuck h).elim
  rename_i hkn
  simp only [Bool.and_eq_true, Nat.beq_eq] at hkn
  obtain ⟨hk, hn⟩ := hkn
  obtain ⟨c1, c2, c3⟩ := hv.known_cells hk
  split
  · rename_i id off
    split
    · rename_i T cs hid
      intro h
      obtain ⟨hb, _⟩ := chk_p h
      rw [chk_true hb]
      have hlt : off + n ≤ cs.length := by simpa [Nat.ble_eq] using hb
      obtain ⟨hidn, hp, e⟩ := hx.ptr_inv
      obtain ⟨ha, _, hc1, hz1, vs, hb, hs, hvv⟩ := hH.obj id _ hid
      have hst := run_storeVar_cells (P := P) (w := w) (t := t) (b := G.blk id) (off := off) (v := a.eval v) hi (by omega) c2 (there_of hb off n (by omega))
      refine wp_of_skip (w' := w.setCells (G.blk id) off (a.eval v).cells.toList) ?_ ?_
      · simp [execOp, ho, e, Instr.storeAt, Instr.sureAddr, hst]
      · obtain ⟨q1, q2, q3, q4⟩ := setCells_rest (G.blk id) (a.eval v).cells.toList off w
        have hcs : CellsR G cs vs := ⟨hs, fun i h2 => (hvv i (by omega) h2).2, fun i h1 h2 => (hvv i h1 h2).1⟩
        have hR := hcs.sets ⟨c1, c2, c3⟩ off
        refine ⟨undef, G, rfl, .u _, hH.update hid rfl hp (.box T (sets cs off (cellsOf c))) q1 (fun k hk => heap_setCells_other _ _ _ _ _ hk) q2 q3 q4 ⟨ha, hp, hc1, by rw [sets_length]; exact hz1, _, heap_setCells_same _ T _ _ _ _ hb, hR.1, fun j h1 h2 => ⟨hR.2.2 j h1 h2, hR.2.1 j h2⟩⟩, Gh.Le.refl _ _, fun i h => .inl h⟩
    · intro h; exact (no_stuck h).elim
  · rename_i id i off
    obtain ⟨G1, hH1, hLe1, hal1⟩ := freezeL (cellsOf c) hH
    split
    · rename_i T lay xs hid
      split
      · rename_i xs' hxs
        intro h
        obtain ⟨hb, _⟩ := chk_p h
        rw [chk_true hb]
        have hoff : off + n ≤ lay.length := by simpa [Nat.ble_eq] using hb
        simp only [Option.bind_eq_some_iff] at hxs
        obtain ⟨ds, hds, hup⟩ := hxs
        obtain ⟨hal, hp, h0, hcnt, e⟩ := (hx.mono hLe1).eptr_inv
        obtain ⟨_, hc, hz, hR, _⟩ := hH1.obj id _ hid
        obtain ⟨vs, hb, hs, hroom, hvv⟩ := hR hp
        obtain ⟨k1, k2, k3⟩ := datL_sound hH1 (cellsOf c) ds (a.eval v).cells.toList hds (by simpa using c1) (fun j h1 h2 => by
          have := (c3 j h1 (by simpa using h2)).mono hLe1
          rw [Array.getElem_toList]; exact this)
        have hin : i.toNat < xs.length := by omega
        obtain ⟨u1, u2, u3⟩ := updE_spec hin ds off lay xs' hup
        have hle : (i.toNat + 1) * lay.length ≤ vs.size := by rw [hs]; exact Nat.mul_le_mul_right _ (by omega)
        rw [Nat.add_mul, Nat.one_mul] at hle
        have hst := run_storeVar_cells (P := P) (w := w) (t := t) (b := G1.blk id) (off := i.toNat * lay.length + off) (v := a.eval v) hi (by omega) c2 (there_of hb _ n (by omega))
        rw [hz] at e
        refine wp_of_skip (w' := w.setCells (G1.blk id) (i.toNat * lay.length + off) (a.eval v).cells.toList) ?_ ?_
        · simp [execOp, ho, e, Instr.storeAt, Instr.sureAddr, hst]
        · obtain ⟨q1, q2, q3, q4⟩ := setCells_rest (G1.blk id) (a.eval v).cells.toList (i.toNat * lay.length + off) w
          refine ⟨undef, G1, rfl, .u _, ?_, hLe1, fun i h => .inl (by rw [← hal1]; exact h)⟩
          rw [putW_append]
          refine hH1.update hid rfl hp (.arr T lay xs') q1 (fun k hk => heap_setCells_other _ _ _ _ _ hk) q2 q3 q4 ⟨hal, by rw [u1]; exact hc, hz, fun _ => ⟨_, heap_setCells_same _ T _ _ _ _ hb, by simp [sets_length, hs], by rw [u1]; exact hroom, fun i' j' hi' hj' => ?_⟩, fun h2 => by rw [hp] at h2; cases h2⟩
          have hg := sets_get (a.eval v).cells.toList vs.toList (i.toNat * lay.length + off) (i' * lay.length + j')
          have hcl : (a.eval v).cells.toList.length = n := by simp; omega
          rw [hcl] at hg
          rw [u1] at hi'
          have hltv : i' * lay.length + j' < vs.toList.length := by
            have := row_lt hi' hj'
            have := Nat.mul_le_mul_right lay.length hroom
            simp; omega
          by_cases hc2 : i' = i.toNat ∧ off ≤ j' ∧ j' < off + n
          · obtain ⟨rfl, g1, g2⟩ := hc2
            rw [if_pos ⟨by omega, by omega, hltv⟩] at hg
            have hq : j' - off < ds.length := by omega
            have hq2 : j' - off < (a.eval v).cells.toList.length := by omega
            have := u3 (j' - off) hq
            rw [show off + (j' - off) = j' by omega] at this
            refine ⟨(a.eval v).cells.toList[j' - off], ?_, ?_⟩
            · rw [List.getElem?_toArray, hg, show i.toNat * lay.length + j' - (i.toNat * lay.length + off) = j' - off by omega]
              exact List.getElem?_eq_getElem hq2
            · exact asC_of this (k3 _ hq hq2)
          · have hnot : ¬ (i.toNat * lay.length + off ≤ i' * lay.length + j' ∧ i' * lay.length + j' < i.toNat * lay.length + off + n ∧ i' * lay.length + j' < vs.toList.length) := by
              intro ⟨g1, g2, _⟩
              rcases Nat.lt_trichotomy i' i.toNat with hlt | heq | hgt
              · have : (i' + 1) * lay.length ≤ i.toNat * lay.length := Nat.mul_le_mul_right _ hlt
                rw [Nat.add_mul, Nat.one_mul] at this; omega
              · subst heq; exact hc2 ⟨rfl, by omega, by omega⟩
              · have : (i.toNat + 1) * lay.length ≤ i' * lay.length := Nat.mul_le_mul_right _ hgt
                rw [Nat.add_mul, Nat.one_mul] at this; omega
            rw [if_neg hnot] at hg
            obtain ⟨v', e', hcr⟩ := hvv i' j' hi' hj'
            refine ⟨v', ?_, ?_⟩
            · rw [List.getElem?_toArray, hg]; simpa using e'
            · show CR _ (fixC _ (cellAt xs' i' j')) _
              rw [u2 i' j' (by rw [show ds.length = n by omega]; exact hc2)]
              exact hcr
      · intro h; exact (no_stuck h).elim
    · intro h; exact (no_stuck h).elim
  · intro h; exact (no_stuck h).elim
end
end Go.Eng

/- An abstract machine over plain data, part L: append. -/
namespace Go.Eng
open Go.RowKit
section
variable {P : Program} {w0 : Base} {w : World} {G : Gh} {H : List O} {a : Act} {o : Oper} {Q : Exit → Act → World → Prop} {rs : FuncId → List A → Nat → C} {pk : FuncId → List (Bool × List LK) → List A → Prop}

theorem Src.zero {size : Nat} {tx e' : TypeId} (hk : P.underlying tx = some (.slice e')) (ad : Option Addr) (c : Nat) : Src P size tx (.slice ad 0 c) 0 [] w := by
  have h1 : ∀ w' : World, (Builtin.firstCells size 0 (.slice ad 0 c)).run P w' = .ok (#[] : Array Value) w' := by
    intro w'
    cases ad with
    | none => simp [Builtin.firstCells]
    | some b => simp [Builtin.firstCells, loadCells, loadCellsFrom]
  exact ⟨.inl ⟨e', hk⟩, fun _ => rfl, h1 w, h1 w.drew, by simp, fun _ h => by cases h⟩

theorem src_rows {tx e' : TypeId} (hk : P.underlying tx = some (.slice e')) {lay : List LK} {ys : List (List C)} {ad : Option Addr} {cap b q : Nat} (hne : ys ≠ [] → ad = some ⟨b, q, none⟩)
    (hc : ∀ i j, i < ys.length → j < lay.length → ∃ v, w.cell? ⟨b, q + (i * lay.length + j), none⟩ = some v ∧ CR G.F (cellC lay ys i j) v) :
    ∃ news : List Value, Src P lay.length tx (.slice ad ys.length cap) ys.length news w ∧ RowsR G.F lay ys news := by
  by_cases h0 : ys = []
  · subst h0
    exact ⟨[], Src.zero hk ad cap, RowsR.nil _ _⟩
  · obtain ⟨news, hR, hf⟩ := RowsR.cells (F := G.F) (lay := lay) (xs := ys) (f := fun k => w.cell? ⟨b, q + k, none⟩) hc
    have hA := hne h0
    subst hA
    exact ⟨news, Src.ofSlice w hk _ _ _ news hR.1 (fun k u hu => by rw [add_addr]; exact hf k u hu) hR.one, hR⟩

theorem src_of {tx e' : TypeId} {y : A} {v : Value} {lay : List LK} {ys : List (List C)} (hk : P.underlying tx = some (.slice e')) (hH : HR w0 G H w) (hy : VR G y v) (he : srcE (baseE rs pk) H lay y = some ys) :
    ∃ news : List Value, Src P lay.length tx v ys.length news w ∧ RowsR G.F lay ys news := by
  unfold srcE at he
  split at he
  · cases he
    rw [hy.nil]
    exact ⟨[], Src.ofNil w hk 0, RowsR.nil _ _⟩
  · split at he
    · rename_i lay' ys' hl
      have := LK.beqs_eq _ _ hl
      subst this
      cases he
      obtain ⟨ad, cap, b, off, vs, e, hcap, ha, hF, hr⟩ := hy.sl_inv
      rw [e]
      exact src_rows hk ha fun i j hi hj => ⟨_, (hH.fz _ _ _ (hF i j hi hj)).cell (hr i j hi hj).one, hr i j hi hj⟩
    · cases he
  · split at he
    · rename_i lay' ys' ha
      split at he
      · rename_i hl
        have := LK.beqs_eq _ _ hl
        subst this
        cases he
        obtain ⟨hc, hz⟩ := arr_len hH ha
        obtain ⟨_, ⟨hp, hcn, e⟩ | ⟨hp, ad, e, hlen, had⟩⟩ := hy.gr_inv
        · have : ys = [] := List.length_eq_zero_iff.1 (by omega)
          subst this
          rw [e]
          exact ⟨[], Src.ofNil w hk 0, RowsR.nil _ _⟩
        · rw [e, hc]
          obtain ⟨_, _, hv⟩ := arr_cells hH ha hp
          refine src_rows hk (b := G.blk _) (q := 0) (fun hne => ?_) fun i j hi hj => by rw [Nat.zero_add]; exact hv i j hi hj
          have : 0 < ys.length := List.length_pos_iff.2 hne
          rw [had (by omega)]
      · cases he
    · cases he
  · rename_i id off len
    split at he
    · rename_i lay' ys' ha
      split at he
      · rename_i hl
        have := LK.beqs_eq _ _ hl
        subst this
        cases he
        obtain ⟨hc, hz⟩ := arr_len hH ha
        show ∃ news : List Value, Src P lay.length tx v ((ys'.take (off + len).toNat).drop off.toNat).length news w ∧ RowsR G.F lay ((ys'.take (off + len).toNat).drop off.toNat) news
        rcases hy.own_inv' with ⟨cap, ad, e, _, hp, h0, h1, hcap, hcnt, hlen, had⟩ | ⟨_, hp, hcn, h0, h1, e⟩
        · have hll : ((ys'.take (off + len).toNat).drop off.toNat).length = len.toNat := by simp; omega
          rw [e, ← hll]
          obtain ⟨_, _, hv⟩ := arr_cells hH ha hp
          refine src_rows hk (b := G.blk id) (q := off.toNat * G.esz id) (fun hne => ?_) fun i j hi hj => ?_
          · have : 0 < ((ys'.take (off + len).toNat).drop off.toNat).length := List.length_pos_iff.2 hne
            rw [had (by omega)]
          · obtain ⟨u, e1, e2⟩ := hv (off.toNat + i) j (by omega) hj
            refine ⟨u, ?_, by rw [cellC_cut _ _ _ _ _ _ (by omega)]; exact e2⟩
            rw [← e1, hz, Nat.add_mul]; congr 2; omega
        · have : ys' = [] := List.length_eq_zero_iff.1 (by omega)
          subst this
          rw [e]
          simp only [List.take_nil, List.drop_nil]
          exact ⟨[], Src.ofNil w hk 0, RowsR.nil _ _⟩
      · cases he
    · cases he
  · cases he

theorem app_run {t tx ty : TypeId} {x y : Operand} {aTs : Array TypeId} {val : Value} {w' : World} (ho : o.op = .call ⟨.builtin .append, #[x, y], aTs⟩) (hts : aTs = #[t, tx]) (hty : o.type = ty)
    (h : (Builtin.append_ #[t, tx] ty #[a.eval x, a.eval y]).run P w = .ok val w') : (execOp a.eval o).run P w = .ok (.value val) w' := by
  subst hts
  subst hty
  simp [execOp, ho, resolve, invoke, builtin, h]

/-- The model's bound on what may grow. -/
theorem app_bound {bytes need : Nat} {bound : Int} (hb0 : 0 < bytes) (hb : bound = pow47 / bytes) (h : (need : Int) ≤ bound) :
    ((need : Nat) : Int) ≤ 9223372036854775807 ∧ ∀ cap, cap < need → Builtin.nextslicecap need cap * bytes ≤ 281474976710656 := by
  have h1 : (need : Int) * bytes ≤ 140737488355328 := by
    have h2 : bound * bytes ≤ pow47 := by rw [hb]; exact Int.ediv_mul_le _ (by omega)
    have h3 : (need : Int) * bytes ≤ bound * bytes := Int.mul_le_mul_of_nonneg_right h (by omega)
    unfold pow47 at h2; omega
  have h1' : need * bytes ≤ 140737488355328 := by
    have e : ((need * bytes : Nat) : Int) = (need : Int) * (bytes : Int) := Int.natCast_mul _ _
    rw [← e] at h1
    omega
  have h2 : need ≤ need * bytes := Nat.le_mul_of_pos_right _ hb0
  refine ⟨by omega, fun cap hc => ?_⟩
  have h2 : Builtin.nextslicecap need cap * bytes ≤ 2 * need * bytes := Nat.mul_le_mul_right _ (nextslicecap_le hc)
  rw [Nat.mul_assoc] at h2
  omega

/-- What an append's result is told as. -/
def AppAfter (w0 : Base) (G : Gh) (H : List O) (n : Nat) (T : TypeId) (lay : List LK) (xs : List (List C)) (val : Value) (w' : World) : Prop :=
  ∃ G', VR G' (.gr n) val ∧ HR w0 G' (H.set n (.arr T lay xs)) w' ∧ Gh.Le w0.keeps G G' ∧ ∀ i, G'.al i = true → G.al i = true ∨ some n = some i

theorem app_none {t tx ty e : TypeId} {i : TypeInfo} {z v : Value} {lay : List LK} {ys : List (List C)} {news : List Value} {n : Nat} (hu : P.underlying t = some (.slice e)) (hi : P.info? e = some i) (hz : i.zero = some z) (hzs : z.cells.size = i.size)
    (hlay : i.size = lay.length) (hH : HR w0 G H w) (hs : Src P i.size tx v ys.length news w) (hR : RowsR G.F lay ys news) (h63 : ((ys.length : Nat) : Int) ≤ 9223372036854775807) (hfit : ∀ cap, cap < ys.length → Builtin.nextslicecap ys.length cap * i.bytes ≤ 281474976710656)
    (hn : n < H.length) (hal : G.al n = false) :
    ∃ val w', (Builtin.append_ #[t, tx] ty #[.slice none 0 0, v]).run P w = .ok val w' ∧ AppAfter w0 G H n e lay ys val w' := by
  by_cases h0 : ys = []
  · subst h0
    have hn0 : news = [] := List.length_eq_zero_iff.1 (by rw [hR.1]; simp)
    subst hn0
    refine ⟨_, _, run_append_nothing (P := P) w t tx ty e i hu hi none 0 0 (Nat.le_refl _) v hs, G.push n 0 0 lay.length 0 true, .grn n (by simp) (by simp) (by simp), ?_, G.le_push _ _ _ _ _ _ _ hal, new_al⟩
    exact hH.place n 0 0 lay.length 0 true _ hn hal (fun h => by cases h) ⟨by simp, by simp, by simp, fun h => by simp at h, fun _ => rfl⟩
  · have hpos : 0 < ys.length := List.length_pos_iff.2 h0
    have hrun := run_append_grow_src (P := P) w t tx ty e i z hu hi hz none 0 0 [] (by simp [Builtin.firstCells]) v ys.length news hs (by omega) (by rw [Nat.zero_add]; exact h63) (by rw [Nat.zero_add]; exact hfit 0 hpos)
    have hcap' : ys.length ≤ grownCap w (0 + ys.length) 0 e := by simp [grownCap, Question.cut]
    simp only [Nat.zero_add] at hrun hcap'
    refine ⟨_, _, hrun, G.push n w.drew.heap.size (grownCap w ys.length 0 e) lay.length ys.length false, ?_, ?_, G.le_push _ _ _ _ _ _ _ hal, new_al⟩
    · exact gr_new hcap' _ fun _ => by simp
    · refine place_arr e _ hn hal hH.drew ?_ hcap' hR fun k u hu => ?_
      · simp only [List.nil_append, Array.size_append, Builtin.zeroCells, Array.size_map, Array.size_range, hzs]
        rw [List.size_toArray, hR.1, hlay, ← Nat.add_mul]; congr 1; omega
      · have hk := (List.getElem?_eq_some_iff.1 hu).1
        rw [List.nil_append, Array.getElem?_append_left (by simpa using hk), List.getElem?_toArray]; exact hu

theorem cellC_take (lay : List LK) (xs : List (List C)) (h i j : Nat) (hi : i < h) : cellC lay (xs.take h) i j = cellC lay xs i j := by
  have := cellC_cut lay xs 0 h i j (by omega)
  simpa using this

theorem own_firstCells {sz len : Nat} {vs : Array Value} {T : TypeId} {b cap : Nat} (hb : w.heap[b]? = some (.cells vs T (0, 0))) (hle : len * sz ≤ vs.size) :
    (Builtin.firstCells sz len (.slice (some ⟨b, 0, none⟩) len cap)).run P w = .ok (vs.toList.take (len * sz)).toArray w := by
  refine run_firstCells_some w sz len ⟨b, 0, none⟩ len cap _ (by simp; omega) fun j v hv => ?_
  obtain ⟨hj, rfl⟩ := List.getElem?_eq_some_iff.1 hv
  rw [add_addr, cell_box hb]
  simp at hj ⊢

theorem le_grown (w : World) (need old : Nat) (e : TypeId) : need ≤ grownCap w need old e := by simp [grownCap, Question.cut]

theorem app_arr {t tx ty e : TypeId} {i : TypeInfo} {z v : Value} {lay : List LK} {xs ys : List (List C)} {news : List Value} {n id sLen : Nat} {ad : Addr} (hu : P.underlying t = some (.slice e)) (hi : P.info? e = some i) (hz : i.zero = some z) (hzs : z.cells.size = i.size)
    (hlay : i.size = lay.length) (hH : HR w0 G H w) (hid : H[id]? = some (.arr e lay xs)) (hp : G.ph id = false) (hsl : sLen ≤ xs.length) (had : G.room id ≠ 0 → ad = ⟨G.blk id, 0, none⟩)
    (hs : Src P i.size tx v ys.length news w) (hR : RowsR G.F lay ys news) (h63 : ((sLen + ys.length : Nat) : Int) ≤ 9223372036854775807) (hfit : ∀ cap, cap < sLen + ys.length → Builtin.nextslicecap (sLen + ys.length) cap * i.bytes ≤ 281474976710656)
    (hn : n < H.length) (hal : G.al n = false) :
    ∃ val w', (Builtin.append_ #[t, tx] ty #[.slice (some ad) sLen (G.room id), v]).run P w = .ok val w' ∧ AppAfter w0 G (H.set id .dead) n e lay (xs.take sLen ++ ys) val w' := by
  obtain ⟨hai, hc, hsz, hRR, _⟩ := hH.obj id _ hid
  obtain ⟨vs, hb, hvs, hroom, hv⟩ := hRR hp
  obtain ⟨b1, b2, b3⟩ := hH.new id _ hid rfl hp
  have hne : n ≠ id := fun h => by rw [h, hai] at hal; cases hal
  have hlen : (xs.take sLen ++ ys).length = sLen + ys.length := by simp; omega
  have hbase : RowsR G.F lay (xs.take sLen) (vs.toList.take (sLen * lay.length)) := by
    have hll : (xs.take sLen).length = sLen := by simp; omega
    have := RowsR.take (F := G.F) (lay := lay) (xs := xs.take sLen) (vs := vs.toList) (by rw [hll]; simp; rw [hvs]; exact Nat.mul_le_mul_right _ (by omega)) (fun i j hi hj => by
      rw [hll] at hi
      obtain ⟨u, e1, e2⟩ := hv i j (by omega) hj
      exact ⟨u, by simpa using e1, by rw [cellC_take _ _ _ _ _ hi]; exact e2⟩)
    rwa [hll] at this
  have hjoin := hbase.join hR
  have hle : sLen * lay.length ≤ vs.size := by rw [hvs]; exact Nat.mul_le_mul_right _ (by omega)
  -- the same block, under a new number
  have same : ∀ {w' : World} {vs' : Array Value}, HR w0 G (H.set id .dead) w' → w'.heap.size = w.heap.size → w'.heap[G.blk id]? = some (.cells vs' e (0, 0)) → vs'.size = vs.size → sLen + ys.length ≤ G.room id →
      (∀ (k : Nat) (u : Value), (vs.toList.take (sLen * lay.length) ++ news)[k]? = some u → vs'[k]? = some u) →
      AppAfter w0 G (H.set id .dead) n e lay (xs.take sLen ++ ys) (.slice (some ad) (sLen + ys.length) (G.room id)) w' := by
    intro w' vs' hH' hsz' hb' hvs' hfits hcs
    refine ⟨G.push n (G.blk id) (G.room id) lay.length (sLen + ys.length) false, gr_new hfits ad had, ?_, G.le_push _ _ _ _ _ _ _ hal, new_al⟩
    refine hH'.place n (G.blk id) (G.room id) lay.length (sLen + ys.length) false _ (by simpa using hn) hal (fun _ => ⟨b1, by omega, b2, fun j o' e hl' hp' => ?_⟩) ⟨by simp, by simp [hlen], by simp, fun _ => ⟨vs', by rw [Gh.push_blk]; exact hb', by rw [Gh.push_room, hvs', hvs], by rw [Gh.push_room, hlen]; exact hfits, fun i j hi hj => ?_⟩, fun h => by simp at h⟩
    · rcases get_set e with ⟨rfl, rfl⟩ | ⟨hne', e⟩
      · cases hl'
      · exact hH.inj j id o' _ e hid hl' rfl hp' hp hne'
    · obtain ⟨u, e1, e2⟩ := hjoin.2 i j hi hj
      exact ⟨u, hcs _ _ e1, e2⟩
  by_cases h0 : ys = []
  · subst h0
    have hn0 : news = [] := List.length_eq_zero_iff.1 (by rw [hR.1]; simp)
    subst hn0
    have hrun := run_append_nothing (P := P) w t tx ty e i hu hi (some ad) sLen (G.room id) (by omega) v hs
    refine ⟨_, _, hrun, same (hH.kill id) rfl hb rfl (by simp; omega) fun k u hu => ?_⟩
    rw [List.append_nil] at hu
    obtain ⟨hk, rfl⟩ := List.getElem?_eq_some_iff.1 hu
    simp at hk ⊢
  · have hpos : 0 < ys.length := List.length_pos_iff.2 h0
    by_cases hin : sLen + ys.length ≤ G.room id
    · have had' := had (by omega)
      subst had'
      have hle2 : sLen * lay.length + news.length ≤ vs.size := by
        rw [hR.1, hvs, ← Nat.add_mul]; exact Nat.mul_le_mul_right _ hin
      have hth := there_of hb (sLen * lay.length) news.length hle2
      have hrun := run_append_room_src (P := P) w t tx ty e i hu hi (G.blk id) 0 sLen (G.room id) v ys.length news hs hin (fun j hj => by rw [Nat.zero_add, hlay]; exact (hth j hj).1) (fun j hj => by rw [Nat.zero_add, hlay]; exact (hth j hj).2)
      rw [Nat.zero_add, hlay] at hrun
      obtain ⟨q1, q2, q3, q4⟩ := setCells_rest (G.blk id) news (sLen * lay.length) w
      refine ⟨_, _, hrun, same (hH.update hid rfl hp .dead q1 (fun k hk => heap_setCells_other _ _ _ _ _ hk) q2 q3 q4 trivial) q1 (heap_setCells_same _ e _ _ _ _ hb) (by simp [sets_length]) hin fun k u hu => ?_⟩
      rw [List.getElem?_toArray, sets_get]
      obtain ⟨hk, _⟩ := List.getElem?_eq_some_iff.1 hu
      simp at hk
      by_cases hc2 : sLen * lay.length ≤ k
      · rw [if_pos ⟨hc2, by omega, by simp; omega⟩]
        rw [List.getElem?_append_right (by simp; omega)] at hu
        rw [← hu]; congr 1; simp; omega
      · rw [if_neg (by omega)]
        rw [List.getElem?_append_left (by simp; omega), List.getElem?_take_of_lt (by omega)] at hu
        exact hu
    · have hold : (Builtin.firstCells i.size sLen (.slice (some ad) sLen (G.room id))).run P w.drew = .ok (vs.toList.take (sLen * lay.length)).toArray w.drew := by
        by_cases hc0 : G.room id = 0
        · have : sLen = 0 := by omega
          subst this
          simp [Builtin.firstCells, loadCells, loadCellsFrom]
        · rw [had hc0, hlay]
          exact own_firstCells (w := w.drew) hb hle
      have hrun := run_append_grow_src (P := P) w t tx ty e i z hu hi hz (some ad) sLen (G.room id) _ hold v ys.length news hs (by omega) h63 (hfit _ (by omega))
      have hcap' := le_grown w (sLen + ys.length) (G.room id) e
      refine ⟨_, _, hrun, G.push n w.drew.heap.size (grownCap w (sLen + ys.length) (G.room id) e) lay.length (xs.take sLen ++ ys).length false, ?_, ?_, G.le_push _ _ _ _ _ _ _ hal, new_al⟩
      · rw [← hlen]
        exact gr_new (by rw [hlen]; exact hcap') _ fun _ => by simp
      · refine place_arr e _ (by simpa using hn) hal (hH.kill id).drew ?_ (by rw [hlen]; exact hcap') hjoin fun k u hu => ?_
        · simp only [Array.size_append, Builtin.zeroCells, Array.size_map, Array.size_range, hzs]
          rw [List.size_toArray, hjoin.1, hlen, hlay, ← Nat.add_mul]; congr 1; omega
        · have hk := (List.getElem?_eq_some_iff.1 hu).1
          rw [Array.getElem?_append_left (by simpa using hk), List.getElem?_toArray]; exact hu
end
end Go.Eng

/- An abstract machine over plain data, part M: append, literals, make, maps. -/
namespace Go.Eng
open Go.RowKit
section
variable {P : Program} {w0 : Base} {w : World} {G : Gh} {H : List O} {a : Act} {o : Oper} {Q : Exit → Act → World → Prop} {rs : FuncId → List A → Nat → C} {pk : FuncId → List (Bool × List LK) → List A → Prop}

theorem AppAfter.after {val : Value} {n : Nat} {T : TypeId} {lay : List LK} {xs : List (List C)} {w' : World} {ws : List (Nat × O)} (hr : (execOp a.eval o).run P w = .ok (.value val) w')
    (h : AppAfter w0 G (putW H ws) n T lay xs val w') : o.wp P a w (AfterV w0 G H a o.dst (.gr n) (ws ++ [(n, .arr T lay xs)]) (some n)) Q := by
  obtain ⟨G', h1, h2, h3, h4⟩ := h
  refine wp_of_value hr ⟨val, G', rfl, h1, ?_, h3, h4⟩
  rw [putW_append]; exact h2

theorem app_sound {t tx e e' : TypeId} {aTs : Array TypeId} {x y : Operand} {i : TypeInfo} {z : Value} {b c : A} {lay : List LK} {bound : Int} {base slot : Nat} (ho : o.op = .call ⟨.builtin .append, #[x, y], aTs⟩) (hts : aTs = #[t, tx])
    (hu : P.underlying t = some (.slice e)) (hux : P.underlying tx = some (.slice e')) (hi : P.info? e = some i) (hz : i.zero = some z) (hb0 : 0 < i.bytes) (hzs : z.cells.size = i.size) (hlay : i.size = lay.length) (hbound : bound = pow47 / i.bytes)
    (hH : HR w0 G H w) (hx : VR G b (a.eval x)) (hy : VR G c (a.eval y)) (hn : base + slot < H.length) (hal : G.al (base + slot) = false) (h : AllP (appE (baseE rs pk) H base slot e lay bound b c).p) :
    o.wp P a w (AfterV w0 G H a o.dst (appE (baseE rs pk) H base slot e lay bound b c).v (appE (baseE rs pk) H base slot e lay bound b c).ws (some (base + slot))) Q := by
  revert h
  unfold appE
  split
  · intro h; exact (no_stuck h).elim
  rename_i ys hys
  obtain ⟨news, hs, hR⟩ := src_of hux hH hy hys
  rw [← hlay] at hs
  split
  · intro h
    simp only [AllP_cons, Cnd.holds, AllP_nil, and_true, baseE, decide_eq_true_eq] at h
    obtain ⟨h63, hfit⟩ := app_bound hb0 hbound h
    have e1 := hx.nil
    obtain ⟨val, w', hrun, hA⟩ := app_none (ty := o.type) hu hi hz hzs hlay hH hs hR h63 hfit hn hal
    rw [← e1] at hrun
    exact hA.after (ws := []) (app_run ho hts rfl hrun)
  · rename_i id
    split
    · rename_i T' lay' xs hid
      intro h
      obtain ⟨hch, h'⟩ := chk_p h
      clear h
      rw [chk_true hch]
      simp only [Bool.and_eq_true, Nat.beq_eq] at hch
      obtain ⟨hT, hl⟩ := hch
      have := LK.beqs_eq _ _ hl
      subst hT
      subst this
      simp only [AllP_cons, Cnd.holds, AllP_nil, and_true, baseE, decide_eq_true_eq] at h'
      obtain ⟨hc, hz'⟩ := arr_len hH (by simp [arrOf, hid] : arrOf H id = some (lay, xs))
      obtain ⟨hali, ⟨hp, hcn, e1⟩ | ⟨hp, ad, e1, hlen, had⟩⟩ := hx.gr_inv
      · have hx0 : xs = [] := List.length_eq_zero_iff.1 (by omega)
        subst hx0
        obtain ⟨h63, hfit⟩ := app_bound (need := ys.length) hb0 hbound (by simpa using h')
        obtain ⟨val, w', hrun, hA⟩ := app_none (ty := o.type) hu hi hz hzs hlay (hH.kill id) hs hR h63 hfit (by simpa using hn) hal
        rw [← e1] at hrun
        exact hA.after (ws := [(id, .dead)]) (app_run ho hts rfl hrun)
      · obtain ⟨h63, hfit⟩ := app_bound (need := xs.length + ys.length) hb0 hbound (by push_cast; exact h')
        rw [hc] at e1
        obtain ⟨val, w', hrun, hA⟩ := app_arr (ty := o.type) hu hi hz hzs hlay hH hid hp (Nat.le_refl _) had hs hR h63 hfit hn hal
        rw [← e1] at hrun
        rw [List.take_length] at hA
        exact hA.after (ws := [(id, .dead)]) (app_run ho hts rfl hrun)
    · intro h; exact (no_stuck h).elim
  · rename_i id len
    split
    · rename_i T' lay' xs hid
      intro h
      obtain ⟨hch, h'⟩ := chk_p h
      clear h
      rw [chk_true hch]
      simp only [Bool.and_eq_true, Nat.beq_eq] at hch
      obtain ⟨hT, hl⟩ := hch
      have := LK.beqs_eq _ _ hl
      subst hT
      subst this
      simp only [AllP_cons, Cnd.holds, AllP_nil, and_true, baseE, decide_eq_true_eq] at h'
      obtain ⟨hc, hz'⟩ := arr_len hH (by simp [arrOf, hid] : arrOf H id = some (lay, xs))
      have hcut : (baseE rs pk).cut xs 0 len = xs.take len.toNat := rfl
      rcases hx.own_inv' with ⟨cap, ad, e1, _, hp, h0, h1, hcap, hcnt, hlen, had⟩ | ⟨_, hp, hcn, h0, h1, e1⟩
      · have hcap' : cap = G.room id := by simpa using hcap
        subst hcap'
        obtain ⟨h63, hfit⟩ := app_bound (need := len.toNat + ys.length) hb0 hbound (by push_cast; omega)
        obtain ⟨val, w', hrun, hA⟩ := app_arr (ty := o.type) (sLen := len.toNat) (ad := ad) hu hi hz hzs hlay hH hid hp (by omega) (fun h => by rw [had h]; simp) hs hR h63 hfit hn hal
        rw [← e1] at hrun
        exact hA.after (ws := [(id, .dead)]) (app_run ho hts rfl hrun)
      · have hx0 : xs = [] := List.length_eq_zero_iff.1 (by omega)
        subst hx0
        subst h1
        obtain ⟨h63, hfit⟩ := app_bound (need := ys.length) hb0 hbound (by simpa using h')
        obtain ⟨val, w', hrun, hA⟩ := app_none (ty := o.type) hu hi hz hzs hlay (hH.kill id) hs hR h63 hfit (by simpa using hn) hal
        rw [← e1] at hrun
        exact hA.after (ws := [(id, .dead)]) (app_run ho hts rfl hrun)
    · intro h; exact (no_stuck h).elim
  · intro h; exact (no_stuck h).elim
end
end Go.Eng

/- An abstract machine over plain data, part N: literals of slices, make, maps. -/
namespace Go.Eng
open Go.RowKit

theorem flat_get {α : Type} (sz : Nat) : ∀ (ls : List (List α)) (_ : ∀ i (h : i < ls.length), ls[i].length = sz) (i j : Nat) (hi : i < ls.length) (hj : j < ls[i].length), ls.flatten[i * sz + j]? = some ls[i][j]
  | [], _, i, j, hi, _ => by simp at hi
  | l :: ls, h, i, j, hi, hj => by
    have h0 := h 0 (by simp)
    simp only [List.getElem_cons_zero] at h0
    cases i with
    | zero => simp at hj ⊢; rw [List.getElem?_append_left hj]; simp [hj]
    | succ i =>
      simp at hi hj ⊢
      rw [List.getElem?_append_right (by rw [h0, Nat.add_mul]; omega), show (i + 1) * sz + j - l.length = i * sz + j by rw [h0, Nat.add_mul]; omega]
      have := flat_get sz ls (fun k hk => by have := h (k + 1) (by simp; omega); simpa using this) i j (by omega) hj
      exact this

theorem flat_len {α : Type} (sz : Nat) (ls : List (List α)) (h : ∀ i (h : i < ls.length), ls[i].length = sz) : ls.flatten.length = ls.length * sz := by
  induction ls with
  | nil => simp
  | cons l ls ih =>
    have h0 := h 0 (by simp)
    simp only [List.getElem_cons_zero] at h0
    rw [List.flatten_cons, List.length_append, h0, ih (fun i hi => by have := h (i + 1) (by simp; omega); simpa using this), List.length_cons, Nat.add_mul]
    omega

theorem fold_all {sz : Nat} : ∀ (l : List Value) (k : Nat) (pre suf : List Value) (ls : List (List Value)), pre.length = k * sz → ls.length = l.length → (∀ i (h1 : i < l.length) (h2 : i < ls.length), l[i].cells.toList = ls[i] ∧ ls[i].length = sz) → suf.length = l.length * sz →
    Instr.fill (fun i => some (i * sz, sz)) (pre ++ suf).toArray ((l.zipIdx k).map fun p => (p.2, p.1)) = some (pre ++ ls.flatten).toArray
  | [], k, pre, suf, ls, hp, hl, _, hs => by
    have h1 : suf = [] := List.length_eq_zero_iff.1 (by simpa using hs)
    have h2 : ls = [] := List.length_eq_zero_iff.1 (by simpa using hl)
    subst h1; subst h2
    simp [Instr.fill]
  | v :: l, k, pre, suf, [], hp, hl, _, _ => by simp at hl
  | v :: l, k, pre, suf, c :: ls, hp, hl, h, hs => by
    obtain ⟨e1, e2⟩ := h 0 (by simp) (by simp)
    simp only [List.getElem_cons_zero] at e1 e2
    have hsz : v.cells.size = sz := by rw [← e2, ← e1]; simp
    have hs' : suf.length = l.length * sz + sz := by rw [hs, List.length_cons, Nat.add_mul]; omega
    have g : (v.cells.size ≠ sz || decide (k * sz + v.cells.size > (pre ++ suf).toArray.size)) = false := by
      simp [hsz]; omega
    simp only [List.zipIdx_cons, List.map_cons, Instr.fill, g, Bool.false_eq_true, if_false]
    have hfold : v.cells.zipIdx.foldl (fun cs (x : Value × Nat) => cs.setIfInBounds (k * sz + x.2) x.1) (pre ++ suf).toArray = (sets (pre ++ suf) (k * sz) c).toArray := by
      rw [← Array.foldl_toList, Array.toList_zipIdx, ← e1]
      exact fold_cells _ 0 _ (k * sz)
    have hsets : sets (pre ++ suf) (k * sz) c = (pre ++ c) ++ suf.drop sz := by
      apply List.ext_getElem?
      intro i
      rw [sets_get]
      by_cases h1 : k * sz ≤ i ∧ i < k * sz + c.length ∧ i < (pre ++ suf).length
      · rw [if_pos h1, List.getElem?_append_left (by simp; omega), List.getElem?_append_right (by omega), hp]
      · rw [if_neg h1]
        by_cases h2 : i < k * sz
        · rw [List.getElem?_append_left (by omega), List.getElem?_append_left (by simp; omega), List.getElem?_append_left (by omega)]
        · simp at h1
          rw [List.getElem?_append_right (by omega), List.getElem?_append_right (by simp; omega), List.getElem?_drop]
          congr 1
          simp
          by_cases h3 : i < k * sz + c.length
          · have := h1 (by omega) h3; omega
          · omega
    have := fold_all l (k + 1) (pre ++ c) (suf.drop sz) ls (by simp [hp, e2, Nat.add_mul] : (pre ++ c).length = (k + 1) * sz) (by simpa using hl) (fun i h1 h2 => by
      have := h (i + 1) (by simp; omega) (by simp; omega)
      simpa using this) (by simp; omega)
    rw [← hsets] at this
    simp only [List.flatten_cons, ← List.append_assoc]
    rw [← this]
    exact congrArg (fun z => Instr.fill (fun i => some (i * sz, sz)) z ((l.zipIdx (k + 1)).map fun p => (p.2, p.1))) hfold

section
variable {P : Program} {w0 : Base} {w : World} {G : Gh} {H : List O} {a : Act} {o : Oper} {Q : Exit → Act → World → Prop} {rs : FuncId → List A → Nat → C} {pk : FuncId → List (Bool × List LK) → List A → Prop}

theorem known_of_dat {x d : A} (h : dat (baseE rs pk) H x = some d) : x ≠ .u ∧ (∀ b v, x ≠ .wh b v) ∧ ∀ l, x ≠ .tup l := by
  refine ⟨?_, ?_, ?_⟩
  · rintro rfl; simp [dat] at h
  · rintro b v rfl; simp [dat] at h
  · rintro l rfl; simp [dat] at h

theorem asRow_spec : ∀ {lay : List LK} {as : List A} {r : List C}, asRow lay as = some r → as.length = lay.length ∧ ∀ j (h : j < as.length), ∃ c, asC (lay.getD j .bool) as[j] = some c ∧ r.getD j .nil = c
  | [], [], r, h => by simp only [asRow, Option.some.injEq] at h; subst h; exact ⟨rfl, fun j h => by simp at h⟩
  | [], _ :: _, r, h => by simp [asRow] at h
  | _ :: _, [], r, h => by simp [asRow] at h
  | k :: lay, a :: as, r, h => by
    unfold asRow at h
    split at h
    · rename_i c cs e1 e2
      cases h
      obtain ⟨h1, h2⟩ := asRow_spec e2
      refine ⟨by simp [h1], fun j hj => ?_⟩
      cases j with
      | zero => exact ⟨c, by simpa using e1, by simp⟩
      | succ j => simp at hj; obtain ⟨c', e3, e4⟩ := h2 j hj; exact ⟨c', by simpa using e3, by simpa using e4⟩
    · cases h

theorem datL_known {l ds : List A} (h : datL (baseE rs pk) H l = some ds) : ∀ x ∈ l, ∃ d, dat (baseE rs pk) H x = some d := by
  induction l generalizing ds with
  | nil => intro x hx; cases hx
  | cons a l ih =>
    simp only [datL] at h
    split at h
    · rename_i x xs e1 e2
      intro y hy
      rcases List.mem_cons.1 hy with rfl | hy
      · exact ⟨_, e1⟩
      · exact ih e2 y hy
    · cases h

theorem cellsOf_known {x : A} {ds : List A} (h : datL (baseE rs pk) H (cellsOf x) = some ds) : known x = true := by
  cases x with
  | u => obtain ⟨d, e⟩ := datL_known h .u (by simp [cellsOf]); simp [dat] at e
  | wh b v => obtain ⟨d, e⟩ := datL_known h (.wh b v) (by simp [cellsOf]); simp [dat] at e
  | tup l => obtain ⟨d, e⟩ := datL_known h (.tup l) (by simp [cellsOf]); simp [dat] at e
  | pin v l => obtain ⟨d, e⟩ := datL_known h (.pin v l) (by simp [cellsOf]); simp [dat] at e
  | _ => rfl

/-- The elements of a literal, as rows. -/
theorem asRows_spec (hH : HR w0 G H w) {lay : List LK} : ∀ {as : List A} {rows : List (List C)} (vals : List Value), asRows (baseE rs pk) H lay as = some rows → vals.length = as.length →
    (∀ i (_ : i < as.length) (_ : i < vals.length), VR G as[i] vals[i]) →
    rows.length = as.length ∧ (∀ i (_ : i < vals.length), vals[i].cells.size = lay.length) ∧ RowsR G.F lay rows (vals.map fun v => v.cells.toList).flatten
  | [], rows, vals, h, hl, _ => by
    simp only [asRows, Option.some.injEq] at h
    subst h
    have : vals = [] := List.length_eq_zero_iff.1 (by simpa using hl)
    subst this
    exact ⟨rfl, fun i h => by simp at h, RowsR.nil _ _⟩
  | x :: as, rows, [], h, hl, _ => by simp at hl
  | x :: as, rows, v :: vals, h, hl, hv => by
    unfold asRows at h
    split at h
    · rename_i r rs' e1 e2
      cases h
      obtain ⟨k1, k2, k3⟩ := asRows_spec hH vals e2 (by simpa using hl) (fun i h1 h2 => by
        have := hv (i + 1) (by simp; omega) (by simp; omega)
        simpa using this)
      simp only [Option.bind_eq_some_iff] at e1
      obtain ⟨ds, hds, hrow⟩ := e1
      have hvx : VR G x v := hv 0 (by simp) (by simp)
      obtain ⟨c1, c2, c3⟩ := hvx.known_cells (cellsOf_known hds)
      obtain ⟨m1, m2, m3⟩ := datL_sound hH (cellsOf x) ds v.cells.toList hds (by simpa using c1) (fun j h1 h2 => by
        have := c3 j h1 (by simpa using h2)
        rw [Array.getElem_toList]; exact this)
      obtain ⟨q1, q2⟩ := asRow_spec hrow
      have hone : RowsR G.F lay [r] v.cells.toList := by
        refine ⟨by simp; omega, fun i j hi hj => ?_⟩
        have hi0 : i = 0 := by simpa using hi
        subst hi0
        have hj2 : j < v.cells.toList.length := by simp; omega
        obtain ⟨c, e3, e4⟩ := q2 j (by omega)
        refine ⟨v.cells.toList[j], by rw [Nat.zero_mul, Nat.zero_add]; exact List.getElem?_eq_getElem hj2, ?_⟩
        have : cellC lay [r] 0 j = fixC (lay.getD j .bool) c := by unfold cellC cellAt; rw [← e4]; rfl
        rw [this]
        exact asC_of e3 (m3 j (by omega) hj2)
      refine ⟨by simp [k1], fun i hi => ?_, ?_⟩
      · cases i with
        | zero => simp; omega
        | succ i => simp at hi ⊢; exact k2 i hi
      · simp only [List.map_cons, List.flatten_cons]
        exact hone.join k3
    · cases h
end
end Go.Eng

/- An abstract machine over plain data, part O: literals of slices, make, maps: sound. -/
namespace Go.Eng
open Go.RowKit
section
variable {P : Program} {w0 : Base} {w : World} {G : Gh} {H : List O} {a : Act} {o : Oper} {Q : Exit → Act → World → Prop} {rs : FuncId → List A → Nat → C} {pk : FuncId → List (Bool × List LK) → List A → Prop}

theorem build_run {t e : TypeId} {len : Nat} {ps : Array (Nat × Operand)} {sz : Nat} {ei : TypeInfo} {z : Value} {ρ : Operand → Value} (ho : o.op = .buildSlice t len ps) (hu : P.underlying t = some (.slice e))
    (hei : P.info? e = some ei) (hz : ei.zero = some z) (hsz : ei.size = sz) (hps : ps.toList.map (·.1) = List.range ps.size) (hlen : len = ps.size) (hsmall : len * sz ≤ 2 ^ 24)
    (hc : ∀ i (_ : i < (ps.toList.map fun p => ρ p.2).length), (ps.toList.map fun p => ρ p.2)[i].cells.size = sz) :
    (execOp ρ o).run P w = .ok (.value (.slice (some ⟨w.heap.size, 0, none⟩) len len)) (w.alloc (.cells ((ps.toList.map fun p => ρ p.2).map fun v => v.cells.toList).flatten.toArray e)) := by
  have hz0 : (zeroValue e).run P w = .ok z w := by simp [zeroValue, typeInfo, hei, hz]
  have hs0 : (sizeOf e).run P w = .ok sz w := by simp [sizeOf, typeInfo, hei, hsz]
  have hparts : (ps.map fun (x : Nat × Operand) => (x.1, ρ x.2)).toList = ((ps.toList.map fun p => ρ p.2).zipIdx 0).map fun p => (p.2, p.1) := by
    refine List.ext_getElem (by simp) fun k hk1 hk2 => ?_
    have hks : k < ps.size := by simpa using hk1
    have hk : (ps.toList.map (·.1))[k]? = (List.range ps.size)[k]? := by rw [hps]
    simp [hks] at hk
    simp
    exact hk
  have hf2 : ∀ Z : Array Value, Z.size = len * sz → Instr.fill (fun i => some (i * sz, sz)) Z (ps.map fun (x : Nat × Operand) => (x.1, ρ x.2)).toList = some ((ps.toList.map fun p => ρ p.2).map fun v => v.cells.toList).flatten.toArray := by
    intro Z hZ
    rw [hparts]
    have := fold_all (sz := sz) (ps.toList.map fun p => ρ p.2) 0 [] Z.toList ((ps.toList.map fun p => ρ p.2).map fun v => v.cells.toList) (by simp) (by simp) (fun i h1 h2 => by
      have := hc i h1
      simp at this h1 ⊢; exact this) (by simp [hlen, hZ])
    simpa using this
  have hbig : ¬ (len * sz > 2 ^ 24) := by omega
  simp only [execOp, ho, Instr.buildSlice, Sem.run_bind, run_underlying hu, Result.andThen_ok, hs0, if_neg hbig]
  by_cases h0 : len * sz = 0
  · simp only [if_pos h0, Sem.run_bind, Sem.run_pure, Result.andThen_ok]
    rw [hf2 _ (by simp)]
    simp [newRow]
  · simp only [if_neg h0, hz0, Sem.run_bind, Sem.run_pure, Result.andThen_ok]
    rw [hf2 _ (by simp)]
    simp [newRow]

theorem evs_VR {ev : Opd → A} {ps : Array (Nat × Operand)} (hx : ∀ x ∈ ps.toList.map (·.2), VR G (ev (opd x)) (a.eval x)) :
    ∀ i (_ : i < ((ps.toList.map fun p => opd p.2).map ev).length) (_ : i < (ps.toList.map fun p => a.eval p.2).length), VR G ((ps.toList.map fun p => opd p.2).map ev)[i] (ps.toList.map fun p => a.eval p.2)[i] := by
  intro i h1 h2
  simp at h1 ⊢
  exact hx _ (List.mem_map.2 ⟨ps.toList[i]'(by simpa using h1), List.getElem_mem _, by simp⟩)

theorem bsl_sound {t e : TypeId} {len : Nat} {ps : Array (Nat × Operand)} {lay : List LK} {ei : TypeInfo} {z : Value} {ev : Opd → A} {n : Nat} (ho : o.op = .buildSlice t len ps) (hu : P.underlying t = some (.slice e))
    (hei : P.info? e = some ei) (hz : ei.zero = some z) (hsz : ei.size = lay.length) (hps : ps.toList.map (·.1) = List.range ps.size) (hlen : len = ps.size) (hsmall : len * ei.size ≤ 2 ^ 24)
    (hH : HR w0 G H w) (hx : ∀ x ∈ ps.toList.map (·.2), VR G (ev (opd x)) (a.eval x)) (hn : n < H.length) (hal : G.al n = false) {fw : List (Nat × O)} {l : List A} (hfw : fw = frzL H l) {rows : List (List C)}
    (h : asRows (baseE rs pk) (putW H fw) lay ((ps.toList.map fun p => opd p.2).map ev) = some rows) :
    o.wp P a w (AfterV w0 G H a o.dst (.gr n) (fw ++ [(n, .arr e lay rows)]) (some n)) Q := by
  subst hfw
  obtain ⟨G1, hH1, hLe1, hal1⟩ := freezeL l hH
  obtain ⟨k1, k2, k3⟩ := asRows_spec hH1 (ps.toList.map fun p => a.eval p.2) h (by simp) (evs_VR fun x hx' => (hx x hx').mono hLe1)
  have hll : rows.length = len := by rw [k1]; simp [hlen]
  refine wp_of_value (build_run (ρ := a.eval) ho hu hei hz hsz hps hlen (by rw [← hsz]; exact hsmall) k2) ⟨_, G1.push n w.heap.size len lay.length rows.length false, rfl, ?_, ?_, hLe1.trans (G1.le_push _ _ _ _ _ _ _ (by rw [hal1]; exact hal)), fun i hi => ?_⟩
  · rw [hll]; exact gr_new (Nat.le_refl _) _ fun _ => rfl
  · rw [putW_append]
    refine place_arr e len (by rw [putW_length]; exact hn) (by rw [hal1]; exact hal) hH1 ?_ (by omega) k3 fun k u hu => by simpa using hu
    rw [List.size_toArray, k3.1, hll]
  · rcases new_al i hi with h | h
    · exact .inl (by rw [← hal1]; exact h)
    · exact .inr h

theorem lit_sound {t e : TypeId} {len : Nat} {ps : Array (Nat × Operand)} {lay : List LK} {ei : TypeInfo} {z : Value} {ev : Opd → A} (ho : o.op = .buildSlice t len ps) (hu : P.underlying t = some (.slice e))
    (hei : P.info? e = some ei) (hz : ei.zero = some z) (hsz : ei.size = lay.length) (hps : ps.toList.map (·.1) = List.range ps.size) (hlen : len = ps.size) (hsmall : len * ei.size ≤ 2 ^ 24)
    (hH : HR w0 G H w) (hx : ∀ x ∈ ps.toList.map (·.2), VR G (ev (opd x)) (a.eval x)) {rows : List (List C)}
    (h : asRows (baseE rs pk) H lay ((ps.toList.map fun p => opd p.2).map ev) = some rows) (mk : Option Nat) :
    o.wp P a w (AfterV w0 G H a o.dst (.c (.sl lay rows)) [] mk) Q := by
  obtain ⟨k1, k2, k3⟩ := asRows_spec hH (ps.toList.map fun p => a.eval p.2) h (by simp) (evs_VR hx)
  have hll : rows.length = len := by rw [k1]; simp [hlen]
  -- one place more, and frozen at once
  have hH' := hH.widen 1
  have hal : G.al H.length = false := by
    cases e : G.al H.length with
    | false => rfl
    | true => exact absurd (hH.lt _ e) (Nat.lt_irrefl _)
  have hpl := place_arr (n := H.length) e len (by simp) hal hH' (cs := ((ps.toList.map fun p => a.eval p.2).map fun v => v.cells.toList).flatten.toArray) (by rw [List.size_toArray, k3.1, hll]) (by omega) k3 (fun k u hu => by simpa using hu)
  have hget : ((H ++ List.replicate 1 O.dead).set H.length (.arr e lay rows))[H.length]? = some (.arr e lay rows) := List.getElem?_set_self (by simp)
  obtain ⟨G2, f1, f2, f3⟩ := hpl.freeze hget
  have hv0 := gr_new (G := G) (n := H.length) (b := w.heap.size) (r := len) (z := lay.length) (c := rows.length) (by omega) ⟨w.heap.size, 0, none⟩ fun _ => rfl
  have hget2 : (((H ++ List.replicate 1 O.dead).set H.length (.arr e lay rows)).set H.length (.frz lay rows))[H.length]? = some (.frz lay rows) := List.getElem?_set_self (by simp)
  have hv := gr_data f1 hget2 (hv0.mono f2)
  have hLe2 := (G.le_push w0.keeps H.length w.heap.size len lay.length rows.length false hal).trans f2
  -- the place is forgotten
  let G3 : Gh := { G2 with al := G.al }
  have hLe3 : Gh.Le w0.keeps G G3 := ⟨hLe2.F, hLe2.old, fun _ h => h, hLe2.blk, hLe2.room, hLe2.esz, hLe2.cnt, hLe2.ph⟩
  refine wp_of_value (build_run (ρ := a.eval) ho hu hei hz hsz hps hlen (by rw [← hsz]; exact hsmall) k2) ⟨_, G3, rfl, ?_, ?_, hLe3, fun i h => .inl h⟩
  · rw [hll] at hv
    exact hv.data rfl fun _ _ _ h => h
  · have hb : HR w0 G H (w.alloc (.cells ((ps.toList.map fun p => a.eval p.2).map fun v => v.cells.toList).flatten.toArray e)) := hH.below ((Below.refl _ _).alloc (Nat.le_refl _) _)
    show HR w0 G3 H _
    refine ⟨fun i o h => (hb.obj i o h).mono hLe3, fun i o h hl hp => ?_, fun i j o1 o2 h1 h2 l1 l2 p1 p2 hne => ?_, hH.lt, f1.fz, f1.bel⟩
    · have hali := (hb.obj i o h).al_of (O.live_ne hl)
      have hi := lt_of_get h
      have hne : i ≠ H.length := by omega
      have h' : (((H ++ List.replicate 1 O.dead).set H.length (.arr e lay rows)).set H.length (.frz lay rows))[i]? = some o := by
        rw [List.getElem?_set_ne (Ne.symm hne), List.getElem?_set_ne (Ne.symm hne), List.getElem?_append_left hi]; exact h
      exact f1.new i o h' hl hp
    · have q1 := (hb.obj i o1 h1).al_of (O.live_ne l1)
      have q2 := (hb.obj j o2 h2).al_of (O.live_ne l2)
      have e1 : G2.blk i = G.blk i := hLe2.blk i q1
      have e2 : G2.blk j = G.blk j := hLe2.blk j q2
      have e3 : G2.ph i = G.ph i := hLe2.ph i q1
      have e4 : G2.ph j = G.ph j := hLe2.ph j q2
      show G2.blk i ≠ G2.blk j
      rw [e1, e2]
      exact hb.inj i j o1 o2 h1 h2 l1 l2 (by rw [← e3]; exact p1) (by rw [← e4]; exact p2) hne
end
end Go.Eng

/- An abstract machine over plain data, part P: make. -/
namespace Go.Eng
open Go.RowKit
section
variable {P : Program} {w0 : Base} {w : World} {G : Gh} {H : List O} {a : Act} {o : Oper} {Q : Exit → Act → World → Prop} {rs : FuncId → List A → Nat → C} {pk : FuncId → List (Bool × List LK) → List A → Prop}

theorem mks_sound {t e : TypeId} {x y : Operand} {lay : List LK} {zr : List C} {bound : Int} {i : TypeInfo} {z : Value} {b c : A} {n : Nat} (ho : o.op = .makeSlice t x y) (hu : P.underlying t = some (.slice e)) (hi : P.info? e = some i) (hz : i.zero = some z)
    (hsz : i.size = lay.length) (hb0 : 0 < i.bytes) (hbound : bound = pow47 / i.bytes) (hzs : z.cells.size = i.size) (hzr : asRow lay (z.cells.toList.map toA1) = some zr)
    (hH : HR w0 G H w) (hx : VR G b (a.eval x)) (hy : VR G c (a.eval y)) (hn : n < H.length) (hal : G.al n = false) {r : Rs}
    (hr : r = match (generalizing := false) b, c with
    | .c (.int .i64 l), .c (.int .i64 c) => ⟨[.b ((baseE rs pk).le 0 l), .b ((baseE rs pk).le l c), .b ((baseE rs pk).le c bound)], .gr n, [(n, .arr e lay ((baseE rs pk).rep l zr))]⟩
    | _, _ => stuck) (h : AllP r.p) : o.wp P a w (AfterV w0 G H a o.dst r.v r.ws (some n)) Q := by
  subst hr
  revert h
  split
  · rename_i l c
    intro h
    simp [baseE] at h
    obtain ⟨h0, h1, h3⟩ := h
    have e1 := hx.int
    have e2 := hy.int
    have hbd : c * i.bytes ≤ 140737488355328 := by
      have h2 : bound * i.bytes ≤ pow47 := by rw [hbound]; exact Int.ediv_mul_le _ (by omega)
      have h3' : c * i.bytes ≤ bound * i.bytes := Int.mul_le_mul_of_nonneg_right h3 (by omega)
      unfold pow47 at h2; omega
    have hc47 : c ≤ 140737488355328 := by
      have : c * 1 ≤ c * i.bytes := Int.mul_le_mul_of_nonneg_left (by omega) (by omega)
      omega
    have wl : IntKind.i64.wrap l = l := IntWalk.i64_in l (by omega)
    have wc : IntKind.i64.wrap c = c := IntWalk.i64_in c (by omega)
    have hz0 : (zeroValue e).run P w = .ok z w := by simp [zeroValue, typeInfo, hi, hz]
    have hs0 : (sizeOf e).run P w = .ok i.size w := by simp [sizeOf, typeInfo, hi]
    have ht0 : (typeInfo e).run P w = .ok i w := by simp [typeInfo, hi]
    let zs : Array Value := if c.toNat * i.size = 0 then #[] else z.cells
    let cs : Array Value := (Array.range (c.toNat * i.size)).map fun k => zs[k % zs.size]!
    have hcs : cs.size = c.toNat * i.size := by simp [cs]
    have hget : ∀ k j, k < c.toNat → j < i.size → ∃ (hj : j < z.cells.size), cs[k * i.size + j]? = some z.cells[j] := by
      intro k j hk hj
      have hle : (k + 1) * i.size ≤ c.toNat * i.size := Nat.mul_le_mul_right _ hk
      rw [Nat.add_mul, Nat.one_mul] at hle
      have hne : c.toNat * i.size ≠ 0 := by omega
      have hzs' : zs = z.cells := if_neg hne
      refine ⟨by omega, ?_⟩
      rw [Array.getElem?_eq_getElem (by omega)]
      simp only [cs, hzs', Array.getElem_map, Array.getElem_range]
      have hm : (k * i.size + j) % z.cells.size = j := by rw [hzs, Nat.add_comm, Nat.add_mul_mod_self_right]; exact Nat.mod_eq_of_lt hj
      rw [hm]
      exact congrArg some (getElem!_pos z.cells j (by omega))
    obtain ⟨q1, q2⟩ := asRow_spec hzr
    have hR : RowsR G.F lay (List.replicate l.toNat zr) (cs.toList.take (l.toNat * lay.length)) := by
      have := RowsR.take (F := G.F) (lay := lay) (xs := List.replicate l.toNat zr) (vs := cs.toList) (by simp; rw [hcs, hsz]; exact Nat.mul_le_mul_right _ (by omega)) (fun k j hk hj => by
        simp at hk
        obtain ⟨hj', e⟩ := hget k j (by omega) (by omega)
        refine ⟨z.cells[j], by rw [← hsz]; simpa using e, ?_⟩
        obtain ⟨cc, e3, e4⟩ := q2 j (by simp; omega)
        have : cellC lay (List.replicate l.toNat zr) k j = fixC (lay.getD j .bool) cc := by
          unfold cellC cellAt
          rw [show (List.replicate l.toNat zr).getD k [] = zr by rw [List.getD_eq_getElem?_getD, List.getElem?_replicate, if_pos (by omega)]; rfl, e4]
        rw [this]
        refine asC_of e3 ?_
        simp
        exact VR_toA1 G _)
      simpa using this
    refine wp_of_value (val := .slice (some ⟨w.heap.size, 0, none⟩) l.toNat c.toNat) (w' := w.alloc (.cells cs e)) ?_ ⟨_, G.push n w.heap.size c.toNat lay.length (List.replicate l.toNat zr).length false, rfl, ?_, place_arr e c.toNat hn hal hH (by rw [hcs, hsz]) (by simp; omega) hR (fun k u hu => ?_), G.le_push _ _ _ _ _ _ _ hal, new_al⟩
    · have g1 : ¬ c < 0 := by omega
      have g2 : ¬ l < 0 := by omega
      have g3 : ¬ l > c := by omega
      have g4 : ¬ (281474976710656 < (i.bytes : Int) * c) := by
        rw [Int.mul_comm]; omega
      by_cases hne : c.toNat * i.size = 0
      · have hcs0 : cs = #[] := by
          apply Array.eq_empty_of_size_eq_zero; rw [hcs, hne]
        simp only [execOp, ho, e1, e2, Instr.makeSlice, asInt, asIntOf, Sem.run_bind, run_underlying hu, Sem.run_pure, Result.andThen_ok, ht0, hs0, wl, wc]
        simp [g1, g2, g3, g4, hs0, hne, newRow, hcs0]
        congr 2
        apply Array.eq_empty_of_size_eq_zero
        simp
      · have hcs0 : cs = (Array.range (c.toNat * i.size)).map fun k => z.cells[k % z.cells.size]! := by simp only [cs, zs, if_neg hne]
        simp only [execOp, ho, e1, e2, Instr.makeSlice, asInt, asIntOf, Sem.run_bind, run_underlying hu, Sem.run_pure, Result.andThen_ok, ht0, hs0, wl, wc]
        simp only [hcs0]
        simp [g1, g2, g3, g4, hs0, hne, hz0, newRow]
    · have := gr_new (G := G) (n := n) (b := w.heap.size) (r := c.toNat) (z := lay.length) (c := l.toNat) (by omega) ⟨w.heap.size, 0, none⟩ fun _ => rfl
      simpa using this
    · obtain ⟨hk, rfl⟩ := List.getElem?_eq_some_iff.1 hu
      simp at hk ⊢
  · intro h; exact (no_stuck h).elim
end
end Go.Eng

/- An abstract machine over plain data, part Q: maps. -/
namespace Go.Eng
open Go.RowKit
section
variable {P : Program} {w0 : Base} {w : World} {G : Gh} {H : List O} {a : Act} {o : Oper} {Q : Exit → Act → World → Prop} {rs : FuncId → List A → Nat → C} {pk : FuncId → List (Bool × List LK) → List A → Prop}

theorem mkm_sound {t key e : TypeId} {kk : IntKind} {row : Bool} {lay : List LK} {n : Nat} (ho : o.op = .makeMap t none) (hu : P.underlying t = some (.map key e)) (hl : row = false → lay.length = 1)
    (hH : HR w0 G H w) (hn : n < H.length) (hal : G.al n = false) : o.wp P a w (AfterV w0 G H a o.dst (.map n) [(n, .mp kk row lay [])] (some n)) Q := by
  refine wp_of_value (val := .map (some w.heap.size)) (w' := w.alloc (.map #[] 0)) ?_ ⟨_, G.push n w.heap.size 0 0 0 false, rfl, ?_, hH.alloc _ n 0 0 0 _ hn hal ⟨by simp, by simp, #[], 0, ?_, ⟨rfl, fun i h1 => by simp at h1, fun x hx => by simp at hx, by simp⟩, hl, fun i h1 => by simp at h1⟩, G.le_push _ _ _ _ _ _ _ hal, new_al⟩
  · simp [execOp, ho, Instr.makeMap]
  · have := VR.map (G := G.push n w.heap.size 0 0 0 false) n (by simp) (by simp)
    rwa [Gh.push_blk] at this
  · rw [Gh.push_blk]; exact heap_alloc_new w _

/-- A map's block is written. -/
theorem HR.setMap {id : Nat} {kk : IntKind} {row : Bool} {lay : List LK} {es es' : List (Int × List C)} {ms ms' : Array MapEntry} {clock clock' : Nat} (hH : HR w0 G H w) (hid : H[id]? = some (.mp kk row lay es)) (hb : w.heap[G.blk id]? = some (.map ms clock))
    (hm : MR G.F kk row lay es' ms' clock') :
    HR w0 G (H.set id (.mp kk row lay es')) { w with heap := w.heap.setIfInBounds (G.blk id) (.map ms' clock') } ∧ (setObj (G.blk id) (.map ms' clock')).run P w = .ok () { w with heap := w.heap.setIfInBounds (G.blk id) (.map ms' clock') } := by
  obtain ⟨hal, hp, _⟩ := hH.obj id _ hid
  have hlt := (hH.new id _ hid rfl hp).2.2
  refine ⟨hH.update hid rfl hp (.mp kk row lay es') (by simp) (fun k hk => ?_) rfl rfl rfl ⟨hal, hp, ms', clock', ?_, hm⟩, ?_⟩
  · simp [Array.getElem?_setIfInBounds, Ne.symm hk]
  · simp [Array.getElem?_setIfInBounds, hlt]
  · simp [setObj, Sem.run, hb]


theorem mput_none {n : Int} {v : List C} : ∀ {es : List (Int × List C)}, mfind n es = none → mput n v es = es ++ [(n, v)]
  | [], _ => rfl
  | e :: es, h => by
    unfold mfind at h
    split at h
    · cases h
    · rename_i hne
      simp [mput, hne, mput_none h]
theorem mput_at {n : Int} {v : List C} : ∀ {es : List (Int × List C)} {j : Nat} (h1 : j < es.length), es[j].1 = n → (∀ q (h : q < es.length), q < j → es[q].1 ≠ n) → mput n v es = es.set j (n, v)
  | [], j, h1, _, _ => by simp at h1
  | e :: es, 0, _, h, _ => by simp at h; simp [mput, h]
  | e :: es, j + 1, h1, h, hq => by
    have h0 := hq 0 (by simp) (by omega)
    simp at h0 h1 h
    have hne : (n == e.1) = false := by simp; exact fun h => h0 h.symm
    simp only [mput, hne, List.set_cons_succ]
    rw [mput_at h1 h fun q hq' hlt => by have := hq (q + 1) (by simp; omega) (by omega); simpa using this]
    rfl
theorem mrem_none {n : Int} : ∀ {es : List (Int × List C)}, mfind n es = none → mrem n es = es
  | [], _ => rfl
  | e :: es, h => by
    unfold mfind at h
    split at h
    · cases h
    · rename_i hne
      simp [mrem, hne, mrem_none h]
theorem mrem_at {n : Int} : ∀ {es : List (Int × List C)} {j : Nat} (h1 : j < es.length), es[j].1 = n → (∀ q (h : q < es.length), q < j → es[q].1 ≠ n) → mrem n es = es.eraseIdx j
  | [], j, h1, _, _ => by simp at h1
  | e :: es, 0, _, h, _ => by simp at h; simp [mrem, h]
  | e :: es, j + 1, h1, h, hq => by
    have h0 := hq 0 (by simp) (by omega)
    simp at h0 h1 h
    have hne : (n == e.1) = false := by simp; exact fun h => h0 h.symm
    simp only [mrem, hne, List.eraseIdx_cons_succ]
    rw [mrem_at h1 h fun q hq' hlt => by have := hq (q + 1) (by simp; omega) (by omega); simpa using this]
    rfl

theorem putW_get {id : Nat} : ∀ (ws : List (Nat × O)) (H : List O), (∀ x ∈ ws, x.1 ≠ id) → (putW H ws)[id]? = H[id]?
  | [], _, _ => rfl
  | x :: ws, H, h => by
    rw [putW, putW_get ws _ fun y hy => h y (by simp [hy]), List.getElem?_set_ne (h x (by simp))]

/-- Data of a value's cells, made into a value. -/
theorem made_data {A3 : A} {v : Value} {ds : List A} (hH : HR w0 G H w) (hz : VR G A3 v) (hd : datL (baseE rs pk) H (cellsOf A3) = some ds) : Made G (aggA A3) ds v := by
  have hm := made_cells hz
  cases ha : aggA A3 with
  | true =>
    rw [ha] at hm
    obtain ⟨vs, rfl, hs, hv⟩ := hm
    obtain ⟨_, k2, k3⟩ := datL_sound hH _ _ vs.toList hd (by simpa using hs) (fun i h1 h2 => by rw [Array.getElem_toList]; exact hv i h1 (by simpa using h2))
    exact ⟨vs, rfl, by omega, fun i h1 h2 => by have := k3 i h1 (by simpa using h2); rwa [Array.getElem_toList] at this⟩
  | false =>
    rw [ha] at hm
    obtain ⟨a, e, hv⟩ := hm
    rw [e] at hd
    obtain ⟨_, k2, k3⟩ := datL_sound hH _ _ [v] hd (by simp) (fun i h1 h2 => by
      have hi : i = 0 := by simp at h1; exact h1
      subst hi; exact hv)
    match ds, k2 with
    | [d], _ => exact ⟨d, rfl, k3 0 (by simp) (by simp)⟩
theorem MSt_push {kk : IntKind} {n : Int} {es : List (Int × List C)} {r : List C} {ms : Array MapEntry} {clock : Nat} {v : Value} (h : MSt kk es ms clock) : MSt kk (es ++ [(n, r)]) (ms.push { key := .int kk n, val := v, born := clock }) (clock + 1) where
  size := by simp [h.size]
  key i h1 h2 := by
    by_cases hi : i < es.length
    · rw [Array.getElem_push_lt (by have := h.size; omega)]
      simp only [List.getElem_append_left hi]
      exact h.key i hi (by have := h.size; omega)
    · have hie : i = es.length := by simp at h1; omega
      subst hie
      have := h.size
      simp [← this]
  old x hx := by
    simp only [Array.toList_push, List.mem_append, List.mem_singleton] at hx
    rcases hx with hx | rfl
    · have := h.old x hx; omega
    · exact Nat.lt_succ_self _
  apart := by
    simp only [Array.toList_push, List.map_append, List.map_cons, List.map_nil]
    refine List.nodup_append.2 ⟨h.apart, by simp, fun a ha b hb => ?_⟩
    simp at hb
    subst hb
    obtain ⟨x, hx, rfl⟩ := List.mem_map.1 ha
    have := h.old x hx
    omega
theorem mup_sound {t key e : TypeId} {kd : IntKind} {x k v : Operand} {A1 A2 A3 : A} (ho : o.op = .mapUpdate t x k v) (hu : P.underlying t = some (.map key e)) (hk : P.underlying key = some (.int kd)) (hH : HR w0 G H w)
    (hx : VR G A1 (a.eval x)) (hy : VR G A2 (a.eval k)) (hz : VR G A3 (a.eval v)) {r : Rs}
    (hr : r = match (generalizing := false) A1, A2 with
    | .map id, .c (.int kk n) => match (putW H (frzL H (cellsOf A3)))[id]? with
      | some (.mp k' row lay es) => match (datL (baseE rs pk) (putW H (frzL H (cellsOf A3))) (cellsOf A3)).bind (asRow lay) with
        | some r => chk (kk == k' && aggA A3 == row) ⟨[], .u, frzL H (cellsOf A3) ++ [(id, .mp k' row lay ((baseE rs pk).mset es n r))]⟩
        | none => stuck
      | _ => stuck
    | _, _ => stuck) (h : AllP r.p) (mk : Option Nat) : o.wp P a w (AfterV w0 G H a o.dst r.v r.ws mk) Q := by
  subst hr
  have hck' : ∀ n b v, (Instr.checkKey b (n + 1) key v).run P w = .ok () w := by
    intro n b v
    simp only [Instr.checkKey, Sem.run_bind, run_underlying hk, Result.andThen_ok]
    rfl
  have hck : ∀ b v, (Instr.checkKey b 10000 key v).run P w = .ok () w := hck' 9999
  clear hck'
  revert h
  split
  · rename_i id kk n
    split
    · rename_i k' row lay es hid1
      split
      · rename_i c hc
        intro h
        obtain ⟨hkk, _⟩ := chk_p h
        rw [chk_true hkk]
        simp only [Bool.and_eq_true] at hkk
        have hrow := eq_of_beq hkk.2
        have hkk := eq_of_beq hkk.1
        subst hkk hrow
        clear h
        simp only [Option.bind_eq_some_iff] at hc
        obtain ⟨ds, hd, hc⟩ := hc
        obtain ⟨G1, hH1, hLe1, hal1⟩ := freezeL (cellsOf A3) hH
        obtain ⟨hcr, _⟩ := (made_data hH1 (hz.mono hLe1) hd).row hc
        obtain ⟨_, _, e1⟩ := (hx.mono hLe1).map_inv
        have e2 := hy.int
        obtain ⟨_, _, ms, clock, hb, hm⟩ := hH1.obj id _ hid1
        have hs := hm.st.size
        obtain ⟨r, hr, hcase⟩ := findNow_ints (k := kk) (kd := kd) (n := n) ms.toList es 0 (by simpa using hs) (fun j h1 h2 => by simpa using hm.st.key j h1 (by simpa using h2))
        rcases hcase with ⟨h1, h2⟩ | ⟨j, h1, h2, h3, h4, h5, h6⟩
        · subst h2
          obtain ⟨m1, m2⟩ := hH1.setMap (P := P) (clock' := clock + 1) hid1 hb (es' := mput n c es) (ms' := ms.push { key := .int kk n, val := a.eval v, born := clock }) (by
            rw [mput_none h1]
            refine ⟨MSt_push hm.st, hm.wide, fun i g1 g2 => ?_⟩
            by_cases hi : i < es.length
            · rw [Array.getElem_push_lt (by omega)]
              simp only [List.getElem_append_left hi]
              exact hm.val i hi (by omega)
            · have hie : i = es.length := by simp at g1; omega
              subst hie
              simp only [List.getElem_append_right (Nat.le_refl _)]
              simp [← hs]
              exact hcr)
          refine wp_of_skip ?_ ⟨undef, G1, rfl, .u _, by rw [putW_append]; exact m1, hLe1, fun i h => .inl (by rw [← hal1]; exact h)⟩
          simp [execOp, ho, e1, e2, Instr.mapUpdate, run_underlying hu, hck, Instr.findKey, run_underlying hk, hr, getObj, Sem.run, hb, m2]
        · subst h5
          have h2' : j < ms.size := by simpa using h2
          have hkey : ms[j].key = .int kk n := by rw [hm.st.key j h1 h2', h3]
          obtain ⟨m1, m2⟩ := hH1.setMap (P := P) (clock' := clock) hid1 hb (es' := mput n c es) (ms' := ms.modify j fun e => { e with key := .int kk n, val := a.eval v }) (by
            rw [mput_at h1 h3 h6]
            refine ⟨⟨by simp [hs], fun i g1 g2 => ?_, fun x hx => ?_, ?_⟩, hm.wide, fun i g1 g2 => ?_⟩
            · rw [List.getElem_set, Array.getElem_modify]
              split
              · rfl
              · exact hm.st.key i (by simpa using g1) (by simpa using g2)
            · obtain ⟨i, hi, rfl⟩ := List.mem_iff_getElem.1 hx
              simp only [Array.length_toList, Array.size_modify] at hi
              rw [Array.getElem_toList, Array.getElem_modify]
              split
              · exact hm.st.old ms[i] (by simp)
              · exact hm.st.old ms[i] (by simp)
            · have e : (ms.modify j fun e => { e with key := .int kk n, val := a.eval v }).toList.map (·.born) = ms.toList.map (·.born) := by
                refine List.ext_getElem (by simp) fun i g1 g2 => ?_
                simp only [List.getElem_map, Array.getElem_toList, Array.getElem_modify]
                split
                · rfl
                · rfl
              rw [e]; exact hm.st.apart
            · rw [List.getElem_set, Array.getElem_modify]
              split
              · exact hcr
              · exact hm.val i (by simpa using g1) (by simpa using g2))
          refine wp_of_skip ?_ ⟨undef, G1, rfl, .u _, by rw [putW_append]; exact m1, hLe1, fun i h => .inl (by rw [← hal1]; exact h)⟩
          simp [execOp, ho, e1, e2, Instr.mapUpdate, run_underlying hu, hck, Instr.findKey, run_underlying hk, hr, getObj, Sem.run, hb, m2, Instr.keyThatStays, h2', hkey, Instr.sameBits]
      · intro h; exact (no_stuck h).elim
    · intro h; exact (no_stuck h).elim
  · intro h; exact (no_stuck h).elim

theorem del_sound {t key e : TypeId} {kd : IntKind} {x k : Operand} {ts : Array TypeId} {A1 A2 : A} (ho : o.op = .call ⟨.builtin .delete, #[x, k], ts⟩) (hts : ts[0]? = some t) (hu : P.underlying t = some (.map key e)) (hk : P.underlying key = some (.int kd)) (hH : HR w0 G H w)
    (hx : VR G A1 (a.eval x)) (hy : VR G A2 (a.eval k)) {r : Rs}
    (hr : r = match (generalizing := false) A1, A2 with
    | .map id, .c (.int kk n) => match H[id]? with
      | some (.mp k' row lay es) => chk (kk == k') ⟨[], .tup [], [(id, .mp k' row lay ((baseE rs pk).mdel es n))]⟩
      | _ => stuck
    | _, _ => stuck) (h : AllP r.p) (mk : Option Nat) : o.wp P a w (AfterV w0 G H a o.dst r.v r.ws mk) Q := by
  subst hr
  have hck' : ∀ n b v, (Instr.checkKey b (n + 1) key v).run P w = .ok () w := by
    intro n b v
    simp only [Instr.checkKey, Sem.run_bind, run_underlying hk, Result.andThen_ok]
    rfl
  have hck : ∀ b v, (Instr.checkKey b 10000 key v).run P w = .ok () w := hck' 9999
  clear hck'
  revert h
  split
  · rename_i id kk n
    split
    · rename_i k' row lay es hid
      intro h
      obtain ⟨hkk, _⟩ := chk_p h
      rw [chk_true hkk]
      have hkk := eq_of_beq hkk
      subst hkk
      clear h
      obtain ⟨_, _, e1⟩ := hx.map_inv
      have e2 := hy.int
      obtain ⟨_, _, ms, clock, hb, hm⟩ := hH.obj id _ hid
      have hs := hm.st.size
      obtain ⟨r, hr, hcase⟩ := findNow_ints (k := kk) (kd := kd) (n := n) ms.toList es 0 (by simpa using hs) (fun j h1 h2 => by simpa using hm.st.key j h1 (by simpa using h2))
      rcases hcase with ⟨h1, h2⟩ | ⟨j, h1, h2, h3, h4, h5, h6⟩
      · subst h2
        obtain ⟨m1, m2⟩ := hH.setMap (P := P) (clock' := clock) hid hb (es' := mrem n es) (ms' := ms) (by rw [mrem_none h1]; exact hm)
        refine wp_of_value (val := .tuple #[]) ?_ ⟨_, G, rfl, .tup [] _ rfl fun i h => by simp at h, m1, Gh.Le.refl _ _, fun i h => .inl h⟩
        simp [execOp, ho, e1, e2, resolve, invoke, builtin, Builtin.delete_, hts, run_underlying hu, hck, Instr.findKey, run_underlying hk, hr, getObj, Sem.run, hb, m2]
      · subst h5
        have h2' : j < ms.size := by simpa using h2
        obtain ⟨m1, m2⟩ := hH.setMap (P := P) (clock' := clock) hid hb (es' := mrem n es) (ms' := ms.eraseIdxIfInBounds j) (by
          rw [mrem_at h1 h3 h6]
          have hsub : (ms.eraseIdxIfInBounds j).toList = ms.toList.eraseIdx j := by
            unfold Array.eraseIdxIfInBounds
            rw [dif_pos h2']
            simp
          refine ⟨⟨by simp [Array.eraseIdxIfInBounds, h2', List.length_eraseIdx, h1, hs], fun i g1 g2 => ?_, fun x hx => ?_, ?_⟩, hm.wide, fun i g1 g2 => ?_⟩
          · simp only [Array.eraseIdxIfInBounds, h2', dif_pos] at g2 ⊢
            rw [List.getElem_eraseIdx, Array.getElem_eraseIdx]
            split
            · exact hm.st.key _ _ _
            · exact hm.st.key _ _ _
          · rw [hsub] at hx
            exact hm.st.old x ((List.eraseIdx_sublist _ _).subset hx)
          · rw [hsub]
            exact hm.st.apart.sublist ((List.eraseIdx_sublist _ _).map _)
          · simp only [Array.eraseIdxIfInBounds, h2', dif_pos] at g2 ⊢
            rw [List.getElem_eraseIdx, Array.getElem_eraseIdx]
            split
            · exact hm.val _ _ _
            · exact hm.val _ _ _)
        refine wp_of_value (val := .tuple #[]) ?_ ⟨_, G, rfl, .tup [] _ rfl fun i h => by simp at h, m1, Gh.Le.refl _ _, fun i h => .inl h⟩
        simp [execOp, ho, e1, e2, resolve, invoke, builtin, Builtin.delete_, hts, run_underlying hu, hck, Instr.findKey, run_underlying hk, hr, getObj, Sem.run, hb, m2]
    · intro h; exact (no_stuck h).elim
  · intro h; exact (no_stuck h).elim
end
end Go.Eng

/- An abstract machine over plain data, part QA: clear, cap of nothing, append of zeros to nothing. -/
namespace Go.Eng
open Go.RowKit
section
variable {P : Program} {w0 : Base} {w : World} {G : Gh} {H : List O} {a : Act} {o : Oper} {Q : Exit → Act → World → Prop} {rs : FuncId → List A → Nat → C} {pk : FuncId → List (Bool × List LK) → List A → Prop}

theorem capN_sound {x : Operand} {t e : TypeId} {a' : A} {ρ : Operand → Value} (ho : o.op = .call ⟨.builtin .cap, #[x], #[t]⟩) (hu : P.underlying t = some (.slice e)) (hx : VR G a' (ρ x)) {r : Rs}
    (hr : r = match (generalizing := false) a' with
    | .c .nil => .q [] (.c (.int .i64 0))
    | _ => stuck) (h : AllP r.p) : Yl P G ρ o w r := by
  subst hr
  revert h
  split
  · intro _
    have e1 := hx.nil
    exact ⟨rfl, .int .i64 0, by simp [execOp, ho, resolve, invoke, builtin, Builtin.cap_, e1, run_underlying hu, goInt], .c (.int _ _)⟩
  · exact Yl.no

theorem zeros_get {z : Value} {n k j sz : Nat} (hzs : z.cells.size = sz) (hk : k < n) (hj : j < sz) : ∃ (h : j < z.cells.size), (Builtin.zeroCells z.cells n)[k * sz + j]? = some z.cells[j] := by
  have hle : (k + 1) * sz ≤ n * sz := Nat.mul_le_mul_right _ hk
  rw [Nat.add_mul, Nat.one_mul] at hle
  refine ⟨by omega, ?_⟩
  have hlt : k * sz + j < n * z.cells.size := by rw [hzs]; omega
  simp only [Builtin.zeroCells]
  rw [Array.getElem?_eq_getElem (by simpa using hlt)]
  simp only [Array.getElem_map, Array.getElem_range]
  have hm : (k * sz + j) % z.cells.size = j := by rw [hzs, Nat.add_comm, Nat.add_mul_mod_self_right]; exact Nat.mod_eq_of_lt hj
  rw [hm]
  exact congrArg some (getElem!_pos z.cells j (by omega))
theorem zeros_size (z : Value) (n : Nat) : (Builtin.zeroCells z.cells n).size = n * z.cells.size := by simp [Builtin.zeroCells]

theorem zero_row {lay : List LK} {zr : List C} {z : Value} (hzr : asRow lay (z.cells.toList.map toA1) = some zr) (G : Gh) (j : Nat) (hj : j < z.cells.size) : CR G.F (fixC (lay.getD j .bool) (zr.getD j .nil)) z.cells[j] := by
  obtain ⟨q1, q2⟩ := asRow_spec hzr
  obtain ⟨cc, e3, e4⟩ := q2 j (by simp; omega)
  rw [e4]
  refine asC_of e3 ?_
  simp
  exact VR_toA1 G _

theorem rep_rows {lay : List LK} {zr : List C} {z : Value} (hzr : asRow lay (z.cells.toList.map toA1) = some zr) (hzs : z.cells.size = lay.length) (n : Nat) : RowsR G.F lay (List.replicate n zr) (Builtin.zeroCells z.cells n).toList := by
  have h1 : ∀ i j, i < (List.replicate n zr).length → j < lay.length → ∃ v, (Builtin.zeroCells z.cells n).toList[i * lay.length + j]? = some v ∧ CR G.F (cellC lay (List.replicate n zr) i j) v := fun i j hi hj => by
    simp at hi
    obtain ⟨hj', e⟩ := zeros_get (n := n) hzs hi hj
    refine ⟨_, by rw [Array.getElem?_toList]; exact e, ?_⟩
    have : cellC lay (List.replicate n zr) i j = fixC (lay.getD j .bool) (zr.getD j .nil) := by
      unfold cellC cellAt
      rw [show (List.replicate n zr).getD i [] = zr by rw [List.getD_eq_getElem?_getD, List.getElem?_replicate, if_pos hi]; rfl]
    rw [this]
    exact zero_row hzr G j hj'
  exact ⟨by simp [zeros_size, hzs], h1⟩

theorem appN_sound {t tx e : TypeId} {k : IntKind} {aTs : Array TypeId} {x y : Operand} {i : TypeInfo} {z : Value} {b c : A} {lay : List LK} {zr : List C} {bound : Int} {n : Nat} (ho : o.op = .call ⟨.builtin .append, #[x, y], aTs⟩) (hts : aTs = #[t, tx])
    (hu : P.underlying t = some (.slice e)) (hux : P.underlying tx = some (.int k)) (hi : P.info? e = some i) (hz : i.zero = some z) (hb0 : 0 < i.bytes) (hzs : z.cells.size = i.size) (hsz : i.size = lay.length) (hbound : bound = pow47 / i.bytes)
    (hzr : asRow lay (z.cells.toList.map toA1) = some zr) (hH : HR w0 G H w) (hx : VR G b (a.eval x)) (hy : VR G c (a.eval y)) (hn : n < H.length) (hal : G.al n = false) {r : Rs}
    (hr : r = match (generalizing := false) b, c with
    | .c .nil, .c (.int .i64 l) => ⟨[.b ((baseE rs pk).le 0 l), .b ((baseE rs pk).le l bound)], .gr n, [(n, .arr e lay ((baseE rs pk).rep l zr))]⟩
    | _, _ => stuck) (h : AllP r.p) : o.wp P a w (AfterV w0 G H a o.dst r.v r.ws (some n)) Q := by
  subst hr
  revert h
  split
  · rename_i l
    intro h
    simp [baseE] at h
    obtain ⟨h0, h1⟩ := h
    have e1 := hx.nil
    have e2 := hy.int
    have h1' : ((l.toNat : Nat) : Int) ≤ bound := by omega
    obtain ⟨h63, hfit⟩ := app_bound (need := l.toNat) hb0 hbound h1'
    have wl : IntKind.i64.wrap l = l := IntWalk.i64_in l (by omega)
    have hz0 : ∀ w : World, (zeroValue e).run P w = .ok z w := fun w => by simp [zeroValue, typeInfo, hi, hz]
    have hs0 : ∀ w : World, (sizeOf e).run P w = .ok i.size w := fun w => by simp [sizeOf, typeInfo, hi]
    have ht0 : ∀ w : World, (typeInfo e).run P w = .ok i w := fun w => by simp [typeInfo, hi]
    have hl48 : ¬ l * i.bytes > 281474976710656 := by
      have h2 : bound * i.bytes ≤ pow47 := by rw [hbound]; exact Int.ediv_mul_le _ (by omega)
      have h3' : l * i.bytes ≤ bound * i.bytes := Int.mul_le_mul_of_nonneg_right h1 (by omega)
      unfold pow47 at h2; omega
    have hl0 : ¬ l < 0 := by omega
    have hR := rep_rows (G := G) hzr (by rw [hzs, hsz]) l.toNat
    by_cases hz' : l.toNat = 0
    · refine AppAfter.after (ws := []) (val := .slice none 0 0) (w' := w) (app_run ho hts rfl ?_) ?_
      · rw [e1, e2]
        have hl00 : l = 0 := by omega
        subst hl00
        simp [Builtin.append_, run_underlying hu, run_underlying hux, hs0, ht0, asInt, asIntOf, wl]
      · show AppAfter w0 G H n e lay (List.replicate l.toNat zr) _ _
        rw [hz']
        exact ⟨G.push n 0 0 lay.length 0 true, .grn n (by simp) (by simp) (by simp), hH.place n 0 0 lay.length 0 true _ hn hal (fun h => by cases h) ⟨by simp, by simp, by simp, fun h => by simp at h, fun _ => rfl⟩, G.le_push _ _ _ _ _ _ _ hal, new_al⟩
    · refine AppAfter.after (ws := []) (val := .slice (some ⟨w.drew.heap.size, 0, none⟩) l.toNat (grownCap w l.toNat 0 e))
        (w' := w.drew.alloc (.cells (Builtin.zeroCells z.cells l.toNat ++ Builtin.zeroCells z.cells (grownCap w l.toNat 0 e - l.toNat)) e)) (app_run ho hts rfl ?_) ?_
      · rw [e1, e2]
        have hf := hfit 0 (by omega)
        have g1 : ¬ (281474976710656 < l * (i.bytes : Int)) := by omega
        have g2 : ¬ (l.toNat = 0) := hz'
        have g5 : 0 < l := by omega
        have g3 : ¬ (9223372036854775807 < (max l 0 : Int)) := by omega
        have g4 : ¬ (281474976710656 < Builtin.nextslicecap l.toNat 0 * i.bytes) := by omega
        by_cases hsz0 : l.toNat * i.size = 0
        · have hsz1 : i.size = 0 := by
            rcases Nat.mul_eq_zero.1 hsz0 with h | h
            · exact absurd h hz'
            · exact h
          have hzc : z.cells.size = 0 := by omega
          have hzr0 : Builtin.zeroCells z.cells l.toNat = #[] := by apply Array.eq_empty_of_size_eq_zero; rw [zeros_size, hzc]; simp
          simp [Builtin.append_, run_underlying hu, run_underlying hux, hs0, ht0, hz0, asInt, asIntOf, wl, hl0, g1, g2, g3, g4, g5, hsz0, hsz1, Question.forced, newRow, grownCap, Builtin.firstCells, hzr0]
        · have hsz1 : ¬ i.size = 0 := fun h => hsz0 (by rw [h]; simp)
          simp [Builtin.append_, run_underlying hu, run_underlying hux, hs0, ht0, hz0, asInt, asIntOf, wl, hl0, g1, g2, g3, g4, g5, hsz0, hsz1, Question.forced, newRow, grownCap, Builtin.firstCells]
      · have hcap' : l.toNat ≤ grownCap w l.toNat 0 e := le_grown w _ _ _
        refine ⟨G.push n w.drew.heap.size (grownCap w l.toNat 0 e) lay.length (List.replicate l.toNat zr).length false, ?_, ?_, G.le_push _ _ _ _ _ _ _ hal, new_al⟩
        · have := gr_new (G := G) (n := n) (b := w.drew.heap.size) (r := grownCap w l.toNat 0 e) (z := lay.length) (c := l.toNat) hcap' ⟨w.drew.heap.size, 0, none⟩ fun _ => rfl
          simpa using this
        · refine place_arr e _ hn hal hH.drew ?_ (by simpa using hcap') hR fun k u hu => ?_
          · simp only [Array.size_append, zeros_size, hzs, hsz]
            rw [← Nat.add_mul]; congr 1; omega
          · have hk := (List.getElem?_eq_some_iff.1 hu).1
            rw [Array.getElem?_append_left (by simpa using hk), ← Array.getElem?_toList]; exact hu
  · intro h; exact (no_stuck h).elim

theorem cellAt_mid (xs : List (List C)) (zr : List C) (a n i j : Nat) (ha : a + n ≤ xs.length) (hi : i < xs.length) :
    cellAt (xs.take a ++ (List.replicate n zr ++ (xs.take xs.length).drop (a + n))) i j = if a ≤ i ∧ i < a + n then zr.getD j .nil else cellAt xs i j := by
  have key : (xs.take a ++ (List.replicate n zr ++ (xs.take xs.length).drop (a + n)))[i]? = if a ≤ i ∧ i < a + n then some zr else xs[i]? := by
    split
    · rename_i h
      rw [List.getElem?_append_right (by simp; omega), List.getElem?_append_left (by simp; omega), List.getElem?_replicate, if_pos (by simp; omega)]
    · rename_i h
      by_cases h1 : i < a
      · rw [List.getElem?_append_left (by simp; omega), List.getElem?_take_of_lt h1]
      · rw [List.getElem?_append_right (by simp; omega), List.getElem?_append_right (by simp; omega)]
        simp only [List.take_length, List.length_take, List.length_replicate, List.getElem?_drop]
        congr 1
        omega
  unfold cellAt
  rw [List.getD_eq_getElem?_getD (l := xs.take a ++ _), key]
  split
  · rfl
  · rw [List.getD_eq_getElem?_getD (l := xs)]

theorem clr_core {id : Nat} {off len : Nat} {T t e : TypeId} {i : TypeInfo} {z : Value} {lay : List LK} {zr : List C} {xs : List (List C)} {x : Operand} {cap : Nat} {ad : Addr} (ho : o.op = .call ⟨.builtin .clear, #[x], #[t]⟩) (hu : P.underlying t = some (.slice e)) (hi : P.info? e = some i) (hz : i.zero = some z)
    (hzs : z.cells.size = i.size) (hsz : i.size = lay.length) (hzr : asRow lay (z.cells.toList.map toA1) = some zr) (hH : HR w0 G H w) (hid : H[id]? = some (.arr T lay xs)) (hp : G.ph id = false) (hle : off + len ≤ xs.length) (hcap : len ≤ cap)
    (e0 : a.eval x = .slice (some ad) len cap) (had : cap ≠ 0 → ad = ⟨G.blk id, off * lay.length, none⟩) (mk : Option Nat) :
    o.wp P a w (AfterV w0 G H a o.dst (.tup []) [(id, .arr T lay (xs.take off ++ (List.replicate len zr ++ (xs.take xs.length).drop (off + len))))] mk) Q := by
  obtain ⟨hal, hc, hz1, hR, _⟩ := hH.obj id _ hid
  obtain ⟨vs, hb, hs, hroom, hvv⟩ := hR hp
  have hz0 : (zeroValue e).run P w = .ok z w := by simp [zeroValue, typeInfo, hi, hz]
  by_cases h0 : len = 0
  · subst h0
    have hsame : xs.take off ++ (List.replicate 0 zr ++ (xs.take xs.length).drop (off + 0)) = xs := by simp
    rw [hsame]
    refine wp_of_value (val := .tuple #[]) (w' := w) ?_ ⟨_, G, rfl, .tup [] _ rfl fun i h => by simp at h, ?_, Gh.Le.refl _ _, fun i h => .inl h⟩
    · simp [execOp, ho, resolve, invoke, builtin, Builtin.clear_, e0, run_underlying hu]
    · show HR w0 G (H.set id _) w
      rw [set_same hid]; exact hH
  · have hA := had (by omega)
    subst hA
    have hsz2 : (Builtin.zeroCells z.cells len).size = len * lay.length := by rw [zeros_size, hzs, hsz]
    have hfit : off * lay.length + len * lay.length ≤ vs.size := by
      rw [hs, ← Nat.add_mul]
      exact Nat.mul_le_mul_right _ (by omega)
    have hzone : ∀ j (h : j < z.cells.size), z.cells[j].oneCell' = true := fun j h => (zero_row hzr G j h).one
    have hst : (storeCells ⟨G.blk id, off * lay.length, none⟩ (Builtin.zeroCells z.cells len).toList).run P w = .ok () (w.setCells (G.blk id) (off * lay.length) (Builtin.zeroCells z.cells len).toList) := by
      have := run_storeCells_cells (P := P) (G.blk id) (off * lay.length) (Builtin.zeroCells z.cells len).toList 0 w
        (fun j hj => by simpa using (there_of hb (off * lay.length) (len * lay.length) hfit j (by simpa [hsz2] using hj)).1)
        (fun j hj => by simpa using (there_of hb (off * lay.length) (len * lay.length) hfit j (by simpa [hsz2] using hj)).2)
        (fun u hu => by
          obtain ⟨k, hk, rfl⟩ := List.getElem_of_mem hu
          have hk' : k < len * z.cells.size := by simpa [zeros_size] using hk
          have hpos : 0 < z.cells.size := Nat.pos_of_ne_zero fun h => by rw [h] at hk'; simp at hk'
          have hm : k % z.cells.size < z.cells.size := Nat.mod_lt _ hpos
          have : (Builtin.zeroCells z.cells len).toList[k] = z.cells[k % z.cells.size] := by
            simp only [Builtin.zeroCells, Array.toList_map, Array.toList_range, List.getElem_map, List.getElem_range]
            exact getElem!_pos z.cells _ hm
          rw [this]
          exact hzone _ hm)
      simpa [storeCells] using this
    refine wp_of_value (val := .tuple #[]) (w' := w.setCells (G.blk id) (off * lay.length) (Builtin.zeroCells z.cells len).toList) ?_ ⟨_, G, rfl, .tup [] _ rfl fun i h => by simp at h, ?_, Gh.Le.refl _ _, fun i h => .inl h⟩
    · have h0' : ∀ n, len = n + 1 → True := fun _ _ => trivial
      cases len with
      | zero => exact absurd rfl h0
      | succ m => simp [execOp, ho, resolve, invoke, builtin, Builtin.clear_, e0, run_underlying hu, hz0, hst]
    · obtain ⟨q1, q2, q3, q4⟩ := setCells_rest (G.blk id) (Builtin.zeroCells z.cells len).toList (off * lay.length) w
      have hlen' : (xs.take off ++ (List.replicate len zr ++ (xs.take xs.length).drop (off + len))).length = xs.length := by simp; omega
      refine hH.update hid rfl hp _ q1 (fun k hk => heap_setCells_other _ _ _ _ _ hk) q2 q3 q4 ⟨hal, by rw [hlen']; exact hc, hz1, fun _ => ⟨_, heap_setCells_same _ T _ _ _ _ hb, by simp [sets_length, hs], by rw [hlen']; exact hroom, fun i' j' hi' hj' => ?_⟩, fun h2 => by rw [hp] at h2; cases h2⟩
      rw [hlen'] at hi'
      have hg := sets_get (Builtin.zeroCells z.cells len).toList vs.toList (off * lay.length) (i' * lay.length + j')
      have hcl : (Builtin.zeroCells z.cells len).toList.length = len * lay.length := by simp [hsz2]
      rw [hcl] at hg
      have hltv : i' * lay.length + j' < vs.toList.length := by
        have := row_lt hi' hj'
        have := Nat.mul_le_mul_right lay.length hroom
        simp; omega
      have hcell : cellC lay (xs.take off ++ (List.replicate len zr ++ (xs.take xs.length).drop (off + len))) i' j' = if off ≤ i' ∧ i' < off + len then fixC (lay.getD j' .bool) (zr.getD j' .nil) else cellC lay xs i' j' := by
        unfold cellC
        rw [cellAt_mid xs zr off len i' j' hle hi']
        split <;> rfl
      rw [hcell]
      by_cases hc2 : off ≤ i' ∧ i' < off + len
      · rw [if_pos hc2]
        have h1 : off * lay.length ≤ i' * lay.length := Nat.mul_le_mul_right _ hc2.1
        have h2 := row_lt hc2.2 hj'
        rw [Nat.add_mul] at h2
        rw [if_pos ⟨by omega, by omega, hltv⟩] at hg
        obtain ⟨hj2, ez⟩ := zeros_get (n := len) (k := i' - off) (j := j') (z := z) (sz := lay.length) (by rw [hzs, hsz]) (by omega) hj'
        refine ⟨z.cells[j'], ?_, zero_row hzr G j' hj2⟩
        rw [List.getElem?_toArray, hg, ← ez, Array.getElem?_toList]
        congr 1
        rw [Nat.sub_mul]; omega
      · rw [if_neg hc2]
        have hnot : ¬ (off * lay.length ≤ i' * lay.length + j' ∧ i' * lay.length + j' < off * lay.length + len * lay.length ∧ i' * lay.length + j' < vs.toList.length) := by
          rintro ⟨g1, g2, _⟩
          apply hc2
          rw [← Nat.add_mul] at g2
          constructor
          · apply Decidable.byContradiction; intro hlt
            have : (i' + 1) * lay.length ≤ off * lay.length := Nat.mul_le_mul_right _ (by omega)
            rw [Nat.add_mul, Nat.one_mul] at this; omega
          · apply Decidable.byContradiction; intro hlt
            have : (off + len) * lay.length ≤ i' * lay.length := Nat.mul_le_mul_right _ (by omega)
            omega
        rw [if_neg hnot] at hg
        obtain ⟨v', e', hcr⟩ := hvv i' j' hi' hj'
        exact ⟨v', by rw [List.getElem?_toArray, hg]; simpa using e', hcr⟩

theorem clr_sound {x : Operand} {t e : TypeId} {b : A} {i : TypeInfo} {z : Value} {lay : List LK} {zr : List C} (ho : o.op = .call ⟨.builtin .clear, #[x], #[t]⟩) (hu : P.underlying t = some (.slice e)) (hi : P.info? e = some i) (hz : i.zero = some z)
    (hzs : z.cells.size = i.size) (hsz : i.size = lay.length) (hzr : asRow lay (z.cells.toList.map toA1) = some zr) (hH : HR w0 G H w) (hx : VR G b (a.eval x)) (h : AllP (clrE (baseE rs pk) H lay zr b).p) (mk : Option Nat) :
    o.wp P a w (AfterV w0 G H a o.dst (clrE (baseE rs pk) H lay zr b).v (clrE (baseE rs pk) H lay zr b).ws mk) Q := by
  have nilC : a.eval x = .slice none 0 0 → (execOp a.eval o).run P w = .ok (.value (.tuple #[])) w := fun e => by
    simp [execOp, ho, resolve, invoke, builtin, Builtin.clear_, e, run_underlying hu]
  revert h
  unfold clrE
  split
  · intro _
    exact wp_of_value (nilC hx.nil) ⟨_, G, rfl, .tup [] _ rfl fun i h => by simp at h, hH, Gh.Le.refl _ _, fun i h => .inl h⟩
  · rename_i id
    split
    · rename_i T lay' xs hid
      intro h
      obtain ⟨hb, _⟩ := chk_p h
      rw [chk_true hb]
      have := LK.beqs_eq _ _ hb
      subst this
      have hlen := (hH.obj id _ hid).2.1
      rcases hx.gr_inv with ⟨_, ⟨hp, hc, e1⟩ | ⟨hp, ad, e1, hle, had⟩⟩
      · have hx0 : xs = [] := List.length_eq_zero_iff.1 (by omega)
        subst hx0
        refine wp_of_value (nilC e1) ⟨_, G, rfl, .tup [] _ rfl fun i h => by simp at h, ?_, Gh.Le.refl _ _, fun i h => .inl h⟩
        show HR w0 G (H.set id (.arr T lay (List.replicate ((0 : Nat) : Int).toNat zr))) w
        simp only [Int.toNat_natCast, List.replicate_zero]
        rw [set_same hid]; exact hH
      · rw [hlen] at e1
        have := clr_core (Q := Q) (off := 0) (len := xs.length) (cap := G.room id) ho hu hi hz hzs hsz hzr hH hid hp (by omega) (by omega) e1 (by simpa using had) mk
        simpa [baseE] using this
    · intro h; exact (no_stuck h).elim
  · rename_i id off len
    split
    · rename_i T lay' xs hid
      intro h
      obtain ⟨hb, _⟩ := chk_p h
      rw [chk_true hb]
      have := LK.beqs_eq _ _ hb
      subst this
      have hlen := (hH.obj id _ hid).2.1
      have hesz := (hH.obj id _ hid).2.2.1
      rcases hx.own_inv' with ⟨cap, ad, e1, _, hp, h0, h1, hcap, hcnt, hle, had⟩ | ⟨_, hp, hc, h0, h1, e1⟩
      · rw [hesz] at had
        have := clr_core (Q := Q) (off := off.toNat) (len := len.toNat) (cap := cap) ho hu hi hz hzs hsz hzr hH hid hp (by omega) (by omega) e1 had mk
        have e2 : (off + len).toNat = off.toNat + len.toNat := by omega
        simpa [baseE, e2] using this
      · have hx0 : xs = [] := List.length_eq_zero_iff.1 (by omega)
        subst hx0
        subst h1
        refine wp_of_value (nilC e1) ⟨_, G, rfl, .tup [] _ rfl fun i h => by simp at h, ?_, Gh.Le.refl _ _, fun i h => .inl h⟩
        show HR w0 G (H.set id (.arr T lay _)) w
        have : (baseE rs pk).cat ((baseE rs pk).cut [] 0 off) ((baseE rs pk).cat ((baseE rs pk).rep 0 zr) ((baseE rs pk).cut [] ((baseE rs pk).pl off 0) ((baseE rs pk).len []))) = [] := by simp [baseE]
        rw [this, set_same hid]; exact hH
    · intro h; exact (no_stuck h).elim
  · intro h; exact (no_stuck h).elim
end
end Go.Eng

/- An abstract machine over plain data, part QB: slices beyond the length, and append in place. -/
namespace Go.Eng
open Go.RowKit
section
variable {P : Program} {w0 : Base} {w : World} {G : Gh} {H : List O} {ρ : Operand → Value} {rs : FuncId → List A → Nat → C} {pk : FuncId → List (Bool × List LK) → List A → Prop} {o : Oper}

theorem run_sliceBoundsX {isS : Bool} {len cap : Nat} {ev : Opd → A} {lo hi : Option Operand} {l h : Int} (hcap : len ≤ cap)
    (hlo : ∀ x, lo = some x → VR G (ev (opd x)) (ρ x)) (hhi : ∀ x, hi = some x → VR G (ev (opd x)) (ρ x))
    (el : bnd ev 0 (lo.map opd) = some l) (eh : bnd ev len (hi.map opd) = some h)
    (h0 : 0 ≤ l) (h1 : l ≤ h) (h2 : h ≤ cap) :
    (Instr.sliceBounds isS len cap (lo.map ρ) (hi.map ρ) none).run P w = .ok (l.toNat, h.toNat, cap) w := by
  cases hi with
  | none =>
    have e : (len : Int) = h := by simpa [bnd] using eh
    exact run_sliceBounds hcap hlo hhi el eh h0 h1 (by omega)
  | some y =>
    have := run_sliceBounds (P := P) (w := w) (isS := isS) (len := cap) (cap := cap) (Nat.le_refl _) hlo hhi el (by simpa [bnd] using eh) h0 h1 h2
    simpa [Instr.sliceBounds] using this

theorem run_sliceBounds3 {isS : Bool} {len cap : Nat} {ev : Opd → A} {lo : Option Operand} {hi mx : Operand} {l h m : Int}
    (hlo : ∀ x, lo = some x → VR G (ev (opd x)) (ρ x)) (hhi : VR G (ev (opd hi)) (ρ hi)) (hmx : VR G (ev (opd mx)) (ρ mx))
    (el : bnd ev 0 (lo.map opd) = some l) (eh : bnd ev 0 (some (opd hi)) = some h) (em : bnd ev 0 (some (opd mx)) = some m)
    (h0 : 0 ≤ l) (h1 : l ≤ h) (h2 : h ≤ m) (h3 : m ≤ cap) :
    (Instr.sliceBounds isS len cap (lo.map ρ) (some (ρ hi)) (some (ρ mx))).run P w = .ok (l.toNat, h.toNat, m.toNat) w := by
  unfold Instr.sliceBounds
  obtain ⟨k1, e1⟩ := bnd_int hhi eh
  obtain ⟨k2, e2⟩ := bnd_int hmx em
  have b2 := run_sliceBound (P := P) (w := w) (y := cap) (code := if isS then .slice3Acap else .slice3Alen) e2 (by omega) h3
  have b1 := run_sliceBound (P := P) (w := w) (y := m.toNat) (code := .slice3B) e1 (by omega) (by omega)
  cases lo with
  | none => simp [bnd] at el; subst el; simp [b1, b2]
  | some x =>
    obtain ⟨k, e⟩ := bnd_int (hlo x rfl) el
    have hb := run_sliceBound (P := P) (w := w) (y := h.toNat) (code := .slice3C) e h0 (by omega)
    simp [b1, b2, hb]

theorem slx_sound {x : Operand} {lo hi : Option Operand} {t e : TypeId} {ei : TypeInfo} {a : A} {ev : Opd → A} (ho : o.op = .slice t x lo hi none) (hu : P.underlying t = some (.slice e))
    (hinf : P.info? e = some ei) (hH : HR w0 G H w) (hx : VR G a (ρ x))
    (hlo : ∀ x, lo = some x → VR G (ev (opd x)) (ρ x)) (hhi : ∀ x, hi = some x → VR G (ev (opd x)) (ρ x))
    (h : AllP (slxE (baseE rs pk) ev H ei.size a (lo.map opd) (hi.map opd)).p) : Yl P G ρ o w (slxE (baseE rs pk) ev H ei.size a (lo.map opd) (hi.map opd)) := by
  have hnull : ∀ v : Value, (Instr.sliceAt t v (lo.map ρ) (hi.map ρ) none).run P w = (Instr.slice t v (lo.map ρ) (hi.map ρ) none).run P w := by
    intro v
    simp [Instr.sliceAt, run_underlying hu]
  revert h
  unfold slxE
  split
  · rename_i id
    split
    · rename_i lay xs ha
      split
      · rename_i l hh el eh
        intro h
        obtain ⟨hz, h⟩ := chk_p h
        rw [chk_true hz]
        have hz : lay.length = ei.size := by simpa [Nat.beq_eq] using hz
        simp [Rs.q, baseE] at h
        obtain ⟨h0, h1, h2⟩ := h
        obtain ⟨hc, hsz⟩ := arr_len hH ha
        obtain ⟨hid, ⟨hp, hcn, e1⟩ | ⟨hp, ad, e1, hlen, had⟩⟩ := hx.gr_inv
        · rw [hcn] at hc
          have hb := run_sliceBounds (P := P) (w := w) (isS := true) (len := 0) (cap := 0) (Nat.le_refl _) hlo hhi el (by rw [hc]; exact eh) h0 h1 (by omega)
          refine ⟨rfl, .slice none 0 0, ?_, ?_⟩
          · simp only [execOp, ho, e1, Sem.run_bind, Option.map_none, hnull]
            have e2 : hh.toNat = 0 := by omega
            simp [Instr.slice, run_underlying hu, hb, sizeOf, typeInfo, hinf, e2]
          · exact .ownn id _ _ hid hp hcn (show (0 : Int) ≤ l by omega) (by show hh - l = 0; omega)
        · have hb := run_sliceBounds (P := P) (w := w) (isS := true) (len := G.cnt id) (cap := G.room id) hlen hlo hhi el (by rw [hc]; exact eh) h0 h1 (by omega)
          refine ⟨rfl, .slice (if G.room id = l.toNat then some ad else some (ad.add (l.toNat * ei.size))) (hh - l).toNat (G.room id - l.toNat), ?_, ?_⟩
          · simp only [execOp, ho, e1, Sem.run_bind, Option.map_none, hnull]
            simp [Instr.slice, run_underlying hu, hb, sizeOf, typeInfo, hinf]
            omega
          · split
            · exact .own id _ _ _ _ hid hp h0 (show (0 : Int) ≤ hh - l by omega) (by omega) (show l + (hh - l) ≤ _ by omega) (show (hh - l).toNat ≤ _ by omega) (fun hc => by omega)
            · refine .own id _ _ _ _ hid hp h0 (show (0 : Int) ≤ hh - l by omega) (by omega) (show l + (hh - l) ≤ _ by omega) (show (hh - l).toNat ≤ _ by omega) (fun hc => ?_)
              rw [had (by omega), add_addr, hsz, hz, Nat.zero_add]
      · exact Yl.no
    · exact Yl.no
  · rename_i id off len
    split
    · rename_i lay xs ha
      split
      · rename_i l hh el eh
        intro h
        obtain ⟨hz, h⟩ := chk_p h
        rw [chk_true hz]
        have hz : lay.length = ei.size := by simpa [Nat.beq_eq] using hz
        simp [Rs.q, baseE] at h
        obtain ⟨h0, h1, h2⟩ := h
        have hax := ha
        replace ha : arrOf H id = some (lay, xs) := by
          unfold arrX at hax; unfold arrOf
          split at hax
          · rename_i T lay' xs' hid2; cases hax; rw [hid2]
          · cases hax
        obtain ⟨hc, hsz⟩ := arr_len hH ha
        rcases hx.own_inv' with ⟨cap, ad, e1, hid, hp, g0, g1, hcap, hcnt, hlen, had⟩ | ⟨hid, hp, hcn, g0, g1, e1⟩
        · have hroom : xs.length ≤ G.room id := by
            unfold arrX at hax
            split at hax
            · rename_i T lay' xs' hid2
              cases hax
              obtain ⟨_, _, _, hR, _⟩ := hH.obj id _ hid2
              obtain ⟨_, _, _, hr, _⟩ := hR hp
              exact hr
            · cases hax
          have hb := run_sliceBoundsX (P := P) (w := w) (isS := true) (len := len.toNat) (cap := cap) hlen hlo hhi el (by rw [show ((len.toNat : Nat) : Int) = len by omega]; exact eh) h0 h1 (by omega)
          refine ⟨rfl, .slice (if cap = l.toNat then some ad else some (ad.add (l.toNat * ei.size))) (hh - l).toNat (cap - l.toNat), ?_, ?_⟩
          · simp only [execOp, ho, e1, Sem.run_bind, Option.map_none, hnull]
            simp [Instr.slice, run_underlying hu, hb, sizeOf, typeInfo, hinf]
            omega
          · have e3 : (off + l).toNat = off.toNat + l.toNat := by omega
            split
            · exact .own id _ _ _ _ hid hp (show (0 : Int) ≤ off + l by omega) (show (0 : Int) ≤ hh - l by omega) (by show (off + l).toNat + _ = _; omega) (show (off + l) + (hh - l) ≤ _ by omega) (show (hh - l).toNat ≤ _ by omega) (fun hc => by omega)
            · refine .own id _ _ _ _ hid hp (show (0 : Int) ≤ off + l by omega) (show (0 : Int) ≤ hh - l by omega) (by show (off + l).toNat + _ = _; omega) (show (off + l) + (hh - l) ≤ _ by omega) (show (hh - l).toNat ≤ _ by omega) (fun hc => ?_)
              show ad.add _ = ⟨_, (off + l).toNat * _, none⟩
              rw [had (by omega), add_addr, hsz, hz, e3, Nat.add_mul]
        · subst g1
          have hb := run_sliceBounds (P := P) (w := w) (isS := true) (len := 0) (cap := 0) (Nat.le_refl _) hlo hhi el eh h0 h1 (by omega)
          refine ⟨rfl, .slice none 0 0, ?_, ?_⟩
          · simp only [execOp, ho, e1, Sem.run_bind, Option.map_none, hnull]
            have e2 : hh.toNat = 0 := by omega
            simp [Instr.slice, run_underlying hu, hb, sizeOf, typeInfo, hinf, e2]
          · exact .ownn id _ _ hid hp hcn (show (0 : Int) ≤ off + l by omega) (by show hh - l = 0; omega)
      · exact Yl.no
    · exact Yl.no
  · exact Yl.no

theorem sl3_sound {x : Operand} {lo : Option Operand} {hi mx : Operand} {t e : TypeId} {ei : TypeInfo} {a : A} {ev : Opd → A} (ho : o.op = .slice t x lo (some hi) (some mx)) (hu : P.underlying t = some (.slice e))
    (hinf : P.info? e = some ei) (hH : HR w0 G H w) (hx : VR G a (ρ x))
    (hlo : ∀ x, lo = some x → VR G (ev (opd x)) (ρ x)) (hhi : VR G (ev (opd hi)) (ρ hi)) (hmx : VR G (ev (opd mx)) (ρ mx))
    (h : AllP (sl3E (baseE rs pk) ev H a (lo.map opd) (opd hi) (opd mx)).p) : Yl P G ρ o w (sl3E (baseE rs pk) ev H a (lo.map opd) (opd hi) (opd mx)) := by
  have hnull : ∀ v : Value, (Instr.sliceAt t v (lo.map ρ) (some (ρ hi)) (some (ρ mx))).run P w = (Instr.slice t v (lo.map ρ) (some (ρ hi)) (some (ρ mx))).run P w := by
    intro v
    simp [Instr.sliceAt, run_underlying hu]
  revert h
  unfold sl3E
  split
  · rename_i len hlen
    have hv : ∃ ad n cap, ρ x = .slice ad n cap ∧ len ≤ cap := by
      unfold lenOwn at hlen
      split at hlen
      · rename_i id
        split at hlen
        · rename_i lay xs ha
          cases hlen
          obtain ⟨hc, _⟩ := arr_len hH ha
          obtain ⟨hid, ⟨hp, hcn, e1⟩ | ⟨hp, ad, e1, hl, had⟩⟩ := hx.gr_inv
          · exact ⟨_, _, _, e1, by show ((xs.length : Nat) : Int) ≤ _; omega⟩
          · exact ⟨_, _, _, e1, by show ((xs.length : Nat) : Int) ≤ _; omega⟩
        · cases hlen
      · cases hlen
        rcases hx.own_inv' with ⟨cap, ad, e1, hid, hp, g0, g1, hcap, hcnt, hl, had⟩ | ⟨hid, hp, hcn, g0, g1, e1⟩
        · exact ⟨_, _, _, e1, by omega⟩
        · exact ⟨_, _, _, e1, by omega⟩
      · cases hlen
    obtain ⟨ad, n, cap, e1, hle⟩ := hv
    split
    · rename_i l hh m el eh em
      intro h
      simp [Rs.q, baseE] at h
      obtain ⟨h0, h1, h2, h3⟩ := h
      have hb := run_sliceBounds3 (P := P) (w := w) (isS := true) (len := n) (cap := cap) hlo hhi hmx el eh em h0 h1 h2 (by omega)
      refine ⟨rfl, .slice (if m.toNat = l.toNat then ad else ad.map (·.add (l.toNat * ei.size))) (hh.toNat - l.toNat) (m.toNat - l.toNat), ?_, .u _⟩
      simp only [execOp, ho, e1, Sem.run_bind, Option.map_some, hnull]
      simp [Instr.slice, run_underlying hu, hb, sizeOf, typeInfo, hinf]
    · exact Yl.no
  · exact Yl.no
end
section
variable {P : Program} {w0 : Base} {w : World} {G : Gh} {H : List O} {a : Act} {o : Oper} {Q : Exit → Act → World → Prop} {rs : FuncId → List A → Nat → C} {pk : FuncId → List (Bool × List LK) → List A → Prop}

theorem mid_get {α : Type} (xs ys : List α) (a i : Nat) (h : a + ys.length ≤ xs.length) (hi : i < xs.length) :
    (xs.take a ++ (ys ++ (xs.take xs.length).drop (a + ys.length)))[i]? = if a ≤ i ∧ i < a + ys.length then ys[i - a]? else xs[i]? := by
  by_cases h1 : i < a
  · rw [List.getElem?_append_left (by simp; omega), List.getElem?_take_of_lt h1, if_neg (by omega)]
  · rw [List.getElem?_append_right (by simp; omega)]
    have e : (xs.take a).length = a := by simp; omega
    rw [e]
    by_cases h2 : i < a + ys.length
    · rw [List.getElem?_append_left (by omega), if_pos ⟨by omega, h2⟩]
    · rw [List.getElem?_append_right (by omega), if_neg (by omega), List.take_length, List.getElem?_drop]
      congr 1; omega

theorem apx_sound {t tx e e' : TypeId} {aTs : Array TypeId} {x y : Operand} {i : TypeInfo} {b c : A} {lay : List LK} (ho : o.op = .call ⟨.builtin .append, #[x, y], aTs⟩) (hts : aTs = #[t, tx])
    (hu : P.underlying t = some (.slice e)) (hux : P.underlying tx = some (.slice e')) (hi : P.info? e = some i) (hlay : i.size = lay.length)
    (hH : HR w0 G H w) (hx : VR G b (a.eval x)) (hy : VR G c (a.eval y)) (h : AllP (apxE (baseE rs pk) H e lay b c).p) (mk : Option Nat) :
    o.wp P a w (AfterV w0 G H a o.dst (apxE (baseE rs pk) H e lay b c).v (apxE (baseE rs pk) H e lay b c).ws mk) Q := by
  revert h
  unfold apxE
  split
  · intro h; exact (no_stuck h).elim
  rename_i ys hys
  obtain ⟨news, hs, hR⟩ := src_of hux hH hy hys
  rw [← hlay] at hs
  split
  · rename_i id off len
    split
    · rename_i T' lay' xs hid
      intro h
      obtain ⟨hch, h'⟩ := chk_p h
      clear h
      rw [chk_true hch]
      simp only [Bool.and_eq_true, Nat.beq_eq] at hch
      obtain ⟨hT, hl⟩ := hch
      have := LK.beqs_eq _ _ hl
      subst hT
      subst this
      simp only [AllP_cons, Cnd.holds, AllP_nil, and_true, baseE, decide_eq_true_eq] at h'
      obtain ⟨hai, hc, hsz, hRR, hnil⟩ := hH.obj id _ hid
      rcases hx.own_inv' with ⟨cap, ad, e1, _, hp, h0, h1, hcap, hcnt, hlen, had⟩ | ⟨_, hp, hcn, h0, h1, e1⟩
      · obtain ⟨vs, hb, hvs, hroom, hv⟩ := hRR hp
        have hval : ∀ n : Nat, n = len.toNat + ys.length → VR G (.own id off (len + (ys.length : Int))) (.slice (some ad) n cap) := fun n hn => by
          subst hn
          have := VR.own (G := G) id off (len + (ys.length : Int)) cap ad hai hp h0 (by omega) hcap (by omega) (by omega) had
          rwa [show (len + (ys.length : Int)).toNat = len.toNat + ys.length by omega] at this
        have eoff : (off + len).toNat = off.toNat + len.toNat := by omega
        have eend : (off + len + (ys.length : Int)).toNat = off.toNat + len.toNat + ys.length := by omega
        by_cases hy0 : ys = []
        · subst hy0
          have hn0 : news = [] := List.length_eq_zero_iff.1 (by rw [hR.1]; simp)
          subst hn0
          have hrun := run_append_nothing (P := P) w t tx o.type e i hu hi (some ad) len.toNat cap (by omega) (a.eval y) hs
          rw [← e1] at hrun
          refine wp_of_value (app_run ho hts rfl hrun) ⟨_, G, rfl, ?_, ?_, Gh.Le.refl _ _, fun i h => .inl h⟩
          · rw [e1]; exact hval _ (by simp)
          · show HR w0 G (H.set id (.arr e lay ((xs.take (off + len).toNat).drop (0 : Int).toNat ++ ([] ++ (xs.take ((xs.length : Nat) : Int).toNat).drop (off + len + 0).toNat)))) w
            have : (xs.take (off + len).toNat).drop (0 : Int).toNat ++ ([] ++ (xs.take ((xs.length : Nat) : Int).toNat).drop (off + len + 0).toNat) = xs := by simp
            rw [this, set_same hid]; exact hH
        · have hpos : 0 < ys.length := List.length_pos_iff.2 hy0
          have hA := had (by omega)
          subst hA
          have hle2 : (off.toNat + len.toNat) * lay.length + news.length ≤ vs.size := by
            rw [hR.1, hvs, ← Nat.add_mul]; exact Nat.mul_le_mul_right _ (by omega)
          have hth := there_of hb ((off.toNat + len.toNat) * lay.length) news.length hle2
          have hrun := run_append_room_src (P := P) w t tx o.type e i hu hi (G.blk id) (off.toNat * G.esz id) len.toNat cap (a.eval y) ys.length news hs (by omega)
            (fun j hj => by rw [hlay, hsz, ← Nat.add_mul]; exact (hth j hj).1) (fun j hj => by rw [hlay, hsz, ← Nat.add_mul]; exact (hth j hj).2)
          rw [hlay, hsz, ← Nat.add_mul] at hrun
          obtain ⟨q1, q2, q3, q4⟩ := setCells_rest (G.blk id) news ((off.toNat + len.toNat) * lay.length) w
          have hrun' : (Builtin.append_ #[t, tx] o.type #[a.eval x, a.eval y]).run P w = .ok (.slice (some ⟨G.blk id, off.toNat * lay.length, none⟩) (len.toNat + ys.length) cap) (w.setCells (G.blk id) ((off.toNat + len.toNat) * lay.length) news) := by
            rw [e1, hsz]; exact hrun
          refine wp_of_value (app_run ho hts rfl hrun') ⟨_, G, rfl, ?_, ?_, Gh.Le.refl _ _, fun i h => .inl h⟩
          · have := hval (len.toNat + ys.length) rfl
            rw [hsz] at this; exact this
          · have hlen' : (xs.take (off.toNat + len.toNat) ++ (ys ++ (xs.take xs.length).drop (off.toNat + len.toNat + ys.length))).length = xs.length := by simp; omega
            show HR w0 G (H.set id (.arr e lay ((xs.take (off + len).toNat).drop (0 : Int).toNat ++ (ys ++ (xs.take ((xs.length : Nat) : Int).toNat).drop (off + len + (ys.length : Int)).toNat)))) _
            rw [eoff, eend, show (0 : Int).toNat = 0 from rfl, List.drop_zero, Int.toNat_natCast]
            refine hH.update hid rfl hp _ q1 (fun k hk => heap_setCells_other _ _ _ _ _ hk) q2 q3 q4 ⟨hai, by rw [hlen']; exact hc, hsz, fun _ => ⟨_, heap_setCells_same _ e _ _ _ _ hb, by simp [sets_length, hvs], by rw [hlen']; exact hroom, fun i' j' hi' hj' => ?_⟩, fun h2 => by rw [hp] at h2; cases h2⟩
            rw [hlen'] at hi'
            have hg := sets_get news vs.toList ((off.toNat + len.toNat) * lay.length) (i' * lay.length + j')
            rw [hR.1] at hg
            have hltv : i' * lay.length + j' < vs.toList.length := by
              have := row_lt hi' hj'
              have := Nat.mul_le_mul_right lay.length hroom
              simp; omega
            have hcell : cellC lay (xs.take (off.toNat + len.toNat) ++ (ys ++ (xs.take xs.length).drop (off.toNat + len.toNat + ys.length))) i' j' = if off.toNat + len.toNat ≤ i' ∧ i' < off.toNat + len.toNat + ys.length then cellC lay ys (i' - (off.toNat + len.toNat)) j' else cellC lay xs i' j' := by
              unfold cellC cellAt
              rw [List.getD_eq_getElem?_getD (l := xs.take _ ++ _), mid_get xs ys _ _ (by omega) hi']
              split
              · rw [← List.getD_eq_getElem?_getD]
              · rw [← List.getD_eq_getElem?_getD]
            rw [hcell]
            by_cases hc2 : off.toNat + len.toNat ≤ i' ∧ i' < off.toNat + len.toNat + ys.length
            · rw [if_pos hc2]
              have g1 : (off.toNat + len.toNat) * lay.length ≤ i' * lay.length := Nat.mul_le_mul_right _ hc2.1
              have g2 := row_lt hc2.2 hj'
              rw [Nat.add_mul _ ys.length] at g2
              rw [if_pos ⟨by omega, by omega, hltv⟩] at hg
              have hk : (i' - (off.toNat + len.toNat)) * lay.length + j' < news.length := by
                rw [hR.1]; exact row_lt (by omega) hj'
              obtain ⟨u, hu'⟩ : ∃ u, news[(i' - (off.toNat + len.toNat)) * lay.length + j']? = some u := ⟨_, List.getElem?_eq_getElem hk⟩
              obtain ⟨u2, z1, z2⟩ := hR.2 (i' - (off.toNat + len.toNat)) j' (by omega) hj'
              refine ⟨u2, ?_, z2⟩
              rw [List.getElem?_toArray, hg, ← z1]
              congr 1
              rw [Nat.sub_mul]; omega
            · rw [if_neg hc2]
              have hnot : ¬ ((off.toNat + len.toNat) * lay.length ≤ i' * lay.length + j' ∧ i' * lay.length + j' < (off.toNat + len.toNat) * lay.length + ys.length * lay.length ∧ i' * lay.length + j' < vs.toList.length) := by
                rintro ⟨g1, g2, _⟩
                apply hc2
                rw [← Nat.add_mul] at g2
                constructor
                · apply Decidable.byContradiction; intro hlt
                  have : (i' + 1) * lay.length ≤ (off.toNat + len.toNat) * lay.length := Nat.mul_le_mul_right _ (by omega)
                  rw [Nat.add_mul, Nat.one_mul] at this; omega
                · apply Decidable.byContradiction; intro hlt
                  have : (off.toNat + len.toNat + ys.length) * lay.length ≤ i' * lay.length := Nat.mul_le_mul_right _ (by omega)
                  omega
              rw [if_neg hnot] at hg
              obtain ⟨v', e', hcr⟩ := hv i' j' hi' hj'
              exact ⟨v', by rw [List.getElem?_toArray, hg]; simpa using e', hcr⟩
      · have hx0 : xs = [] := List.length_eq_zero_iff.1 (by omega)
        subst hx0
        subst h1
        have hy0 : ys = [] := List.length_eq_zero_iff.1 (by
          simp at h'
          omega)
        subst hy0
        have hn0 : news = [] := List.length_eq_zero_iff.1 (by rw [hR.1]; simp)
        subst hn0
        have hrun := run_append_nothing (P := P) w t tx o.type e i hu hi none 0 0 (Nat.le_refl _) (a.eval y) hs
        rw [← e1] at hrun
        refine wp_of_value (app_run ho hts rfl hrun) ⟨_, G, rfl, ?_, ?_, Gh.Le.refl _ _, fun i h => .inl h⟩
        · rw [e1]; exact .ownn id off _ hai hp hcn h0 (by simp [baseE])
        · show HR w0 G (H.set id (.arr e lay _)) w
          have : (baseE rs pk).cat ((baseE rs pk).cut [] 0 ((baseE rs pk).pl off 0)) ((baseE rs pk).cat [] ((baseE rs pk).cut [] ((baseE rs pk).pl ((baseE rs pk).pl off 0) ((baseE rs pk).len [])) ((baseE rs pk).len []))) = ([] : List (List C)) := by simp [baseE]
          rw [this, set_same hid]; exact hH
    · intro h; exact (no_stuck h).elim
  · intro h; exact (no_stuck h).elim
end
end Go.Eng

/- An abstract machine over plain data, part QC: elements of an array's value, parts of strings, slices made with room. -/
namespace Go.Eng
open Go.RowKit
section
variable {P : Program} {w0 : Base} {w : World} {G : Gh} {H : List O} {ρ : Operand → Value} {rs : FuncId → List A → Nat → C} {pk : FuncId → List (Bool × List LK) → List A → Prop} {o : Oper} {a : Act} {Q : Exit → Act → World → Prop}

theorem selA_VR {b : Bool} {x y : A} {u v : Value} (hx : b = true → VR G x u) (hy : b = false → VR G y v) : VR G (selA (baseE rs pk) b x y) (if b then u else v) := by
  unfold selA
  split
  · split
    · rename_i k p k' q h
      have hk := eq_of_beq h
      subst hk
      cases b with
      | true => exact hx rfl
      | false => exact hy rfl
    · exact .u _
  · cases b with
    | true => exact hx rfl
    | false => exact hy rfl
  · cases b with
    | true => exact hx rfl
    | false => exact hy rfl
  · split
    · rename_i l p l' q h
      have hk := LK.beqs_eq _ _ h
      subst hk
      cases b with
      | true => exact hx rfl
      | false => exact hy rfl
    · exact .u _
  · exact .u _

theorem selL_len {b : Bool} : ∀ (l l' : List A), l.length = l'.length → (selL (baseE rs pk) b l l').length = l.length
  | [], [], _ => rfl
  | x :: l, y :: l', h => by simp only [selL, List.length_cons]; rw [selL_len l l' (by simpa using h)]
  | [], _ :: _, h => by simp at h
  | _ :: _, [], h => by simp at h
theorem selL_VR {b : Bool} : ∀ (l l' : List A) (u v : Nat → Value), l.length = l'.length → (b = true → ∀ i (h : i < l.length), VR G l[i] (u i)) → (b = false → ∀ i (h : i < l'.length), VR G l'[i] (v i)) →
    ∀ i (h : i < (selL (baseE rs pk) b l l').length), VR G (selL (baseE rs pk) b l l')[i] (if b then u i else v i)
  | [], [], u, v, _, _, _, i, h => by simp [selL] at h
  | x :: l, y :: l', u, v, hl, h1, h2, i, h => by
    cases i with
    | zero =>
      simp only [selL, List.getElem_cons_zero]
      exact selA_VR (fun e => h1 e 0 (by simp)) (fun e => h2 e 0 (by simp))
    | succ i =>
      simp only [selL, List.getElem_cons_succ]
      exact selL_VR l l' (fun i => u (i + 1)) (fun i => v (i + 1)) (by simpa using hl) (fun e i hi => h1 e (i + 1) (by simpa using hi)) (fun e i hi => h2 e (i + 1) (by simpa using hi)) i (by simpa [selL] using h)
  | [], _ :: _, _, _, h, _, _, _, _ => by simp at h
  | _ :: _, [], _, _, h, _, _, _, _ => by simp at h

theorem ixaL_VR {sz : Nat} {j : Int} (u : Nat → Nat → Value) : ∀ (rows : List (List A)) (i : Nat), (∀ k (h : k < rows.length), rows[k].length = sz ∧ ∀ c (hc : c < rows[k].length), VR G rows[k][c] (u (i + k) c)) → (i : Int) ≤ j → j < (i : Int) + rows.length →
    (ixaL (baseE rs pk) j i rows).length = sz ∧ ∀ c (hc : c < (ixaL (baseE rs pk) j i rows).length), VR G (ixaL (baseE rs pk) j i rows)[c] (u j.toNat c)
  | [], i, h, h0, h1 => by simp at h1; omega
  | [r], i, h, h0, h1 => by
    have h2 := h 0 (by simp)
    simp only [List.getElem_cons_zero, Nat.add_zero] at h2
    simp at h1
    have : j.toNat = i := by omega
    rw [this]
    exact h2
  | r :: r' :: rs', i, h, h0, h1 => by
    have h2 := h 0 (by simp)
    simp only [List.getElem_cons_zero, Nat.add_zero] at h2
    have hr : ∀ k (hk : k < (r' :: rs').length), (r' :: rs')[k].length = sz ∧ ∀ c (hc : c < (r' :: rs')[k].length), VR G (r' :: rs')[k][c] (u (i + 1 + k) c) := fun k hk => by
      have := h (k + 1) (by simpa using hk)
      simp only [List.getElem_cons_succ] at this
      rw [show i + (k + 1) = i + 1 + k by omega] at this
      exact this
    by_cases hj : j = i
    · have hb : (baseE rs pk).eq j i = true := by simp [baseE, hj]
      have hlen : ∀ (rows : List (List A)) (m : Nat), rows ≠ [] → (∀ k (h : k < rows.length), rows[k].length = sz) → (ixaL (baseE rs pk) j m rows).length = sz := by
        intro rows
        induction rows with
        | nil => intro m h; exact absurd rfl h
        | cons x xs ih =>
          intro m _ hx
          cases xs with
          | nil => exact hx 0 (by simp)
          | cons y ys =>
            have e1 := hx 0 (by simp)
            have e2 := ih (m + 1) (by simp) (fun k hk => hx (k + 1) (by simpa using hk))
            simp only [ixaL]
            rw [selL_len _ _ (by rw [e2]; exact e1)]
            exact e1
      have e2 := hlen (r' :: rs') (i + 1) (by simp) (fun k hk => (hr k hk).1)
      have hle : r.length = (ixaL (baseE rs pk) j (i + 1) (r' :: rs')).length := by rw [e2]; exact h2.1
      simp only [ixaL]
      refine ⟨by rw [selL_len _ _ hle]; exact h2.1, fun c hc => ?_⟩
      have := selL_VR (G := G) (rs := rs) (pk := pk) (b := (baseE rs pk).eq j i) r _ (fun c => u i c) (fun _ => undef) hle (fun _ c hc => h2.2 c hc) (fun e => by rw [hb] at e; cases e) c hc
      rw [if_pos hb] at this
      have e3 : j.toNat = i := by omega
      rw [e3]; exact this
    · have hb : (baseE rs pk).eq j i = false := by simp [baseE, hj]
      obtain ⟨g1, g2⟩ := ixaL_VR (sz := sz) (j := j) u (r' :: rs') (i + 1) hr (by omega) (by simp at h1 ⊢; omega)
      have hle : r.length = (ixaL (baseE rs pk) j (i + 1) (r' :: rs')).length := by rw [g1]; exact h2.1
      simp only [ixaL]
      refine ⟨by rw [selL_len _ _ hle]; exact h2.1, fun c hc => ?_⟩
      have := selL_VR (G := G) (rs := rs) (pk := pk) (b := (baseE rs pk).eq j i) r _ (fun _ => undef) (fun c => u j.toNat c) hle (fun e => by rw [hb] at e; cases e) (fun _ c hc => g2 c hc) c hc
      rw [if_neg (by simp [hb])] at this
      exact this

theorem rowsA_spec {sz : Nat} : ∀ (n : Nat) (l : List A), l.length = n * sz → (rowsA sz n l).length = n ∧ ∀ k (h : k < (rowsA sz n l).length), (rowsA sz n l)[k].length = sz ∧ ∀ c (hc : c < (rowsA sz n l)[k].length), l[k * sz + c]? = some (rowsA sz n l)[k][c]
  | 0, l, _ => ⟨rfl, fun k h => by simp [rowsA] at h⟩
  | n + 1, l, h => by
    rw [Nat.add_mul, Nat.one_mul] at h
    obtain ⟨h1, h2⟩ := rowsA_spec (sz := sz) n (l.drop sz) (by rw [List.length_drop]; omega)
    refine ⟨by simp [rowsA, h1], fun k hk => ?_⟩
    cases k with
    | zero =>
      simp only [rowsA, List.getElem_cons_zero]
      refine ⟨by simp; omega, fun c hc => ?_⟩
      have hc' : c < (l.take sz).length := hc
      rw [List.length_take] at hc'
      rw [List.getElem_take, Nat.zero_mul, Nat.zero_add, List.getElem?_eq_getElem (by omega)]
    | succ k =>
      simp only [rowsA, List.getElem_cons_succ]
      have hk' : k < (rowsA sz n (l.drop sz)).length := by simpa [rowsA] using hk
      obtain ⟨g1, g2⟩ := h2 k hk'
      refine ⟨g1, fun c hc => ?_⟩
      have := g2 c hc
      rw [List.getElem?_drop] at this
      rw [show (k + 1) * sz + c = sz + (k * sz + c) by rw [Nat.add_mul, Nat.one_mul]; omega]
      exact this

theorem ixa_sound {x i : Operand} {t e : TypeId} {len : Nat} {ei : TypeInfo} {d : TypeDesc} {b c : A} (ho : o.op = .index t x i) (hu : P.underlying t = some (.array len e)) (hinf : P.info? e = some ei) (hd : P.underlying e = some d)
    (hx : VR G b (ρ x)) (hi : VR G c (ρ i)) (h : AllP (ixaE (baseE rs pk) len ei.size d.isRow b c).p) : Yl P G ρ o w (ixaE (baseE rs pk) len ei.size d.isRow b c) := by
  revert h
  unfold ixaE
  split
  · rename_i l k j
    intro h
    obtain ⟨hb, h⟩ := chk_p h
    rw [chk_true hb]
    simp only [Bool.and_eq_true, Nat.beq_eq, Nat.blt_eq] at hb
    obtain ⟨hlen, hsz⟩ := hb
    simp [Rs.q, baseE] at h
    obtain ⟨h0, h1⟩ := h
    obtain ⟨vs, ev, hl, hone, hv⟩ := hx.agg_inv
    have e2 := hi.int
    obtain ⟨r1, r2⟩ := rowsA_spec len l hlen
    obtain ⟨g1, g2⟩ := ixaL_VR (G := G) (rs := rs) (pk := pk) (sz := ei.size) (j := j) (fun k c => vs.getD (k * ei.size + c) undef) (rowsA ei.size len l) 0 (fun k hk => by
      obtain ⟨q1, q2⟩ := r2 k hk
      refine ⟨q1, fun c hc => ?_⟩
      obtain ⟨hlt, e⟩ := List.getElem?_eq_some_iff.1 (q2 c hc)
      have hlt2 : k * ei.size + c < vs.size := by omega
      rw [Nat.zero_add, ← e]
      simp [hlt2]
      exact hv _ hlt hlt2) (by simpa using h0) (by rw [r1]; simpa using h1)
    have hjl : (j.toNat + 1) * ei.size ≤ len * ei.size := Nat.mul_le_mul_right _ (by omega)
    rw [Nat.add_mul, Nat.one_mul] at hjl
    have hlt3 : j.toNat * ei.size + ei.size ≤ vs.size := by omega
    cases hr : d.isRow with
    | true =>
      have hagg : (isAgg e).run P w = .ok true w := by
        unfold isAgg
        rw [Sem.run_bind, run_underlying hd w]
        cases d <;> simp_all
      refine ⟨rfl, .agg (vs.extract (j.toNat * ei.size) (j.toNat * ei.size + ei.size)), ?_, ?_⟩
      · simp [execOp, ho, ev, e2, Instr.index, asIntOf, run_underlying hu, h0, h1, part, hagg, sizeOf, typeInfo, hinf]
      · refine .agg _ _ (by rw [g1]; simp; omega) (fun k h2 => by simp at h2 ⊢; exact hone _ (by omega)) fun k q1 q2 => ?_
        have := g2 k q1
        simp at q2
        have hlt4 : j.toNat * ei.size + k < vs.size := by omega
        simp [hlt4] at this ⊢
        exact this
    | false =>
      have hagg : (isAgg e).run P w = .ok false w := by
        unfold isAgg
        rw [Sem.run_bind, run_underlying hd w]
        cases d <;> simp_all
      have hlt4 : j.toNat * ei.size < vs.size := by omega
      refine ⟨rfl, vs[j.toNat * ei.size], ?_, ?_⟩
      · simp [execOp, ho, ev, e2, Instr.index, asIntOf, run_underlying hu, h0, h1, part, hagg, sizeOf, typeInfo, hinf, hlt4]
      · have := g2 0 (by omega)
        have key : ∀ (q : List A) (hq : 0 < q.length), q.headD .u = q[0] := fun q hq => by
          cases q with
          | nil => simp at hq
          | cons => rfl
        show VR G (List.headD _ _) _
        rw [key _ (by omega)]
        simp [hlt4] at this
        exact this
  · exact Yl.no

theorem sst_sound {x : Operand} {lo hi : Option Operand} {t : TypeId} {b : A} {ev : Opd → A} (ho : o.op = .slice t x lo hi none) (hu : P.underlying t = some .string)
    (hx : VR G b (ρ x)) (hlo : ∀ x, lo = some x → VR G (ev (opd x)) (ρ x)) (hhi : ∀ x, hi = some x → VR G (ev (opd x)) (ρ x))
    (h : AllP (sstE (baseE rs pk) ev b (lo.map opd) (hi.map opd)).p) : Yl P G ρ o w (sstE (baseE rs pk) ev b (lo.map opd) (hi.map opd)) := by
  have hnull : ∀ v : Value, (Instr.sliceAt t v (lo.map ρ) (hi.map ρ) none).run P w = (Instr.slice t v (lo.map ρ) (hi.map ρ) none).run P w := by
    intro v
    simp [Instr.sliceAt, run_underlying hu]
  revert h
  unfold sstE
  split
  · rename_i s
    split
    · rename_i l hh el eh
      intro h
      simp [Rs.q, baseE] at h
      obtain ⟨h0, h1, h2⟩ := h
      have e1 := hx.str
      have hb := run_sliceBounds (P := P) (w := w) (isS := false) (len := s.size) (cap := s.size) (Nat.le_refl _) hlo hhi el (by simpa [baseE] using eh) h0 h1 h2
      refine ⟨rfl, .string (s.extract l.toNat hh.toNat), ?_, .c (.str _)⟩
      simp [execOp, ho, e1, hnull, Instr.slice, run_underlying hu, hb]
    · exact Yl.no
  · exact Yl.no

theorem mkx_sound {t e : TypeId} {x y : Operand} {lay : List LK} {zr : List C} {bound : Int} {i : TypeInfo} {z : Value} {b c : A} {n : Nat} (ho : o.op = .makeSlice t x y) (hu : P.underlying t = some (.slice e)) (hi : P.info? e = some i) (hz : i.zero = some z)
    (hsz : i.size = lay.length) (hb0 : 0 < i.bytes) (hbound : bound = pow47 / i.bytes) (hzs : z.cells.size = i.size) (hzr : asRow lay (z.cells.toList.map toA1) = some zr)
    (hH : HR w0 G H w) (hx : VR G b (a.eval x)) (hy : VR G c (a.eval y)) (hn : n < H.length) (hal : G.al n = false) {r : Rs}
    (hr : r = match (generalizing := false) b, c with
    | .c (.int .i64 l), .c (.int .i64 c) => ⟨[.b ((baseE rs pk).le 0 l), .b ((baseE rs pk).le l c), .b ((baseE rs pk).le c bound)], .own n 0 l, [(n, .arr e lay ((baseE rs pk).rep c zr))]⟩
    | _, _ => stuck) (h : AllP r.p) : o.wp P a w (AfterV w0 G H a o.dst r.v r.ws (some n)) Q := by
  subst hr
  revert h
  split
  · rename_i l c
    intro h
    simp [baseE] at h
    obtain ⟨h0, h1, h3⟩ := h
    have e1 := hx.int
    have e2 := hy.int
    have hbd : c * i.bytes ≤ 140737488355328 := by
      have h2 : bound * i.bytes ≤ pow47 := by rw [hbound]; exact Int.ediv_mul_le _ (by omega)
      have h3' : c * i.bytes ≤ bound * i.bytes := Int.mul_le_mul_of_nonneg_right h3 (by omega)
      unfold pow47 at h2; omega
    have hc47 : c ≤ 140737488355328 := by
      have : c * 1 ≤ c * i.bytes := Int.mul_le_mul_of_nonneg_left (by omega) (by omega)
      omega
    have wl : IntKind.i64.wrap l = l := IntWalk.i64_in l (by omega)
    have wc : IntKind.i64.wrap c = c := IntWalk.i64_in c (by omega)
    have hz0 : (zeroValue e).run P w = .ok z w := by simp [zeroValue, typeInfo, hi, hz]
    have hs0 : (sizeOf e).run P w = .ok i.size w := by simp [sizeOf, typeInfo, hi]
    have ht0 : (typeInfo e).run P w = .ok i w := by simp [typeInfo, hi]
    let zs : Array Value := if c.toNat * i.size = 0 then #[] else z.cells
    let cs : Array Value := (Array.range (c.toNat * i.size)).map fun k => zs[k % zs.size]!
    have hcs : cs.size = c.toNat * i.size := by simp [cs]
    have hget : ∀ k j, k < c.toNat → j < i.size → ∃ (hj : j < z.cells.size), cs[k * i.size + j]? = some z.cells[j] := by
      intro k j hk hj
      have hle : (k + 1) * i.size ≤ c.toNat * i.size := Nat.mul_le_mul_right _ hk
      rw [Nat.add_mul, Nat.one_mul] at hle
      have hne : c.toNat * i.size ≠ 0 := by omega
      have hzs' : zs = z.cells := if_neg hne
      refine ⟨by omega, ?_⟩
      rw [Array.getElem?_eq_getElem (by omega)]
      simp only [cs, hzs', Array.getElem_map, Array.getElem_range]
      have hm : (k * i.size + j) % z.cells.size = j := by rw [hzs, Nat.add_comm, Nat.add_mul_mod_self_right]; exact Nat.mod_eq_of_lt hj
      rw [hm]
      exact congrArg some (getElem!_pos z.cells j (by omega))
    obtain ⟨q1, q2⟩ := asRow_spec hzr
    have hR : RowsR G.F lay (List.replicate c.toNat zr) (cs.toList.take (c.toNat * lay.length)) := by
      have := RowsR.take (F := G.F) (lay := lay) (xs := List.replicate c.toNat zr) (vs := cs.toList) (by simp; rw [hcs, hsz]; exact Nat.mul_le_mul_right _ (by omega)) (fun k j hk hj => by
        simp at hk
        obtain ⟨hj', e⟩ := hget k j (by omega) (by omega)
        refine ⟨z.cells[j], by rw [← hsz]; simpa using e, ?_⟩
        obtain ⟨cc, e3, e4⟩ := q2 j (by simp; omega)
        have : cellC lay (List.replicate c.toNat zr) k j = fixC (lay.getD j .bool) cc := by
          unfold cellC cellAt
          rw [show (List.replicate c.toNat zr).getD k [] = zr by rw [List.getD_eq_getElem?_getD, List.getElem?_replicate, if_pos (by omega)]; rfl, e4]
        rw [this]
        refine asC_of e3 ?_
        simp
        exact VR_toA1 G _)
      simpa using this
    refine wp_of_value (val := .slice (some ⟨w.heap.size, 0, none⟩) l.toNat c.toNat) (w' := w.alloc (.cells cs e)) ?_ ⟨_, G.push n w.heap.size c.toNat lay.length (List.replicate c.toNat zr).length false, rfl, ?_, place_arr e c.toNat hn hal hH (by rw [hcs, hsz]) (by simp) hR (fun k u hu => ?_), G.le_push _ _ _ _ _ _ _ hal, new_al⟩
    · have g1 : ¬ c < 0 := by omega
      have g2 : ¬ l < 0 := by omega
      have g3 : ¬ l > c := by omega
      have g4 : ¬ (281474976710656 < (i.bytes : Int) * c) := by
        rw [Int.mul_comm]; omega
      by_cases hne : c.toNat * i.size = 0
      · have hcs0 : cs = #[] := by
          apply Array.eq_empty_of_size_eq_zero; rw [hcs, hne]
        simp only [execOp, ho, e1, e2, Instr.makeSlice, asInt, asIntOf, Sem.run_bind, run_underlying hu, Sem.run_pure, Result.andThen_ok, ht0, hs0, wl, wc]
        simp [g1, g2, g3, g4, hs0, hne, newRow, hcs0]
        congr 2
        apply Array.eq_empty_of_size_eq_zero
        simp
      · have hcs0 : cs = (Array.range (c.toNat * i.size)).map fun k => z.cells[k % z.cells.size]! := by simp only [cs, zs, if_neg hne]
        simp only [execOp, ho, e1, e2, Instr.makeSlice, asInt, asIntOf, Sem.run_bind, run_underlying hu, Sem.run_pure, Result.andThen_ok, ht0, hs0, wl, wc]
        simp only [hcs0]
        simp [g1, g2, g3, g4, hs0, hne, hz0, newRow]
    · have := VR.own (G := G.push n w.heap.size c.toNat lay.length (List.replicate c.toNat zr).length false) n 0 l c.toNat ⟨w.heap.size, 0, none⟩ (by simp) (by simp) (by omega) h0 (by simp) (by simp; omega) (by omega) (fun _ => by simp)
      exact this
    · obtain ⟨hk, rfl⟩ := List.getElem?_eq_some_iff.1 hu
      simp at hk ⊢
  · intro h; exact (no_stuck h).elim
end
end Go.Eng

/- An abstract machine over plain data, part S: every operation is sound. -/
namespace Go.Eng
open Go.RowKit

theorem mapM_some {α β : Type} {f : α → Option β} : ∀ {l : List α} {r : List β}, l.mapM f = some r → l.length = r.length ∧ ∀ i (h1 : i < l.length) (h2 : i < r.length), f l[i] = some r[i]
  | [], r, h => by simp at h; subst h; exact ⟨rfl, fun i h => by simp at h⟩
  | x :: l, r, h => by
    rw [List.mapM_cons] at h
    cases hx : f x with
    | none => simp [hx] at h
    | some y =>
      cases hl : l.mapM f with
      | none => simp [hx, hl] at h
      | some r' =>
        simp [hx, hl] at h
        subst h
        obtain ⟨h1, h2⟩ := mapM_some hl
        refine ⟨by simp [h1], fun i g1 g2 => ?_⟩
        cases i with
        | zero => simpa using hx
        | succ i => simp at g1 g2 ⊢; exact h2 i g1 g2

section
variable {P : Program} {w0 : Base} {w : World} {G : Gh} {H : List O} {a : Act} {o : Oper} {Q : Exit → Act → World → Prop} {tbl : FuncId → List A → List C}

/-- What is to be shown of an operation. -/
def SoundV (P : Program) (tbl : FuncId → List A → List C) (w0 : Base) (w : World) (G : Gh) (H : List O) (a : Act) (o : Oper) (Q : Exit → Act → World → Prop) (b : Nat) (ev : Opd → A) (q : VOp) : Prop :=
  AllP (vE (stdE P tbl) ev H b q).p → o.wp P a w (AfterV w0 G H a o.dst (vE (stdE P tbl) ev H b q).v (vE (stdE P tbl) ev H b q).ws (q.slot?.map (b + ·))) Q

theorem SoundV.quiet {b : Nat} {ev : Opd → A} {q : VOp} (hH : HR w0 G H w) (h : AllP (vE (stdE P tbl) ev H b q).p → Yl P G a.eval o w (vE (stdE P tbl) ev H b q)) : SoundV P tbl w0 w G H a o Q b ev q :=
  fun hp => (h hp).after hH _

set_option maxHeartbeats 2000000 in
theorem vE_sound {D : Opts} {s b : Nat} {q : VOp} {ev : Opd → A} (hq : rv P D s o = some (.v q)) (hH : HR w0 G H w) (hev : ∀ x ∈ o.op.operands.toList, VR G (ev (opd x)) (a.eval x))
    (hn : ∀ k, q.slot? = some k → b + k < H.length ∧ G.al (b + k) = false) : SoundV P tbl w0 w G H a o Q b ev q := by
  unfold rv at hq
  split at hq
  · rename_i x ho
    cases hq
    exact .quiet hH fun _ => mv_sound (.inl ho) (hev x (by simp [ho, Op.operands]))
  · rename_i x ho
    cases hq
    exact .quiet hH fun _ => mv_sound (.inr ho) (hev x (by simp [ho, Op.operands]))
  · rename_i c x y ho
    cases hq
    exact .quiet hH fun h => pick_sound ho (hev c (by simp [ho, Op.operands])) (hev x (by simp [ho, Op.operands])) (hev y (by simp [ho, Op.operands])) h
  · rename_i t ps ho
    simp only [Option.bind_eq_some_iff] at hq
    obtain ⟨i, hi, z, hz, hq⟩ := hq
    split at hq
    · rename_i hone
      split at hq
      · rename_i fs hu
        split at hq
        · rename_i hfs
          simp only [Option.map_eq_some_iff] at hq
          obtain ⟨qs, hqs, hq⟩ := hq
          cases hq
          obtain ⟨hl, hp⟩ := mapM_some hqs
          refine .quiet hH fun h => buildS_sound ho hu hi hz hone (fun f hf => ?_) (fun j h1 h2 => ?_) hl (fun x hx => hev x (by simpa [ho, Op.operands] using hx)) h
          · exact Array.all_eq_true_iff_forall_mem.1 hfs f hf
          · have := hp j h1 h2
            simp only [Option.map_eq_some_iff] at this
            obtain ⟨f, e1, e2⟩ := this
            rw [e1, ← e2]
            exact ⟨rfl, rfl⟩
        · cases hq
      · rename_i len e hu
        simp only [Option.map_eq_some_iff] at hq
        obtain ⟨ei, hei, hq⟩ := hq
        cases hq
        refine .quiet hH fun h => buildA_sound ho hu hi hz hone hei (fun j h1 h2 => ?_) (by simp) (fun x hx => hev x (by simpa [ho, Op.operands] using hx)) h
        simp
      · cases hq
    · cases hq
  · rename_i t x ho
    simp only [Option.bind_eq_some_iff] at hq
    obtain ⟨d, hu, hq⟩ := hq
    split at hq
    · rename_i hd
      simp only [Option.map_eq_some_iff] at hq
      obtain ⟨i, hi, hq⟩ := hq
      cases hq
      exact .quiet hH fun h => lda_sound ho hu hd (by rw [hi]; rfl) hH (hev x (by simp [ho, Op.operands])) h
    · rename_i hd
      cases hq
      exact .quiet hH fun h => ld_sound ho hu (by simpa using hd) hH (hev x (by simp [ho, Op.operands])) h
  · rename_i x ho
    cases hq
    exact .quiet hH fun h => nc_sound ho (hev x (by simp [ho, Op.operands])) h
  · rename_i op t x y yT ho
    have hx := hev x (by simp [ho, Op.operands])
    have hy := hev y (by simp [ho, Op.operands])
    split at hq
    · cases hq; exact .quiet hH fun h => bin_sound ho hx hy h
    · cases hq; exact .quiet hH fun h => bin_sound ho hx hy h
    · rename_i hu
      split at hq
      · rename_i hop; cases hq; exact .quiet hH fun h => eqb_sound (neg := false) hop ho hu hx hy h
      · split at hq
        · rename_i hop; cases hq; exact .quiet hH fun h => eqb_sound (neg := true) hop ho hu hx hy h
        · cases hq
    · rename_i fs hu
      split at hq
      · cases hq
      · rename_i hg
        split at hq
        · rename_i hop
          simp only [Option.map_eq_some_iff] at hq
          obtain ⟨ls, hls, hq⟩ := hq
          cases hq
          exact .quiet hH fun h => eqs_sound (neg := false) hop ho hu hls (by simpa using hg) hx hy rfl h
        · split at hq
          · rename_i hop
            simp only [Option.map_eq_some_iff] at hq
            obtain ⟨ls, hls, hq⟩ := hq
            cases hq
            exact .quiet hH fun h => eqs_sound (neg := true) hop ho hu hls (by simpa using hg) hx hy rfl h
          · cases hq
    · rename_i d hu
      split at hq
      · rename_i c
        simp only [Option.bind_eq_some_iff] at hq
        obtain ⟨kd, hk, hq⟩ := hq
        have key : ∀ neg, op = (if neg then .neq else .eql) → q = .eqn kd neg (opd x) → SoundV P tbl w0 w G H a o Q b ev q := by
          rintro neg hop rfl
          refine .quiet hH fun h => ?_
          revert h
          simp only [vE]
          split
          · rename_i bb hb
            intro _
            exact eqn_sound hop ho hu hk rfl hx hb
          · exact Yl.no
        split at hq
        · rename_i hop
          split at hq
          · cases hq
          · cases hq; exact key false hop rfl
        · split at hq
          · rename_i hop
            split at hq
            · cases hq
            · cases hq; exact key true hop rfl
          · cases hq
      · cases hq
    · cases hq
  · rename_i op t x ho
    cases hq
    exact .quiet hH fun h => un_sound ho (hev x (by simp [ho, Op.operands])) h
  · rename_i t u x ho
    split at hq
    · rename_i d k ht hu
      cases hq
      exact .quiet hH fun h => cv_sound ho ht hu (hev x (by simp [ho, Op.operands])) h
    · cases hq
  · rename_i s x i ho
    split at hq
    · rename_i fs hu
      simp only [Option.bind_eq_some_iff] at hq
      obtain ⟨f, hf, fi, hfi, hq⟩ := hq
      split at hq
      · cases hq
      · rename_i h0
        cases hq
        exact .quiet hH fun h => fa_sound ho hu hf hfi h0 (hev x (by simp [ho, Op.operands])) h
    · cases hq
  · rename_i s x i ho
    split at hq
    · rename_i fs hu
      simp only [Option.bind_eq_some_iff] at hq
      obtain ⟨f, hf, d, hd, hq⟩ := hq
      split at hq
      · rename_i hr
        simp only [Option.map_eq_some_iff] at hq
        obtain ⟨fi, hfi, hq⟩ := hq
        cases hq
        exact .quiet hH fun h => fdn_sound ho hu hf hd hr hfi (hev x (by simp [ho, Op.operands])) h
      · rename_i hr
        cases hq
        exact .quiet hH fun h => fd1_sound ho hu hf hd (by simpa using hr) (hev x (by simp [ho, Op.operands])) h
    · cases hq
  · rename_i t x i ho
    have hx := hev x (by simp [ho, Op.operands])
    have hi := hev i (by simp [ho, Op.operands])
    split at hq
    · rename_i e hu
      simp only [Option.map_eq_some_iff] at hq
      obtain ⟨ei, hei, hq⟩ := hq
      cases hq
      exact .quiet hH fun h => ia_sound ho hu hei hH hx hi h
    · rename_i len e hu
      simp only [Option.map_eq_some_iff] at hq
      obtain ⟨ei, hei, hq⟩ := hq
      cases hq
      exact .quiet hH fun h => iaa_sound ho hu hei hx hi h
    · cases hq
  · rename_i t x i ho
    split at hq
    · rename_i hu
      cases hq
      exact .quiet hH fun h => ixs_sound ho hu (hev x (by simp [ho, Op.operands])) (hev i (by simp [ho, Op.operands])) h
    · rename_i len e hu
      simp only [Option.bind_eq_some_iff, Option.map_eq_some_iff] at hq
      obtain ⟨ei, hei, d, hd, hq⟩ := hq
      cases hq
      exact .quiet hH fun h => ixa_sound ho hu hei hd (hev x (by simp [ho, Op.operands])) (hev i (by simp [ho, Op.operands])) h
    · cases hq
  · rename_i t x lo hi ho
    split at hq
    · rename_i hu
      cases hq
      exact .quiet hH fun h => sst_sound ho hu (hev x (by simp [ho, Op.operands])) (fun y hy => hev y (by simp [ho, Op.operands, hy])) (fun y hy => hev y (by simp [ho, Op.operands, hy])) h
    · rename_i e hu
      simp only [Option.map_eq_some_iff] at hq
      obtain ⟨ei, hei, hq⟩ := hq
      split at hq
      · cases hq
        exact .quiet hH fun h => slx_sound ho hu hei hH (hev x (by simp [ho, Op.operands])) (fun y hy => hev y (by simp [ho, Op.operands, hy])) (fun y hy => hev y (by simp [ho, Op.operands, hy])) h
      cases hq
      exact .quiet hH fun h => sls_sound ho hu hei hH (hev x (by simp [ho, Op.operands])) (fun y hy => hev y (by simp [ho, Op.operands, hy])) (fun y hy => hev y (by simp [ho, Op.operands, hy])) h
    · cases hq
  · rename_i t x lo hi mx ho
    split at hq
    · rename_i e hu
      simp only [Option.map_eq_some_iff] at hq
      obtain ⟨ei, hei, hq⟩ := hq
      cases hq
      exact .quiet hH fun h => sl3_sound ho hu hei hH (hev x (by simp [ho, Op.operands])) (fun y hy => hev y (by simp [ho, Op.operands, hy])) (hev hi (by simp [ho, Op.operands])) (hev mx (by simp [ho, Op.operands])) h
    · cases hq
  · rename_i f first cs ho
    split at hq
    · rename_i hf
      cases hq
      have hf' : first = #[] := by simpa using hf
      subst hf'
      exact .quiet hH fun _ => mkf_sound ho (fun x hx => hev x (by simp [ho, Op.operands]; exact hx))
    · cases hq
  · rename_i x i ho
    cases hq
    exact .quiet hH fun h => ext_sound ho (hev x (by simp [ho, Op.operands])) h
  · rename_i t x i ok ho
    split at hq
    · rename_i key e hu
      split at hq
      · rename_i kd hk
        simp only [Option.bind_eq_some_iff, Option.map_eq_some_iff] at hq
        obtain ⟨ei, hei, z, hz, hq⟩ := hq
        cases hq
        exact .quiet hH fun h => lkp_sound ho hu hk hei hz hH (hev x (by simp [ho, Op.operands])) (hev i (by simp [ho, Op.operands])) rfl h
      · cases hq
    · cases hq
  · rename_i T ho
    simp only [Option.bind_eq_some_iff] at hq
    obtain ⟨i, hi, z, hz, hq⟩ := hq
    split at hq
    · rename_i hone
      cases hq
      obtain ⟨n1, n2⟩ := hn s rfl
      exact fun _ => alloc_sound ho hi hz hone hH n1 n2
    · cases hq
  · rename_i T x ho
    cases hq
    obtain ⟨n1, n2⟩ := hn s rfl
    intro h
    revert h
    simp only [vE]
    intro h
    obtain ⟨hk, _⟩ := chk_p h
    rw [chk_true hk]
    exact box_sound ho hH (hev x (by simp [ho, Op.operands])) hk n1 n2
  · rename_i t len ps ho
    split at hq
    · rename_i e hu
      simp only [Option.bind_eq_some_iff] at hq
      obtain ⟨i, hi, z, hz, lay, hlay, hq⟩ := hq
      split at hq
      · rename_i hc
        obtain ⟨h1, h2, h3, h4, h5⟩ := hc
        have hx : ∀ x ∈ ps.toList.map (·.2), VR G (ev (opd x)) (a.eval x) := fun x hx => hev x (by simpa [ho, Op.operands] using hx)
        split at hq
        · cases hq
          intro h
          revert h
          simp only [vE]
          split
          · rename_i rows hrows
            intro _
            exact lit_sound ho hu hi hz h4 h1 h2 h3 hH hx hrows _
          · intro h; exact (no_stuck h).elim
        · cases hq
          obtain ⟨n1, n2⟩ := hn s rfl
          intro h
          revert h
          simp only [vE]
          split
          · rename_i rows hrows
            intro _
            exact bsl_sound ho hu hi hz h4 h1 h2 h3 hH hx n1 n2 rfl hrows
          · intro h; exact (no_stuck h).elim
      · cases hq
    · cases hq
  · rename_i t x v ho
    simp only [Option.map_eq_some_iff] at hq
    obtain ⟨i, hi, hq⟩ := hq
    cases hq
    exact fun h => st_sound ho (by rw [hi]; rfl) hH (hev x (by simp [ho, Op.operands])) (hev v (by simp [ho, Op.operands])) h _
  · rename_i t x y ho
    split at hq
    · rename_i e hu
      simp only [Option.bind_eq_some_iff] at hq
      obtain ⟨i, hi, z, hz, lay, hlay, zr, hzr, hq⟩ := hq
      split at hq
      · rename_i hc
        split at hq
        · cases hq
          obtain ⟨n1, n2⟩ := hn s rfl
          exact fun h => mkx_sound ho hu hi hz hc.2.1 hc.2.2 rfl hc.1 hzr hH (hev x (by simp [ho, Op.operands])) (hev y (by simp [ho, Op.operands])) n1 n2 rfl h
        cases hq
        obtain ⟨n1, n2⟩ := hn s rfl
        exact fun h => mks_sound ho hu hi hz hc.2.1 hc.2.2 rfl hc.1 hzr hH (hev x (by simp [ho, Op.operands])) (hev y (by simp [ho, Op.operands])) n1 n2 rfl h
      · cases hq
    · cases hq
  · rename_i t ho
    split at hq
    · rename_i key e hu
      split at hq
      · cases hq
        obtain ⟨n1, n2⟩ := hn s rfl
        exact fun _ => mkm_sound ho hu (fun h => by cases h) hH n1 n2
      · cases hq
        obtain ⟨n1, n2⟩ := hn s rfl
        exact fun _ => mkm_sound ho hu (fun _ => rfl) hH n1 n2
      · cases hq
    · cases hq
  · rename_i t x k v ho
    split at hq
    · rename_i key e hu
      split at hq
      · rename_i kd hk
        cases hq
        exact fun h => mup_sound ho hu hk hH (hev x (by simp [ho, Op.operands])) (hev k (by simp [ho, Op.operands])) (hev v (by simp [ho, Op.operands])) rfl h _
      · cases hq
    · cases hq
  · rename_i args ts ho
    split at hq
    · rename_i x y t tx ha ht
      obtain rfl : args = #[x, y] := by apply Array.ext'; simpa using ha
      obtain rfl : ts = #[t, tx] := by apply Array.ext'; simpa using ht
      split at hq
      · rename_i e e' hu hux
        simp only [Option.bind_eq_some_iff] at hq
        obtain ⟨i, hi, z, hz, lay, hlay, hq⟩ := hq
        split at hq
        · rename_i hc
          simp only [Option.some.injEq] at hq
          split at hq
          · cases hq
            exact fun h => apx_sound ho rfl hu hux hi hc.2.2 hH (hev x (by simp [ho, Op.operands, Call.operands])) (hev y (by simp [ho, Op.operands, Call.operands])) h _
          cases hq
          obtain ⟨n1, n2⟩ := hn s rfl
          exact fun h => app_sound ho rfl hu hux hi hz hc.2.1 hc.1 hc.2.2 rfl hH (hev x (by simp [ho, Op.operands, Call.operands])) (hev y (by simp [ho, Op.operands, Call.operands])) n1 n2 h
        · cases hq
      · rename_i e k hu hux
        simp only [Option.bind_eq_some_iff] at hq
        obtain ⟨i, hi, z, hz, lay, hlay, zr, hzr, hq⟩ := hq
        split at hq
        · rename_i hc
          cases hq
          obtain ⟨n1, n2⟩ := hn s rfl
          exact fun h => appN_sound ho rfl hu hux hi hz hc.2.1 hc.1 hc.2.2 rfl hzr hH (hev x (by simp [ho, Op.operands, Call.operands])) (hev y (by simp [ho, Op.operands, Call.operands])) n1 n2 rfl h
        · cases hq
      · cases hq
    · cases hq
  · rename_i args ts ho
    split at hq
    · rename_i x k t _ ha ht
      obtain rfl : args = #[x, k] := by apply Array.ext'; simpa using ha
      split at hq
      · rename_i key e hu
        split at hq
        · rename_i kd hk
          cases hq
          refine fun h => del_sound ho (t := t) ?_ hu hk hH (hev x (by simp [ho, Op.operands, Call.operands])) (hev k (by simp [ho, Op.operands, Call.operands])) rfl h _
          rw [← Array.getElem?_toList, ht]; rfl
        · cases hq
      · cases hq
    · cases hq
  · rename_i bi args ts _ _ ho
    split at hq
    · rename_i x t ha ht _ _
      obtain rfl : args = #[x] := by apply Array.ext'; simpa using ha
      obtain rfl : ts = #[t] := by apply Array.ext'; simpa using ht
      have hx := hev x (by simp [ho, Op.operands, Call.operands])
      split at hq
      · rename_i hu; cases hq; exact .quiet hH fun h => lenS_sound ho hu hH hx rfl h
      · rename_i hu; cases hq; exact .quiet hH fun h => lenT_sound ho hu hx rfl h
      · rename_i hu; cases hq; exact .quiet hH fun h => lenM_sound ho hu hH hx rfl h
      · cases hq
    · rename_i x t ha ht _ _
      obtain rfl : args = #[x] := by apply Array.ext'; simpa using ha
      obtain rfl : ts = #[t] := by apply Array.ext'; simpa using ht
      have hx := hev x (by simp [ho, Op.operands, Call.operands])
      split at hq
      · rename_i hu; cases hq; exact .quiet hH fun h => capN_sound ho hu hx rfl h
      · cases hq
    · rename_i x t ha ht _ _
      obtain rfl : args = #[x] := by apply Array.ext'; simpa using ha
      obtain rfl : ts = #[t] := by apply Array.ext'; simpa using ht
      have hx := hev x (by simp [ho, Op.operands, Call.operands])
      split at hq
      · rename_i e hu
        simp only [Option.bind_eq_some_iff] at hq
        obtain ⟨i, hi, z, hz, lay, hlay, zr, hzr, hq⟩ := hq
        split at hq
        · rename_i hc
          cases hq
          exact fun h => clr_sound ho hu hi hz hc.1 hc.2 hzr hH hx h _
        · cases hq
      · cases hq
    · rename_i x ys ha _ _
      cases hq
      obtain rfl : args = (x :: ys).toArray := by apply Array.ext'; simpa using ha
      exact .quiet hH fun h => min_sound ho (hev x (by simp [ho, Op.operands, Call.operands])) (fun y hy => hev y (by simp [ho, Op.operands, Call.operands, hy])) rfl h
    · rename_i x ys ha _ _
      cases hq
      obtain rfl : args = (x :: ys).toArray := by apply Array.ext'; simpa using ha
      exact .quiet hH fun h => max_sound ho (hev x (by simp [ho, Op.operands, Call.operands])) (fun y hy => hev y (by simp [ho, Op.operands, Call.operands, hy])) rfl h
    · cases hq
  · rename_i f args ts ho
    split at hq
    · rename_i hb
      split at hq
      · cases hq
      · simp only [Option.bind_eq_some_iff, Option.map_eq_some_iff] at hq
        obtain ⟨fn, hf, rty, hr, hq⟩ := hq
        cases hq
        exact fun h => det_sound (xs := args.toList) (by simpa using ho) hH (fun x hx => hev x (by simp [ho, Op.operands, Call.operands] at hx ⊢; exact .inr hx)) h _
    · cases hq
  · rename_i t args ts ho
    split at hq
    · cases hq
    · simp only [Option.map_eq_some_iff] at hq
      obtain ⟨r, hr, hq⟩ := hq
      cases hq
      intro h
      revert h
      simp only [vE]
      split
      · rename_i f cap e
        intro h
        have hxf := hev (.tmp t) (by simp [ho, Op.operands, Call.operands])
        simp only [opd] at hxf
        rw [e] at hxf
        exact detv_sound (xs := args.toList) (by simpa using ho) hH hxf (fun x hx => hev x (by simp [ho, Op.operands, Call.operands] at hx ⊢; exact .inr hx)) h _
      · intro h; exact (no_stuck h).elim
  · cases hq
end

theorem chk_ws {b : Bool} {r : Rs} (h : r.ws = []) : (chk b r).ws = [] := by cases b <;> first | rfl | exact h
theorem foldInts_ws (f : Int → Int → Int) (ev : Opd → A) (k : IntKind) : ∀ (ys : List Opd) (a : Int), (foldInts f ev k a ys).ws = []
  | [], a => rfl
  | y :: ys, a => by
    unfold foldInts
    split
    · exact foldInts_ws f ev k ys _
    · rfl
theorem lkM_ws {E : Env} (k : IntKind) (row : Bool) (lay : List LK) (es : List (Int × List C)) (kk : IntKind) (n : Int) (z : A) (ok : Bool) : (lkM E k row lay es kk n z ok).ws = [] := by
  unfold lkM
  split
  · exact chk_ws rfl
  · rfl
theorem quiet_ws {E : Env} {ev : Opd → A} {H : List O} {b : Nat} {q : VOp} (h : q.quiet = true) : (vE E ev H b q).ws = [] := by
  cases q
  case fd off n x => cases n <;> (simp only [vE]; repeat' (first | rfl | exact chk_ws rfl | split))
  case det f rty xs =>
    simp only [vE, detE]
    simp only [VOp.quiet] at h
    simp only [h, if_true]
    split <;> rfl
  case detv rty x xs =>
    simp only [vE, detE]
    simp only [VOp.quiet] at h
    simp only [h, if_true]
    repeat' (first | rfl | split)
  case lkp z x k ok =>
    simp only [vE]
    repeat' (first | rfl | exact lkM_ws .. | split)
  all_goals (first | (simp [VOp.quiet] at h; done) | skip)
  all_goals (simp only [vE])
  all_goals (try unfold binE)
  all_goals (try unfold ldE)
  all_goals (try unfold ldaE)
  all_goals (try unfold faE)
  all_goals (try unfold iaE)
  all_goals (try unfold iaaE)
  all_goals (try unfold slsE)
  all_goals (try unfold sl3E)
  all_goals (try unfold slxE)
  all_goals (try unfold ixaE)
  all_goals (try unfold sstE)
  all_goals (try unfold pickE)
  all_goals (
    repeat' (first | rfl | exact chk_ws rfl | exact foldInts_ws _ _ _ _ _ | split))
end Go.Eng

/- An abstract machine over plain data, part T: one step, and regions in text order. -/
namespace Go.Eng
open Go.RowKit

theorem allP_iff : ∀ {l : List Cnd} {q : Prop}, allP l q ↔ AllP l ∧ q
  | [], q => by simp [allP, AllP]
  | p :: l, q => by rw [allP, AllP_cons, allP_iff (l := l), and_assoc]

section
variable {P : Program} {w0 : Base} {w : World} {n0 : Nat} {G0 G : Gh} {s : St} {a : Act} {o : Oper} {Q : Exit → Act → World → Prop} {tbl : FuncId → List A → List C}

theorem SR.ev (h : SR w0 n0 G0 G s a w) (x : Operand) : VR G (evT s.T (opd x)) (a.eval x) := by
  cases x with
  | tmp t =>
    simp only [opd, evT, Act.eval]
    by_cases ht : t < s.T.length
    · have h2 : t < a.tmps.size := by rw [h.size]; exact ht
      simp [List.getD, ht, h2]
      exact h.val t ht h2
    · simp [List.getD, ht]; exact .u _
  | const v => exact VR_toA G v
  | func f => exact .fn f [] #[] rfl fun i h1 => by simp at h1
  | global g => exact .u _

theorem SR.tmp (h : SR w0 n0 G0 G s a w) (t : Nat) : VR G (s.T.getD t .u) (a.tmps.getD t undef) := h.ev (.tmp t)

theorem put_defers (a : Act) (d : Option Tmp) (v : Value) : (a.put d v).defers = a.defers := by cases d <;> rfl

/-- A step: a value is put, the heap and the ghost go on. -/
theorem SR.step {w' : World} {G' : Gh} {H' : List O} {v : A} {val : Value} (h : SR w0 n0 G0 G s a w) (d : Option Nat) (hH : HR w0 G' H' w') (hLe : Gh.Le w0.keeps G G') (hv : VR G' v val) (hl : s.H.length ≤ H'.length)
    (hfr : ∀ i, G'.al i = true → G.al i = true ∨ n0 ≤ i) : SR w0 n0 G0 G' ⟨putT s.T d v, H'⟩ (a.put d val) w' := by
  refine ⟨?_, ?_, hH, by rw [put_defers]; exact h.df, h.le.trans hLe, h.al0, fun i hi => ?_, Nat.le_trans h.n0 hl⟩
  · cases d with
    | none => exact h.size
    | some d => simp [Act.put, putT, h.size]
  · cases d with
    | none => exact fun t h1 h2 => (h.val t h1 h2).mono hLe
    | some d =>
      intro t h1 h2
      have h1' : t < s.T.length := by simpa [putT] using h1
      have h3 : t < a.tmps.size := by rw [h.size]; exact h1'
      have e : (a.put (some d) val).tmps[t] = if d = t then val else a.tmps[t] := by simp [Act.put, Array.getElem_setIfInBounds, h3]
      have e2 : (putT s.T (some d) v)[t] = if d = t then v else s.T[t] := by simp [putT, List.getElem_set]
      rw [e]
      show VR G' (putT s.T (some d) v)[t] _
      rw [e2]
      split
      · exact hv
      · exact (h.val t h1' h3).mono hLe
  · rcases hfr i hi with h1 | h1
    · exact h.fr i h1
    · exact .inr h1

/-- Is it done? What the guard says, and what is known of it. -/
theorem guard_wanted {ops : Array Oper} {g : Nat} {want γ : Bool} {j : Nat} (hS : SR w0 n0 G0 G s a w) (hg : o.guard = some (j, want)) (hd : (ops[j]?).bind (·.dst) = some g)
    (hγ : guardOf (stdE P tbl) (s.T.getD g .u) want = some γ) : Region.wanted o (yielded ops a.tmps) = γ := by
  have hv : VR G (s.T.getD g .u) (a.tmps.getD g undef) := hS.tmp g
  have key : ∀ b, a.tmps.getD g undef = .bool b → a.tmps[g]? = some (.bool b) := by
    intro b e
    by_cases hlt : g < a.tmps.size
    · simp [hlt] at e ⊢; exact e
    · simp [hlt, undef] at e
  have key0 : a.tmps.getD g undef = .tuple #[] → ∀ b, a.tmps[g]? ≠ some (.bool b) := by
    intro e b e2
    simp [e2] at e
  unfold guardOf at hγ
  split at hγ
  · rename_i b e
    rw [e] at hv
    cases hγ
    simp only [Region.wanted, hg, yielded, hd, Option.bind_some, key b hv.bool]
    cases want <;> cases b <;> rfl
  · rename_i b' b e
    rw [e] at hv
    cases hγ
    cases hv with
    | wh _ _ _ h1 h2 =>
      cases b' with
      | true =>
        simp only [Region.wanted, hg, yielded, hd, Option.bind_some, key b (h1 rfl).bool]
        cases want <;> cases b <;> rfl
      | false =>
        have h0 := key0 (h2 rfl)
        simp only [Region.wanted, hg, yielded, hd, Option.bind_some]
        have : (stdE P tbl).and false (if want then b else (stdE P tbl).not b) = false := rfl
        rw [this]
        cases ht : a.tmps[g]? with
        | none => rfl
        | some x =>
          cases x with
          | bool b => exact absurd ht (h0 b)
          | _ => rfl
  · cases hγ

theorem allStrip_mem {γ : Bool} {ev : Opd → A} : ∀ {l : List Opd}, AllP (allStrip γ ev l) → ∀ x ∈ l, AllP (stripOk γ (ev x))
  | [], _, x, hx => by cases hx
  | y :: l, h, x, hx => by
    rw [allStrip, AllP_append] at h
    rcases List.mem_cons.1 hx with rfl | hx
    · exact h.1
    · exact allStrip_mem h.2 x hx

theorem impL_get {γ : Bool} : ∀ {p : List Cnd}, AllP (impL γ p) → γ = true → AllP p
  | [], _, _ => by simp
  | x :: xs, h, g => by
    rw [impL, AllP_cons] at h
    rw [AllP_cons]
    exact ⟨h.1.get g, impL_get h.2 g⟩

theorem ropOf_cases {D : Opts} {ops : Array Oper} {sl : Nat} {r : ROper} (h : ropOf P D ops sl o = some r) :
    r.dst = o.dst ∧ (rv P D sl o = some r.op ∨ r.op = .v .bad) ∧
    ((o.guard = none ∧ r.guard = none) ∨ ∃ j want g, o.guard = some (j, want) ∧ (ops[j]?).bind (·.dst) = some g ∧ r.guard = some (g, want) ∧ r.uses = o.op.operands.toList.map opd ∧ (r.op.quiet || r.op.isH) = true) := by
  simp only [ropOf, Option.map_eq_some_iff] at h
  obtain ⟨gd, hg, rfl⟩ := h
  refine ⟨rfl, ?_, ?_⟩
  · show rv P D sl o = some (if _ then _ else _) ∨ (if _ then _ else _) = _
    split
    · exact .inr rfl
    · cases rv P D sl o with
      | none => exact .inr rfl
      | some x => exact .inl rfl
  · unfold guardR at hg
    split at hg
    · rename_i hgo; cases hg; exact .inl ⟨hgo, rfl⟩
    · rename_i j want hgo
      simp only [Option.map_eq_some_iff] at hg
      obtain ⟨g, hg, rfl⟩ := hg
      refine .inr ⟨j, want, g, hgo, hg, rfl, by simp [hgo], ?_⟩
      show (ROp.quiet (if _ then _ else _) || ROp.isH (if _ then _ else _)) = true
      split
      · rfl
      · rename_i hq
        simp only [hgo, Option.isSome_some, Bool.true_and, Bool.not_eq_true', Bool.not_eq_false] at hq
        simpa using hq

set_option maxHeartbeats 2000000 in
theorem rv_pick {D : Opts} {sl : Nat} {c x y : Opd} (h : rv P D sl o = some (.v (.pick c x y))) : ∃ c' x' y', o.op = .pick c' x' y' ∧ c = opd c' ∧ x = opd x' ∧ y = opd y' := by
  unfold rv at h
  split at h
  all_goals (first
    | (exfalso
       repeat' (first | (cases h; done) | (obtain ⟨_, _, h⟩ := h) | (split at h) | (simp only [Option.bind_eq_some_iff, Option.map_eq_some_iff] at h))
       done)
    | skip)
  rename_i c' x' y' ho
  cases h
  exact ⟨c', x', y', ho, rfl, rfl, rfl⟩
theorem quiet_slot {q : VOp} (h : q.quiet = true) : q.slot? = none := by
  cases q <;> first | rfl | (simp [VOp.quiet] at h)

/-- A value operation is done. -/
theorem oEff_sound {ops : Array Oper} {D : Opts} {sl b : Nat} {r : ROper} {q : VOp} (hr : ropOf P D ops sl o = some r) (hq : r.op = .v q) (hS : SR w0 n0 G0 G s a w) (hb : n0 ≤ b)
    (hn : ∀ k, q.slot? = some k → b + k < s.H.length ∧ G.al (b + k) = false) {e : Rs} (he : oEff (stdE P tbl) b r q s = some e) (hp : AllP e.p) {next : Act → World → Prop}
    (hnext : ∀ G' a' w', SR w0 n0 G0 G' ⟨putT s.T r.dst e.v, putW s.H e.ws⟩ a' w' → (∀ i, G'.al i = true → G.al i = true ∨ ∃ k, q.slot? = some k ∧ i = b + k) → next a' w') :
    if Region.wanted o (yielded ops a.tmps) then o.wp P a w next Q else next (a.put o.dst undef) w := by
  obtain ⟨hd, hrv, hg⟩ := ropOf_cases hr
  rw [hq] at hrv
  rw [hd] at hnext
  have hbad : ∀ {ev : Opd → A}, AllP (vE (stdE P tbl) ev s.H b q).p → rv P D sl o = some (.v q) := fun {ev} hp => by
    rcases hrv with h | h
    · exact h
    · cases h; exact (no_stuck hp).elim
  have fin : ∀ {v : A} {ws : List (Nat × O)} (v' : A) (hv' : ∀ {G' : Gh} {val : Value}, VR G' v val → VR G' v' val), (∀ G' a' w', SR w0 n0 G0 G' ⟨putT s.T o.dst v', putW s.H ws⟩ a' w' → (∀ i, G'.al i = true → G.al i = true ∨ ∃ k, q.slot? = some k ∧ i = b + k) → next a' w') →
      ∀ a' w', AfterV w0 G s.H a o.dst v ws (q.slot?.map (b + ·)) a' w' → next a' w' := by
    rintro v ws v' hv' hnext a' w' ⟨val, G', rfl, hv, hH, hle, hal⟩
    have hal' : ∀ i, G'.al i = true → G.al i = true ∨ ∃ k, q.slot? = some k ∧ i = b + k := fun i hi => by
      rcases hal i hi with h1 | h1
      · exact .inl h1
      · rw [Option.map_eq_some_iff] at h1
        obtain ⟨k, e1, e2⟩ := h1
        exact .inr ⟨k, e1, e2.symm⟩
    refine hnext G' _ _ (hS.step _ hH hle (hv' hv) (by rw [putW_length]; exact Nat.le_refl _) fun i hi => ?_) hal'
    rcases hal' i hi with h1 | ⟨k, _, rfl⟩
    · exact .inl h1
    · exact .inr (Nat.le_trans hb (Nat.le_add_right _ _))
  rcases hg with ⟨hg, hg'⟩ | ⟨j, want, g, hg, hdj, hg', huses, hquiet⟩
  · have hw : Region.wanted o (yielded ops a.tmps) = true := by simp [Region.wanted, hg]
    rw [hw, if_pos rfl]
    simp only [oEff, hg', Option.some.injEq] at he
    subst he
    exact Oper.wp_mono (fin _ (fun h => h) hnext) (vE_sound (hbad hp) hS.hr (fun x _ => hS.ev x) hn hp)
  · simp only [oEff, hg'] at he
    split at he
    · rename_i γ hγ
      rw [guard_wanted (o := o) hS hg hdj hγ]
      have hno : γ = false → e.ws = [] → (∃ v, e.v = .wh γ v) → next (a.put o.dst undef) w := fun hγ hws hv => by
        obtain ⟨v, hv⟩ := hv
        subst hγ
        have := hnext G (a.put o.dst undef) w
        rw [hws, hv] at this
        exact this (hS.step _ hS.hr (Gh.Le.refl _ _) (.wh _ _ _ (fun e' => by cases e') fun _ => rfl) (Nat.le_refl _) fun i hi => .inl hi) fun i hi => .inl hi
      rw [hq] at hquiet
      replace hquiet : q.quiet = true := by simpa [ROp.quiet, ROp.isH] using hquiet
      split at he
      · rename_i c x y
        cases he
        cases γ with
        | false => rw [if_neg (by simp)]; exact hno rfl rfl ⟨_, rfl⟩
        | true =>
          rw [if_pos rfl]
          rw [AllP_append] at hp
          have hpk := impL_get hp.2 rfl
          rcases hrv with hrv | hrv
          · have hops : ∃ c' x' y', o.op = .pick c' x' y' ∧ c = opd c' ∧ x = opd x' ∧ y = opd y' := rv_pick hrv
            obtain ⟨c', x', y', ho, rfl, rfl, rfl⟩ := hops
            obtain ⟨_, val, hrun, hvr⟩ := pick_sound (P := P) (w := w) (ρ := a.eval) ho (strip_VR (hS.ev c') hp.1 rfl) (hS.ev x') (hS.ev y') hpk
            refine wp_of_value hrun (hnext G _ _ (hS.step _ hS.hr (Gh.Le.refl _ _) (.wh _ _ _ (fun _ => hvr) fun e' => by cases e') (Nat.le_refl _) fun i hi => .inl hi) fun i hi => .inl hi)
          · cases hrv
      · cases he
        rw [AllP_append] at hp
        cases γ with
        | false => rw [if_neg (by simp)]; exact hno rfl rfl ⟨_, rfl⟩
        | true =>
          rw [if_pos rfl]
          have hs := quiet_slot hquiet
          have hsound := vE_sound (Q := Q) (ev := fun x => strip (evT s.T x)) (hbad (impL_get hp.2 rfl)) hS.hr (fun x hx => strip_VR (hS.ev x) (allStrip_mem hp.1 _ (by rw [huses]; exact List.mem_map.2 ⟨x, hx, rfl⟩)) rfl)
            (fun k hk => by rw [hs] at hk; cases hk) (impL_get hp.2 rfl)
          have hws : (vE (stdE P tbl) (fun x => strip (evT s.T x)) s.H b q).ws = [] := quiet_ws hquiet
          rw [hws] at hsound
          exact Oper.wp_mono (fin _ (fun h => .wh _ _ _ (fun _ => h) fun e' => by cases e') hnext) hsound
    · cases he
end
end Go.Eng

/- An abstract machine over plain data, part U: an operation looks at nothing but its operands and the objects that they name. -/
namespace Go.Eng
open Go.RowKit

def AgreeOn (ids : List Nat) (H H' : List O) : Prop := ∀ id ∈ ids, H[id]? = H'[id]?
theorem AgreeOn.left {a b : List Nat} {H H' : List O} (h : AgreeOn (a ++ b) H H') : AgreeOn a H H' := fun i hi => h i (List.mem_append_left _ hi)
theorem AgreeOn.right {a b : List Nat} {H H' : List O} (h : AgreeOn (a ++ b) H H') : AgreeOn b H H' := fun i hi => h i (List.mem_append_right _ hi)
theorem AgreeOn.put {ids : List Nat} : ∀ (ws : List (Nat × O)) {H H' : List O}, AgreeOn ids H H' → AgreeOn ids (putW H ws) (putW H' ws)
  | [], H, H', h => h
  | x :: ws, H, H', h => AgreeOn.put ws fun id hid => by
    have e := h id hid
    by_cases hx : x.1 = id
    · subst hx
      have e1 : (x.1 < H.length) = (x.1 < H'.length) := by
        apply propext
        constructor
        · intro h1
          rw [List.getElem?_eq_getElem h1] at e
          exact lt_of_get e.symm
        · intro h1
          rw [List.getElem?_eq_getElem h1] at e
          exact lt_of_get e
      rw [List.getElem?_set, List.getElem?_set]
      simp only [if_true, e1]
    · rw [List.getElem?_set_ne hx, List.getElem?_set_ne hx]; exact e

section
variable (E : Env) {H H' : List O}

theorem mapOf_congr {id : Nat} (h : H[id]? = H'[id]?) : mapOf H id = mapOf H' id := by unfold mapOf; rw [h]
theorem arrOf_congr {id : Nat} (h : H[id]? = H'[id]?) : arrOf H id = arrOf H' id := by unfold arrOf; rw [h]
theorem arrX_congr {id : Nat} (h : H[id]? = H'[id]?) : arrX H id = arrX H' id := by unfold arrX; rw [h]
theorem frz1_congr {id : Nat} (h : H[id]? = H'[id]?) : frz1 H id = frz1 H' id := by unfold frz1; rw [h]

mutual
theorem frzA_congr : ∀ (a : A), AgreeOn a.ids H H' → frzA H a = frzA H' a
  | .gr id, h => frz1_congr (h id (by simp [A.ids]))
  | .own id _ _, h => frz1_congr (h id (by simp [A.ids]))
  | .ptr id _, h => frz1_congr (h id (by simp [A.ids]))
  | .agg l, h => by simp only [frzA]; exact frzL_congr l (by simpa [A.ids] using h)
  | .fn _ l, h => by simp only [frzA]; exact frzL_congr l (by simpa [A.ids] using h)
  | .c _, _ => by simp [frzA]
  | .u, _ => by simp [frzA]
  | .wh _ _, _ => by simp [frzA]
  | .eptr _ _ _, _ => by simp [frzA]
  | .el _ _ _ _, _ => by simp [frzA]
  | .np, _ => by simp [frzA]
  | .map id, h => frz1_congr (h id (by simp [A.ids]))
  | .nm, _ => by simp [frzA]
  | .pin _ _, _ => by simp [frzA]
  | .nf, _ => by simp [frzA]
  | .tup _, _ => by simp [frzA]
theorem frzL_congr : ∀ (l : List A), AgreeOn (A.idsL l) H H' → frzL H l = frzL H' l
  | [], _ => rfl
  | a :: l, h => by
    simp only [A.idsL] at h
    simp only [frzL, frzA_congr a h.left, frzL_congr l h.right]
end

mutual
theorem dat_congr : ∀ (a : A), AgreeOn a.ids H H' → dat E H a = dat E H' a
  | .gr id, h => by simp only [dat, h id (by simp [A.ids])]
  | .own id _ _, h => by simp only [dat, h id (by simp [A.ids])]
  | .ptr id _, h => by simp only [dat, h id (by simp [A.ids])]
  | .agg l, h => by simp only [dat]; rw [datL_congr l (by simpa [A.ids] using h)]
  | .fn _ l, h => by simp only [dat]; rw [datL_congr l (by simpa [A.ids] using h)]
  | .c _, _ => by simp [dat]
  | .u, _ => by simp [dat]
  | .wh _ _, _ => by simp [dat]
  | .eptr _ _ _, _ => by simp [dat]
  | .el _ _ _ _, _ => by simp [dat]
  | .np, _ => by simp [dat]
  | .map id, h => by simp only [dat, h id (by simp [A.ids])]
  | .nm, _ => by simp [dat]
  | .pin _ _, _ => by simp [dat]
  | .nf, _ => by simp [dat]
  | .tup _, _ => by simp [dat]
theorem datL_congr : ∀ (l : List A), AgreeOn (A.idsL l) H H' → datL E H l = datL E H' l
  | [], _ => rfl
  | a :: l, h => by
    simp only [A.idsL] at h
    simp only [datL, dat_congr a h.left, datL_congr l h.right]
end

theorem cellsOf_ids {a : A} (h : AgreeOn a.ids H H') : AgreeOn (A.idsL (cellsOf a)) H H' := by
  unfold cellsOf
  split
  · simpa [A.ids] using h
  · simpa [A.idsL] using h

theorem idsL_append : ∀ (l l' : List A), A.idsL (l ++ l') = A.idsL l ++ A.idsL l'
  | [], l' => rfl
  | a :: l, l' => by simp [A.idsL, idsL_append l l']

theorem flat_ids : ∀ (l : List A), AgreeOn (A.idsL l) H H' → AgreeOn (A.idsL (l.flatMap cellsOf)) H H'
  | [], h => h
  | a :: l, h => by
    simp only [A.idsL] at h
    rw [List.flatMap_cons, idsL_append]
    intro i hi
    rcases List.mem_append.1 hi with hi | hi
    · exact cellsOf_ids h.left i hi
    · exact flat_ids l h.right i hi

theorem asRows_congr (lay : List LK) : ∀ (l : List A), AgreeOn (A.idsL l) H H' → asRows E H lay l = asRows E H' lay l
  | [], _ => rfl
  | a :: l, h => by
    simp only [A.idsL] at h
    simp only [asRows, datL_congr E _ (cellsOf_ids h.left), asRows_congr lay l h.right]

theorem ldE_congr {x : A} (h : AgreeOn x.ids H H') : ldE E H x = ldE E H' x := by
  unfold ldE
  split
  · rfl
  · rw [h _ (by simp [A.ids])]; try rfl
  · rw [arrOf_congr (h _ (by simp [A.ids]))]
  · rfl
theorem ldaE_congr {n : Nat} {x : A} (h : AgreeOn x.ids H H') : ldaE E H n x = ldaE E H' n x := by
  unfold ldaE
  split
  · rfl
  · rw [h _ (by simp [A.ids])]; try rfl
  · rw [arrOf_congr (h _ (by simp [A.ids]))]
  · rfl
theorem iaE_congr {sz : Nat} {x i : A} (h : AgreeOn x.ids H H') : iaE E H sz x i = iaE E H' sz x i := by
  unfold iaE
  split
  · rfl
  · rw [arrOf_congr (h _ (by simp [A.ids]))]
  · rw [arrOf_congr (h _ (by simp [A.ids]))]
  · rfl
theorem slsE_congr {sz : Nat} {ev ev' : Opd → A} {x : A} {lo hi : Option Opd} (h : AgreeOn x.ids H H') (hlo : ∀ y, lo = some y → ev y = ev' y) (hhi : ∀ y, hi = some y → ev y = ev' y) :
    slsE E ev H sz x lo hi = slsE E ev' H' sz x lo hi := by
  have b1 : ∀ d, bnd ev d lo = bnd ev' d lo := fun d => by cases lo with | none => rfl | some y => simp only [bnd, hlo y rfl]
  have b2 : ∀ d, bnd ev d hi = bnd ev' d hi := fun d => by cases hi with | none => rfl | some y => simp only [bnd, hhi y rfl]
  unfold slsE
  split
  · rw [b1, b2]; try rfl
  · rw [b1, b2]; try rfl
  · rw [arrOf_congr (h _ (by simp [A.ids]))]; simp only [b1, b2]; try rfl
  · rw [arrOf_congr (h _ (by simp [A.ids]))]; simp only [b1, b2]; try rfl
  · rfl
theorem lenOwn_congr {x : A} (h : AgreeOn x.ids H H') : lenOwn E H x = lenOwn E H' x := by
  unfold lenOwn
  split
  · rw [arrOf_congr (h _ (by simp [A.ids]))]
  · rfl
  · rfl
theorem sl3E_congr {ev ev' : Opd → A} {x : A} {lo : Option Opd} {hi mx : Opd} (h : AgreeOn x.ids H H') (hlo : ∀ y, lo = some y → ev y = ev' y) (hhi : ev hi = ev' hi) (hmx : ev mx = ev' mx) :
    sl3E E ev H x lo hi mx = sl3E E ev' H' x lo hi mx := by
  have b1 : ∀ d, bnd ev d lo = bnd ev' d lo := fun d => by cases lo with | none => rfl | some y => simp only [bnd, hlo y rfl]
  have b2 : ∀ d, bnd ev d (some hi) = bnd ev' d (some hi) := fun d => by simp only [bnd, hhi]
  have b3 : ∀ d, bnd ev d (some mx) = bnd ev' d (some mx) := fun d => by simp only [bnd, hmx]
  unfold sl3E
  rw [lenOwn_congr E h, b1, b2, b3]
theorem slxE_congr {sz : Nat} {ev ev' : Opd → A} {x : A} {lo hi : Option Opd} (h : AgreeOn x.ids H H') (hlo : ∀ y, lo = some y → ev y = ev' y) (hhi : ∀ y, hi = some y → ev y = ev' y) :
    slxE E ev H sz x lo hi = slxE E ev' H' sz x lo hi := by
  have b1 : ∀ d, bnd ev d lo = bnd ev' d lo := fun d => by cases lo with | none => rfl | some y => simp only [bnd, hlo y rfl]
  have b2 : ∀ d, bnd ev d hi = bnd ev' d hi := fun d => by cases hi with | none => rfl | some y => simp only [bnd, hhi y rfl]
  unfold slxE
  split
  · rw [arrOf_congr (h _ (by simp [A.ids]))]; simp only [b1, b2]; try rfl
  · rw [arrX_congr (h _ (by simp [A.ids]))]; simp only [b1, b2]; try rfl
  · rfl
theorem sstE_congr {ev ev' : Opd → A} {x : A} {lo hi : Option Opd} (hlo : ∀ y, lo = some y → ev y = ev' y) (hhi : ∀ y, hi = some y → ev y = ev' y) :
    sstE E ev x lo hi = sstE E ev' x lo hi := by
  have b1 : ∀ d, bnd ev d lo = bnd ev' d lo := fun d => by cases lo with | none => rfl | some y => simp only [bnd, hlo y rfl]
  have b2 : ∀ d, bnd ev d hi = bnd ev' d hi := fun d => by cases hi with | none => rfl | some y => simp only [bnd, hhi y rfl]
  unfold sstE
  split
  · simp only [b1, b2]; try rfl
  · rfl
theorem foldInts_congr (f : Int → Int → Int) {ev ev' : Opd → A} (k : IntKind) : ∀ (ys : List Opd) (a : Int), (∀ y ∈ ys, ev y = ev' y) → foldInts f ev k a ys = foldInts f ev' k a ys
  | [], _, _ => rfl
  | y :: ys, a, h => by
    simp only [foldInts, h y (by simp)]
    split
    · exact foldInts_congr f k ys _ fun z hz => h z (by simp [hz])
    · rfl
theorem srcE_congr {lay : List LK} {y : A} (h : AgreeOn y.ids H H') : srcE E H lay y = srcE E H' lay y := by
  unfold srcE
  split
  · rfl
  · rfl
  · rw [arrOf_congr (h _ (by simp [A.ids]))]
  · rw [arrOf_congr (h _ (by simp [A.ids]))]
  · rfl
theorem appE_congr {b sl : Nat} {T : TypeId} {lay : List LK} {bound : Int} {x y : A} (hx : AgreeOn x.ids H H') (hy : AgreeOn y.ids H H') : appE E H b sl T lay bound x y = appE E H' b sl T lay bound x y := by
  unfold appE
  rw [srcE_congr E hy]
  split
  · rfl
  · split
    · rfl
    · rw [hx _ (by simp [A.ids])]; try rfl
    · rw [hx _ (by simp [A.ids])]; try rfl
    · rfl
theorem apxE_congr {T : TypeId} {lay : List LK} {x y : A} (hx : AgreeOn x.ids H H') (hy : AgreeOn y.ids H H') : apxE E H T lay x y = apxE E H' T lay x y := by
  unfold apxE
  rw [srcE_congr E hy]
  split
  · rfl
  · split
    · rw [hx _ (by simp [A.ids])]; try rfl
    · rfl
theorem AgreeOn.sub {a b : List Nat} {H H' : List O} (h : AgreeOn a H H') (hs : ∀ x ∈ b, x ∈ a) : AgreeOn b H H' := fun i hi => h i (hs i hi)
mutual
theorem ptrsA_ids : ∀ (a : A), ∀ x ∈ ptrsA a, x ∈ a.ids
  | .ptr id _, x, h => by simpa [ptrsA, A.ids] using h
  | .agg l, x, h => by simp only [ptrsA] at h; simp only [A.ids]; exact ptrsL_ids l x h
  | .fn _ l, x, h => by simp only [ptrsA] at h; simp only [A.ids]; exact ptrsL_ids l x h
  | .c _, x, h => by simp [ptrsA] at h
  | .u, x, h => by simp [ptrsA] at h
  | .wh _ _, x, h => by simp [ptrsA] at h
  | .own _ _ _, x, h => by simp [ptrsA] at h
  | .gr _, x, h => by simp [ptrsA] at h
  | .eptr _ _ _, x, h => by simp [ptrsA] at h
  | .el _ _ _ _, x, h => by simp [ptrsA] at h
  | .np, x, h => by simp [ptrsA] at h
  | .map _, x, h => by simp [ptrsA] at h
  | .nm, x, h => by simp [ptrsA] at h
  | .pin _ _, x, h => by simp [ptrsA] at h
  | .nf, x, h => by simp [ptrsA] at h
  | .tup _, x, h => by simp [ptrsA] at h
theorem ptrsL_ids : ∀ (l : List A), ∀ x ∈ ptrsL l, x ∈ A.idsL l
  | [], x, h => by simp [ptrsL] at h
  | a :: l, x, h => by
    simp only [ptrsL, List.mem_append] at h
    simp only [A.idsL, List.mem_append]
    exact h.imp (ptrsA_ids a x) (ptrsL_ids l x)
end
theorem boxIds_mem {H : List O} {id : Nat} {T : TypeId} {cs : List A} (hid : H[id]? = some (.box T cs)) : ∀ {ids : List Nat}, id ∈ ids → ∀ x ∈ A.idsL cs, x ∈ boxIds H ids
  | i :: ids, h, x, hx => by
    simp only [boxIds, List.mem_append]
    rcases List.mem_cons.1 h with rfl | h
    · left; rw [hid]; exact hx
    · right; exact boxIds_mem hid h x hx
theorem frzB_congr {l : List Nat} (h1 : AgreeOn l H H') (h2 : AgreeOn (boxIds H l) H H') : frzB H l = frzB H' l := by
  induction l with
  | nil => rfl
  | cons id ids ih =>
    have hid := h1 id (by simp)
    simp only [frzB, boxIds] at h2 ⊢
    rw [ih (fun i hi => h1 i (by simp [hi])) h2.right, ← hid]
    congr 1
    have h3 := h2.left
    cases e : H[id]? with
    | none => rfl
    | some o => cases o with
      | box T cs => rw [e] at h3; exact frzL_congr cs h3
      | _ => rfl
theorem datT1_congr {a : A} (h : AgreeOn a.ids H H') : datT1 E H a = datT1 E H' a := by unfold datT1; rw [dat_congr E a h]
theorem idsL_mem {a : A} : ∀ {l : List A}, a ∈ l → ∀ x ∈ a.ids, x ∈ A.idsL l
  | b :: l, h, x, hx => by
    simp only [A.idsL, List.mem_append]
    rcases List.mem_cons.1 h with rfl | h
    · exact .inl hx
    · exact .inr (idsL_mem h x hx)
theorem boxD_congr {l : List Nat} (h1 : AgreeOn l H H') (h2 : AgreeOn (boxIds H l) H H') : boxD E H l = boxD E H' l := by
  induction l with
  | nil => rfl
  | cons id ids ih =>
    have hid := h1 id (by simp)
    simp only [boxD, boxIds] at h2 ⊢
    rw [ih (fun i hi => h1 i (by simp [hi])) h2.right, ← hid]
    congr 1
    have h3 := h2.left
    cases e : H[id]? with
    | none => rfl
    | some o => cases o with
      | box T cs =>
        rw [e] at h3
        have : cs.map (datT1 E H) = cs.map (datT1 E H') := List.map_congr_left fun a ha => datT1_congr E (h3.sub fun x hx => idsL_mem ha x hx)
        simp only [this]
      | _ => rfl
/-- No variable. -/
def NoBox : O → Prop
  | .box _ _ => False
  | _ => True
/-- What was a variable ahead of the freezing of arrays is the same behind it. -/
theorem frz1_box {H : List O} {id j : Nat} {o : O} (h : frz1 H j = [(id, o)]) : id = j ∧ NoBox o := by
  unfold frz1 at h
  split at h
  · cases h; exact ⟨rfl, trivial⟩
  · split at h
    · cases h; exact ⟨rfl, trivial⟩
    · cases h
  · cases h; exact ⟨rfl, trivial⟩
  · cases h
theorem putW_frz {H0 : List O} : ∀ {ws : List (Nat × O)} {H : List O}, (∀ x ∈ ws, NoBox x.2) → ∀ (id : Nat) (T : TypeId) (cs : List A), (putW H ws)[id]? = some (.box T cs) → H[id]? = some (.box T cs)
  | [], H, _, id, T, cs, h => h
  | x :: ws, H, hw, id, T, cs, h => by
    have := putW_frz (H0 := H0) (H := H.set x.1 x.2) (ws := ws) (fun y hy => hw y (by simp [hy])) id T cs h
    by_cases hx : x.1 = id
    · subst hx
      have e := hw x (by simp)
      have hlt := lt_of_get this
      rw [List.length_set] at hlt
      rw [List.getElem?_set_self hlt] at this
      rw [Option.some.inj this] at e
      exact e.elim
    · rwa [List.getElem?_set_ne hx] at this
theorem FrzW.frz {H : List O} {ws : List (Nat × O)} (h : FrzW H ws) : ∀ x ∈ ws, NoBox x.2 := fun x hx => (frz1_box (h x hx)).2
theorem boxIds_put {H : List O} {ws : List (Nat × O)} (h : ∀ x ∈ ws, NoBox x.2) : ∀ {ids : List Nat}, ∀ x ∈ boxIds (putW H ws) ids, x ∈ boxIds H ids
  | [], x, hx => by simp [boxIds] at hx
  | id :: ids, x, hx => by
    simp only [boxIds, List.mem_append] at hx ⊢
    rcases hx with hx | hx
    · left
      split at hx
      · rename_i T cs e
        rw [putW_frz (H0 := H) h id T cs e]; exact hx
      · cases hx
    · exact .inr (boxIds_put h x hx)

theorem boxIds_sub {H : List O} : ∀ {l m : List Nat}, (∀ y ∈ l, y ∈ m) → ∀ x ∈ boxIds H l, x ∈ boxIds H m
  | [], m, _, x, hx => by simp [boxIds] at hx
  | id :: l, m, hm, x, hx => by
    simp only [boxIds, List.mem_append] at hx
    rcases hx with hx | hx
    · split at hx
      · rename_i T cs e; exact boxIds_mem e (hm id (by simp)) x hx
      · cases hx
    · exact boxIds_sub (fun y hy => hm y (by simp [hy])) x hx
theorem detE_congr {f : FuncId} {rty : List (Bool × List LK)} {as : List A} (h : AgreeOn (A.idsL as) H H') (hd : AgreeOn (boxIds H (A.idsL as)) H H') : detE E H f rty as = detE E H' f rty as := by
  have hp : AgreeOn (ptrsL as) H H' := h.sub (ptrsL_ids as)
  have hb : AgreeOn (boxIds H (ptrsL as)) H H' := hd.sub (boxIds_sub (ptrsL_ids as))
  have e1 : frzB H (ptrsL as) = frzB H' (ptrsL as) := frzB_congr hp hb
  have hp2 : AgreeOn (ptrsL as) (putW H (frzB H' (ptrsL as))) (putW H' (frzB H' (ptrsL as))) := hp.put _
  have hb2 : AgreeOn (boxIds (putW H (frzB H' (ptrsL as))) (ptrsL as)) (putW H (frzB H' (ptrsL as))) (putW H' (frzB H' (ptrsL as))) :=
    (hb.put _).sub fun x hx => boxIds_put (by rw [← e1]; exact (frzB_W (ptrsL as)).frz) x hx
  have e2 := boxD_congr E hp2 hb2
  have h3 : AgreeOn (A.idsL as) (putW (putW H (frzB H' (ptrsL as))) (boxD E (putW H' (frzB H' (ptrsL as))) (ptrsL as))) (putW (putW H' (frzB H' (ptrsL as))) (boxD E (putW H' (frzB H' (ptrsL as))) (ptrsL as))) := (h.put _).put _
  have e3 : frzD E H as = frzD E H' as := by
    unfold frzD
    rw [e1, e2, frzL_congr as h3]
  unfold detE
  rw [e3, datL_congr E as (h.put _)]
theorem stE_congr {n : Nat} {x v : A} (hx : AgreeOn x.ids H H') (hv : AgreeOn v.ids H H') : stE E H n x v = stE E H' n x v := by
  unfold stE
  have h1 := cellsOf_ids hv
  rw [frzL_congr _ h1, datL_congr E _ (h1.put (frzL H' (cellsOf v)))]
  split
  · rfl
  · split
    · rw [hx _ (by simp [A.ids])]; try rfl
    · rw [hx.put (frzL H' (cellsOf v)) _ (by simp [A.ids])]; try rfl
    · rfl

theorem clrE_congr {lay : List LK} {zr : List C} {x : A} (hx : AgreeOn x.ids H H') : clrE E H lay zr x = clrE E H' lay zr x := by
  unfold clrE
  split
  · rfl
  · rw [hx _ (by simp [A.ids])]; try rfl
  · rw [hx _ (by simp [A.ids])]; try rfl
  · rfl

theorem fillA_congr {ev ev' : Opd → A} : ∀ (ps : List (Nat × Nat × Opd)) (z : List A), (∀ p ∈ ps, ev p.2.2 = ev' p.2.2) → fillA ev z ps = fillA ev' z ps
  | [], _, _ => rfl
  | (off, n, x) :: ps, z, h => by
    have := h (off, n, x) (by simp)
    simp only at this
    simp only [fillA, this]
    exact fillA_congr ps _ fun p hp => h p (by simp [hp])
theorem fillOk_congr {ev ev' : Opd → A} {n : Nat} : ∀ (ps : List (Nat × Nat × Opd)), (∀ p ∈ ps, ev p.2.2 = ev' p.2.2) → fillOk ev n ps = fillOk ev' n ps
  | [], _ => rfl
  | (off, k, x) :: ps, h => by
    have := h (off, k, x) (by simp)
    simp only at this
    simp only [fillOk, this]
    rw [fillOk_congr ps fun p hp => h p (by simp [hp])]

theorem vE_congr {ev ev' : Opd → A} {b : Nat} (q : VOp) (he : ∀ x ∈ q.opds, ev x = ev' x) (hS : AgreeOn (seenL H q.deep (A.idsL (q.opds.map ev))) H H') : vE E ev H b q = vE E ev' H' b q := by
  have hH : AgreeOn (A.idsL (q.opds.map ev)) H H' := hS.sub fun x hx => by
    unfold seenL
    split
    · exact List.mem_append_left _ hx
    · exact hx
  have hm : ∀ l : List Opd, (∀ x ∈ l, ev x = ev' x) → l.map ev = l.map ev' := fun l h => List.map_congr_left h
  have one : ∀ x y : Opd, A.idsL ([x, y].map ev) = (ev x).ids ++ (ev y).ids := fun x y => by simp [A.idsL]
  cases q with
  | build z ps =>
    simp only [vE]
    rw [fillA_congr ps z fun p hp => he _ (by simp only [VOp.opds, List.mem_map]; exact ⟨p, hp, rfl⟩), fillOk_congr ps fun p hp => he _ (by simp only [VOp.opds, List.mem_map]; exact ⟨p, hp, rfl⟩)]
  | ld x => simp only [vE]; rw [← he x (by simp [VOp.opds])]; exact ldE_congr E (by simpa [VOp.opds, A.idsL] using hH)
  | lda n x => simp only [vE]; rw [← he x (by simp [VOp.opds])]; exact ldaE_congr E (by simpa [VOp.opds, A.idsL] using hH)
  | ia sz x i =>
    simp only [VOp.opds, one] at hH
    simp only [vE]; rw [← he x (by simp [VOp.opds]), ← he i (by simp [VOp.opds])]; exact iaE_congr E hH.left
  | sls sz x lo hi =>
    simp only [vE]
    rw [← he x (by simp [VOp.opds])]
    refine slsE_congr E ?_ (fun y hy => he y (by simp [VOp.opds, hy])) fun y hy => he y (by simp [VOp.opds, hy])
    simp only [VOp.opds, List.map_cons, A.idsL] at hH
    exact hH.left
  | sl3 x lo hi mx =>
    simp only [vE]
    rw [← he x (by simp [VOp.opds])]
    refine sl3E_congr E ?_ (fun y hy => he y (by simp [VOp.opds, hy])) (he hi (by simp [VOp.opds])) (he mx (by simp [VOp.opds]))
    simp only [VOp.opds, List.map_cons, A.idsL] at hH
    exact hH.left
  | slx sz x lo hi =>
    simp only [vE]
    rw [← he x (by simp [VOp.opds])]
    refine slxE_congr E ?_ (fun y hy => he y (by simp [VOp.opds, hy])) fun y hy => he y (by simp [VOp.opds, hy])
    simp only [VOp.opds, List.map_cons, A.idsL] at hH
    exact hH.left
  | apx T lay x y =>
    simp only [VOp.opds, one] at hH
    simp only [vE]; rw [← he x (by simp [VOp.opds]), ← he y (by simp [VOp.opds])]; exact apxE_congr E hH.left hH.right
  | mkf f cs => simp only [vE]; rw [hm cs he]
  | lenS x =>
    simp only [vE]; rw [← he x (by simp [VOp.opds])]
    simp only [VOp.opds, List.map_cons, List.map_nil, A.idsL, List.append_nil] at hH
    split
    · rfl
    · rfl
    · rfl
    · rename_i id e; rw [e] at hH; rw [arrOf_congr (hH _ (by simp [A.ids]))]
    · rfl
  | lenM x =>
    simp only [vE]; rw [← he x (by simp [VOp.opds])]
    simp only [VOp.opds, List.map_cons, List.map_nil, A.idsL, List.append_nil] at hH
    split
    · rfl
    · rfl
    · rename_i id e; rw [e] at hH; rw [mapOf_congr (hH _ (by simp [A.ids]))]; try rfl
    · rfl
  | min x ys => simp only [vE]; rw [← he x (by simp [VOp.opds])]; split <;> first | rfl | exact foldInts_congr _ _ _ _ fun y hy => he y (by simp [VOp.opds, hy])
  | max x ys => simp only [vE]; rw [← he x (by simp [VOp.opds])]; split <;> first | rfl | exact foldInts_congr _ _ _ _ fun y hy => he y (by simp [VOp.opds, hy])
  | lkp z x k ok =>
    simp only [VOp.opds, one] at hH
    simp only [vE]; rw [← he x (by simp [VOp.opds]), ← he k (by simp [VOp.opds])]
    split
    · rfl
    · rfl
    · rename_i id kk n e1 e2; rw [e1] at hH; rw [mapOf_congr (hH _ (by simp [A.ids]))]; try rfl
    · rfl
  | lit lay ps => simp only [vE]; rw [← hm ps he, asRows_congr E lay _ (show AgreeOn (A.idsL (ps.map ev)) H H' from hH)]
  | det f rty xs => simp only [vE]; rw [← hm xs he]; exact detE_congr E hH (hS.sub fun x hx => List.mem_append_right _ hx)
  | detv rty x xs =>
    simp only [vE]; rw [← he x (by simp [VOp.opds]), ← hm xs fun y hy => he y (by simp [VOp.opds, hy])]
    split
    · rename_i f cap e
      simp only [VOp.opds, List.map_cons, A.idsL, e, A.ids] at hH
      have hids : ∀ i ∈ A.idsL (xs.map ev ++ cap), i ∈ A.idsL ((VOp.detv rty x xs).opds.map ev) := fun i hi => by
        simp only [VOp.opds, List.map_cons, A.idsL, e, A.ids]
        rw [idsL_append] at hi
        rcases List.mem_append.1 hi with hi | hi
        · exact List.mem_append_right _ hi
        · exact List.mem_append_left _ hi
      refine detE_congr E (fun i hi => ?_) (hS.sub fun i hi => List.mem_append_right _ (boxIds_sub hids i hi))
      have := hids i hi
      simp only [VOp.opds, List.map_cons, A.idsL, e, A.ids] at this
      exact hH i this
    · rfl
  | bsl sl T lay ps =>
    simp only [vE]
    have e1 : (ps.flatMap fun x => cellsOf (ev x)) = (ps.map ev).flatMap cellsOf := by rw [List.flatMap_map]
    have e2 : (ps.flatMap fun x => cellsOf (ev' x)) = (ps.map ev').flatMap cellsOf := by rw [List.flatMap_map]
    rw [e1, e2, ← hm ps he, frzL_congr _ (flat_ids _ (show AgreeOn (A.idsL (ps.map ev)) H H' from hH)), asRows_congr E lay _ ((show AgreeOn (A.idsL (ps.map ev)) H H' from hH).put _)]
  | st n x v =>
    simp only [VOp.opds, one] at hH
    simp only [vE]; rw [← he x (by simp [VOp.opds]), ← he v (by simp [VOp.opds])]; exact stE_congr E hH.left hH.right
  | mup x k v =>
    simp only [VOp.opds, List.map_cons, List.map_nil, A.idsL, List.append_nil] at hH
    simp only [vE]; rw [← he x (by simp [VOp.opds]), ← he k (by simp [VOp.opds]), ← he v (by simp [VOp.opds])]
    split
    · rename_i id kk n e1 e2
      have hid : AgreeOn [id] H H' := by rw [e1] at hH; exact hH.left
      have h1 := cellsOf_ids hH.right.right
      rw [frzL_congr _ h1, (hid.put (frzL H' (cellsOf (ev v)))) id (by simp), datL_congr E _ (h1.put (frzL H' (cellsOf (ev v))))]
    · rfl
  | del x k =>
    simp only [VOp.opds, one] at hH
    simp only [vE]; rw [← he x (by simp [VOp.opds]), ← he k (by simp [VOp.opds])]
    split
    · rename_i id kk n e1 e2; rw [e1] at hH; rw [hH _ (by simp [A.ids])]; try rfl
    · rfl
  | app sl T lay bound x y =>
    simp only [VOp.opds, one] at hH
    simp only [vE]; rw [← he x (by simp [VOp.opds]), ← he y (by simp [VOp.opds])]; exact appE_congr E hH.left hH.right
  | mv x => simp only [vE]; rw [he x (by simp [VOp.opds])]
  | appN sl T lay zr bound x y => simp only [vE]; rw [he x (by simp [VOp.opds]), he y (by simp [VOp.opds])]; try rfl
  | clr lay zr x => simp only [vE]; rw [← he x (by simp [VOp.opds])]; exact clrE_congr E (by simpa [VOp.opds, A.idsL] using hH)
  | capN x => simp only [vE]; rw [he x (by simp [VOp.opds])]; try rfl
  | bad => rfl
  | nc x => simp only [vE]; rw [he x (by simp [VOp.opds])]; try rfl
  | bin op x y => simp only [vE]; rw [he x (by simp [VOp.opds]), he y (by simp [VOp.opds])]
  | eqb neg x y => simp only [vE]; rw [he x (by simp [VOp.opds]), he y (by simp [VOp.opds])]; try rfl
  | eqs ls neg x y => simp only [vE]; rw [he x (by simp [VOp.opds]), he y (by simp [VOp.opds])]; try rfl
  | eqn kd neg x => simp only [vE]; rw [he x (by simp [VOp.opds])]; try rfl
  | un op x => simp only [vE]; rw [he x (by simp [VOp.opds])]; try rfl
  | cv k x => simp only [vE]; rw [he x (by simp [VOp.opds])]; try rfl
  | fa off x => simp only [vE]; rw [he x (by simp [VOp.opds])]
  | fd off n x => cases n <;> (simp only [vE]; rw [he x (by simp [VOp.opds])]; try rfl)
  | iaa len sz x i => simp only [vE]; rw [he x (by simp [VOp.opds]), he i (by simp [VOp.opds])]
  | ixa len sz r x i => simp only [vE]; rw [he x (by simp [VOp.opds]), he i (by simp [VOp.opds])]
  | sst x lo hi => simp only [vE]; rw [he x (by simp [VOp.opds])]; exact sstE_congr E (fun y hy => he y (by simp [VOp.opds, hy])) fun y hy => he y (by simp [VOp.opds, hy])
  | mkx sl T lay zr bound len cap => simp only [vE]; rw [he len (by simp [VOp.opds]), he cap (by simp [VOp.opds])]; try rfl
  | ixs x i => simp only [vE]; rw [he x (by simp [VOp.opds]), he i (by simp [VOp.opds])]; try rfl
  | ext x i => simp only [vE]; rw [he x (by simp [VOp.opds])]; try rfl
  | lenT x => simp only [vE]; rw [he x (by simp [VOp.opds])]; try rfl
  | pick c x y => simp only [vE]; rw [he x (by simp [VOp.opds]), he y (by simp [VOp.opds]), he c (by simp [VOp.opds])]
  | alloc sl T z => rfl
  | box sl T x => simp only [vE]; rw [he x (by simp [VOp.opds])]
  | mks sl T lay zr bound len cap => simp only [vE]; rw [he len (by simp [VOp.opds]), he cap (by simp [VOp.opds])]; try rfl
  | mkm sl kk vk => rfl

theorem strip_ids (a : A) : (strip a).ids = a.ids := by cases a <;> simp [strip, A.ids]
theorem strip_idsL : ∀ (l : List A), A.idsL (l.map strip) = A.idsL l
  | [] => rfl
  | a :: l => by simp [A.idsL, strip_ids, strip_idsL l]

theorem tmpsOf_mem {x : Opd} {l : List Opd} (h : x ∈ l) (t : Nat) (e : x = .t t) : t ∈ tmpsOf l := by
  subst e
  induction l with
  | nil => cases h
  | cons y l ih =>
    rcases List.mem_cons.1 h with h1 | h1
    · subst h1; simp [tmpsOf]
    · have h2 := ih h1
      cases y with
      | t n => simp only [tmpsOf, List.mem_cons]; exact .inr h2
      | k a => simp only [tmpsOf]; exact h2

/-- Both arrays, of the same kinds and as long. -/
def LenOn (ids : List Nat) (H H' : List O) : Prop := ∀ id ∈ ids, (arrOf H id).map (fun p => (p.1, p.2.length)) = (arrOf H' id).map fun p => (p.1, p.2.length)
theorem LenOn.left {a b : List Nat} {H H' : List O} (h : LenOn (a ++ b) H H') : LenOn a H H' := fun i hi => h i (List.mem_append_left _ hi)
theorem AgreeOn.len {ids : List Nat} {H H' : List O} (h : AgreeOn ids H H') : LenOn ids H H' := fun id hid => by rw [arrOf_congr (h id hid)]
def Agr (q : VOp) (ids : List Nat) (H H' : List O) : Prop := if q.lenOnly then LenOn ids H H' else AgreeOn ids H H'

section
variable {rs : FuncId → List A → Nat → C} {pk : FuncId → List (Bool × List LK) → List A → Prop}

theorem arr_cases {id : Nat} (h : (arrOf H id).map (fun p => (p.1, p.2.length)) = (arrOf H' id).map fun p => (p.1, p.2.length)) :
    (arrOf H id = none ∧ arrOf H' id = none) ∨ ∃ lay xs xs', arrOf H id = some (lay, xs) ∧ arrOf H' id = some (lay, xs') ∧ xs.length = xs'.length := by
  cases e : arrOf H id with
  | none => cases e' : arrOf H' id with
    | none => exact .inl ⟨rfl, rfl⟩
    | some p => rw [e, e'] at h; cases h
  | some p => cases e' : arrOf H' id with
    | none => rw [e, e'] at h; cases h
    | some p' =>
      rw [e, e'] at h
      simp at h
      obtain ⟨lay, xs⟩ := p
      obtain ⟨lay', xs'⟩ := p'
      simp at h
      obtain ⟨rfl, h⟩ := h
      exact .inr ⟨lay, xs, xs', rfl, rfl, h⟩

theorem vE_noread {ev ev' : Opd → A} {b : Nat} (q : VOp) (he : ∀ x ∈ q.opds, ev x = ev' x) (hr : q.reads = false) : vE (baseE rs pk) ev H b q = vE (baseE rs pk) ev' H' b q := by
  have h1 : vE (baseE rs pk) ev H b q = vE (baseE rs pk) ev H' b q := by
    cases q <;> first
      | rfl
      | (simp [VOp.reads] at hr; done)
      | (rename_i off n x; cases n <;> rfl)
  rw [h1]
  have h2 : ∀ (ids : List Nat), AgreeOn ids H' H' := fun _ _ _ => rfl
  exact vE_congr _ q he (h2 _)
theorem vE_agr {ev ev' : Opd → A} {b : Nat} (q : VOp) (he : ∀ x ∈ q.opds, ev x = ev' x) (hH : Agr q (if q.reads then seenL H q.deep (A.idsL (q.opds.map ev)) else []) H H') : vE (baseE rs pk) ev H b q = vE (baseE rs pk) ev' H' b q := by
  cases hrd : q.reads with
  | false => exact vE_noread q he hrd
  | true =>
  rw [hrd, if_pos rfl] at hH
  by_cases hl : q.lenOnly = true
  rotate_left
  · rw [Agr, if_neg hl] at hH
    exact vE_congr _ q he hH
  rw [Agr, if_pos hl] at hH
  have hdp : q.deep = false := by cases q <;> first | rfl | (simp [VOp.lenOnly] at hl; done)
  rw [hdp] at hH
  replace hH : LenOn (A.idsL (q.opds.map ev)) H H' := hH
  have hlen : ∀ {xs xs' : List (List C)}, xs.length = xs'.length → (baseE rs pk).len xs = (baseE rs pk).len xs' := fun {xs xs'} h => by show ((xs.length : Nat) : Int) = ((xs'.length : Nat) : Int); rw [h]
  cases q with
  | ia sz x i =>
    simp only [VOp.opds, List.map_cons, List.map_nil, A.idsL, List.append_nil] at hH
    simp only [vE]; rw [← he x (by simp [VOp.opds]), ← he i (by simp [VOp.opds])]
    have h1 := hH.left
    generalize ev x = a at *
    generalize ev i = c at *
    unfold iaE
    split
    · rfl
    · rename_i id k j
      rcases arr_cases (h1 id (by simp [A.ids])) with ⟨e, e'⟩ | ⟨lay, xs, xs', e, e', hh⟩
      · rw [e, e']
      · rw [e, e']; simp only [hlen hh]
    · rename_i id off len k j
      rcases arr_cases (h1 id (by simp [A.ids])) with ⟨e, e'⟩ | ⟨lay, xs, xs', e, e', hh⟩
      · rw [e, e']
      · rw [e, e']
    · rfl
  | lenS x =>
    simp only [VOp.opds, List.map_cons, List.map_nil, A.idsL, List.append_nil] at hH
    simp only [vE]; rw [← he x (by simp [VOp.opds])]
    generalize ev x = a at *
    split
    · rfl
    · rfl
    · rfl
    · rename_i id
      rcases arr_cases (hH id (by simp [A.ids])) with ⟨e, e'⟩ | ⟨lay, xs, xs', e, e', hh⟩
      · rw [e, e']
      · rw [e, e']; simp only [hlen hh]
    · rfl
  | sls sz x lo hi =>
    simp only [VOp.opds, List.map_cons, A.idsL] at hH
    have h1 := hH.left
    simp only [vE]
    rw [← he x (by simp [VOp.opds])]
    have b1 : ∀ d, bnd ev d lo = bnd ev' d lo := fun d => by cases lo with | none => rfl | some y => simp only [bnd, he y (by simp [VOp.opds])]
    have b2 : ∀ d, bnd ev d hi = bnd ev' d hi := fun d => by cases hi with | none => rfl | some y => simp only [bnd, he y (by simp [VOp.opds])]
    generalize ev x = a at *
    unfold slsE
    split
    · rw [b1, b2]; try rfl
    · rw [b1, b2]; try rfl
    · rename_i id
      rcases arr_cases (h1 id (by simp [A.ids])) with ⟨e, e'⟩ | ⟨lay, xs, xs', e, e', hh⟩
      · rw [e, e']
      · rw [e, e']; simp only [hlen hh, b1, b2]; try rfl
    · rename_i id off len
      rcases arr_cases (h1 id (by simp [A.ids])) with ⟨e, e'⟩ | ⟨lay, xs, xs', e, e', hh⟩
      · rw [e, e']
      · rw [e, e']; simp only [b1, b2]; try rfl
    · rfl
  | sl3 x lo hi mx =>
    simp only [VOp.opds, List.map_cons, A.idsL] at hH
    have h1 := hH.left
    simp only [vE]
    rw [← he x (by simp [VOp.opds])]
    have b1 : ∀ d, bnd ev d lo = bnd ev' d lo := fun d => by cases lo with | none => rfl | some y => simp only [bnd, he y (by simp [VOp.opds])]
    have b2 : ∀ d, bnd ev d (some hi) = bnd ev' d (some hi) := fun d => by simp only [bnd, he hi (by simp [VOp.opds])]
    have b3 : ∀ d, bnd ev d (some mx) = bnd ev' d (some mx) := fun d => by simp only [bnd, he mx (by simp [VOp.opds])]
    generalize ev x = a at *
    have hlo : lenOwn (baseE rs pk) H a = lenOwn (baseE rs pk) H' a := by
      unfold lenOwn
      split
      · rename_i id
        rcases arr_cases (h1 id (by simp [A.ids])) with ⟨e, e'⟩ | ⟨lay, xs, xs', e, e', hh⟩
        · rw [e, e']
        · rw [e, e']; simp only [hlen hh]
      · rfl
      · rfl
    unfold sl3E
    rw [hlo, b1, b2, b3]
  | _ => simp [VOp.lenOnly] at hl

/-- An operation's effect looks at its temporaries, and at the objects that they name. -/
theorem oEff_congr {b : Nat} {r : ROper} {q : VOp} {s s' : St} (hT : ∀ t ∈ guardT r.guard ++ (tmpsOf r.uses ++ tmpsOf q.opds), s.T.getD t .u = s'.T.getD t .u)
    (hH : Agr q (q.seen s.T s.H) s.H s'.H) : oEff (baseE rs pk) b r q s = oEff (baseE rs pk) b r q s' := by
  have hu : ∀ x ∈ r.uses, evT s.T x = evT s'.T x := fun x hx => by
    cases x with
    | t n => exact hT n (List.mem_append_right _ (List.mem_append_left _ (tmpsOf_mem hx n rfl)))
    | k a => rfl
  have hq : ∀ x ∈ q.opds, evT s.T x = evT s'.T x := fun x hx => by
    cases x with
    | t n => exact hT n (List.mem_append_right _ (List.mem_append_right _ (tmpsOf_mem hx n rfl)))
    | k a => rfl
  have hall : ∀ (γ : Bool) (l : List Opd), (∀ x ∈ l, evT s.T x = evT s'.T x) → allStrip γ (evT s.T) l = allStrip γ (evT s'.T) l := by
    intro γ l
    induction l with
    | nil => intro _; rfl
    | cons y l ih => intro h; rw [allStrip, allStrip, h y (by simp), ih fun x hx => h x (by simp [hx])]
  unfold oEff
  split
  · rw [vE_agr q hq hH]
  · rename_i g want hg
    rw [hT g (by rw [hg]; simp [guardT])]
    split
    · rename_i γ hγ
      split
      · rename_i c x y
        rw [hq c (by simp [VOp.opds]), hq x (by simp [VOp.opds]), hq y (by simp [VOp.opds])]
      · rw [vE_agr (ev := fun x => strip (evT s.T x)) (ev' := fun x => strip (evT s'.T x)) (H := s.H) (H' := s'.H) q (fun x hx => by rw [hq x hx]) ?_, hall γ r.uses hu]
        have : (q.opds.map fun x => strip (evT s.T x)) = (q.opds.map (evT s.T)).map strip := by rw [List.map_map]; rfl
        rw [this, strip_idsL]
        exact hH
    · rfl

theorem updE_len : ∀ (as : List A) (xs : List (List C)) (i : Int) (off : Nat) (lay : List LK) (xs' : List (List C)), updE (baseE rs pk) xs i off lay as = some xs' → xs'.length = xs.length
  | [], xs, i, off, lay, xs', h => by simp only [updE, Option.some.injEq] at h; rw [h]
  | x :: as, xs, i, off, lay, xs', h => by
    unfold updE at h
    split at h
    · simp only [Option.map_eq_some_iff] at h
      obtain ⟨r, hr, rfl⟩ := h
      have := updE_len as xs i (off + 1) lay r hr
      show (updC r _ _ _).length = _
      simp [updC, this]
    · cases h

/-- A soft store keeps lengths. -/
theorem soft_len {b : Nat} {r : ROper} {q : VOp} {s : St} {e : Rs} (he : oEff (baseE rs pk) b r q s = some e) (hs : q.soft s.T e.ws = true) (ids : List Nat) : LenOn ids (putW s.H e.ws) s.H := by
  cases q with
  | st n x v =>
    have hws : e.ws = [] ∨ e.ws = (stE (baseE rs pk) s.H n (evT s.T x) (evT s.T v)).ws := by
      unfold oEff at he
      split at he
      · cases he; exact .inr rfl
      · split at he
        · cases he; exact .inl rfl
        · cases he
    rcases hws with hws | hws
    · rw [hws]; exact fun _ _ => rfl
    · rw [hws]
      unfold VOp.soft at hs
      simp only at hs
      split at hs
      · rename_i id i off w1 e1 e2
        rw [hws, e1] at e2
        rw [e1]
        unfold stE at e2 ⊢
        cases hk : (known (evT s.T v) && Nat.beq (cellsOf (evT s.T v)).length n) with
        | false => simp only [hk] at e2; cases e2
        | true =>
          simp only [hk] at e2 ⊢
          cases hid : (putW s.H (frzL s.H (cellsOf (evT s.T v))))[id]? with
          | none => simp only [hid] at e2; cases e2
          | some ob =>
            cases ob with
            | arr T lay xs =>
              simp only [hid] at e2 ⊢
              cases hxs : (datL (baseE rs pk) (putW s.H (frzL s.H (cellsOf (evT s.T v)))) (cellsOf (evT s.T v))).bind (updE (baseE rs pk) xs i off lay) with
              | none => simp only [hxs] at e2; cases e2
              | some xs' =>
                simp only [hxs] at e2 ⊢
                cases hc : Nat.ble (off + n) lay.length with
                | false => rw [hc] at e2; cases e2
                | true =>
                  rw [hc] at e2
                  simp only [chk] at e2 ⊢
                  have hfz : frzL s.H (cellsOf (evT s.T v)) = [] := by
                    cases hf : frzL s.H (cellsOf (evT s.T v)) with
                    | nil => rfl
                    | cons y ys => rw [hf] at e2; simp at e2
                  rw [hfz] at hid ⊢
                  simp only [putW] at hid
                  simp only [List.nil_append, putW]
                  simp only [Option.bind_eq_some_iff] at hxs
                  obtain ⟨ds, _, hup⟩ := hxs
                  have hl := updE_len _ _ _ _ _ _ hup
                  intro j hj
                  by_cases hji : id = j
                  · subst hji
                    unfold arrOf
                    rw [List.getElem?_set_self (lt_of_get hid), hid]
                    simp [hl]
                  · unfold arrOf
                    rw [List.getElem?_set_ne hji]
            | box T cs => simp only [hid] at e2; cases e2
            | frz lay xs => simp only [hid] at e2; cases e2
            | mp kk row lay es => simp only [hid] at e2; cases e2
            | fmp kk row lay es => simp only [hid] at e2; cases e2
            | dead => simp only [hid] at e2; cases e2
      · cases hs
  | _ => simp [VOp.soft] at hs
end
end
end Go.Eng
