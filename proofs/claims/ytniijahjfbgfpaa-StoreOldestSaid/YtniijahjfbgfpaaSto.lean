/- Warehouses: what the operations are to answer. No conditions. -/
import Derived.Test.YtniijahjfbgfpaaAwake
set_option linter.unusedVariables false
set_option linter.unusedSimpArgs false
namespace Go.Proofs.Ytniijahjfbgfpaa.V
open Go Go.Eng
set_option maxRecDepth 1000000
set_option maxHeartbeats 1000000
/-- A roll in the warehouse: its number, bay, moment, width, turn. -/
abbrev bayOf (h : I5) : Int := h.2.1
abbrev atOf (h : I5) : Int := h.2.2.1
abbrev widOf (h : I5) : Int := h.2.2.2.1
abbrev turnOf (h : I5) : Int := h.2.2.2.2
def enc (m : List I5) : List (Int × List C) := m.map fun h => (h.1, cs5 h)
theorem enc_len (m : List I5) : (enc m).length = m.length := by simp [enc]
def fnd (m : List I5) (k : Int) : Option I5 := m.find? fun h => k == h.1
def drp (m : List I5) (k : Int) : List I5 := m.filter fun h => !(k == h.1)
def cnt (m : List I5) (b : Int) : Nat := (m.filter fun h => decide (bayOf h = b)).length
theorem enc_find (k : Int) : ∀ m : List I5, mfind k (enc m) = (fnd m k).map cs5
  | [] => rfl
  | h :: m => by
    have ih := enc_find k m
    simp only [enc, List.map_cons, mfind, fnd, List.find?_cons] at ih ⊢
    cases hk : k == h.1
    · simpa [hk] using ih
    · simp [hk]
theorem enc_cnt (b : Int) : ∀ m : List I5, cntE b (enc m) = cnt m b
  | [] => rfl
  | h :: m => by
    have ih := enc_cnt b m
    simp only [enc, List.map_cons, cntE, cnt, List.filter_cons] at ih ⊢
    have e : ((cs5 h).getD 1 C.nil).gi = bayOf h := rfl
    rw [ih, e]
    by_cases hb : bayOf h = b
    · simp [hb]; omega
    · simp [hb]
def putM (h : I5) : List I5 → List I5
  | [] => [h]
  | e :: es => if h.1 == e.1 then h :: es else e :: putM h es
def remM (k : Int) : List I5 → List I5
  | [] => []
  | e :: es => if k == e.1 then es else e :: remM k es
theorem enc_put (h : I5) : ∀ m : List I5, mput h.1 (cs5 h) (enc m) = enc (putM h m)
  | [] => rfl
  | e :: m => by
    have ih := enc_put h m
    simp only [enc, List.map_cons, mput, putM] at ih ⊢
    cases hk : h.1 == e.1
    · simp [ih]
    · simp
theorem enc_rem (k : Int) : ∀ m : List I5, mrem k (enc m) = enc (remM k m)
  | [] => rfl
  | e :: m => by
    have ih := enc_rem k m
    simp only [enc, List.map_cons, mrem, remM] at ih ⊢
    cases hk : k == e.1
    · simp [ih]
    · simp
theorem drp_self {k : Int} : ∀ {m : List I5}, (∀ h ∈ m, k ≠ h.1) → drp m k = m
  | [], _ => rfl
  | e :: m, h => by
    have ih := drp_self (m := m) fun x hx => h x (List.mem_cons_of_mem _ hx)
    have he : (k == e.1) = false := by simpa using h e (by simp)
    simp only [drp, List.filter_cons, he] at ih ⊢
    simp [ih]
def keys (m : List I5) : List Int := m.map (·.1)
theorem remM_drp {k : Int} : ∀ {m : List I5}, (keys m).Nodup → remM k m = drp m k
  | [], _ => rfl
  | e :: m, h => by
    simp only [keys, List.map_cons, List.nodup_cons] at h
    have ih := remM_drp (k := k) (m := m) h.2
    cases hk : k == e.1
    · simp only [remM, drp, List.filter_cons, hk] at ih ⊢; simp [ih]
    · have hd := drp_self (k := k) (m := m) fun x hx hkx => h.1 (List.mem_map.2 ⟨x, hx, by rw [← hkx]; simpa using hk⟩)
      have : drp (e :: m) k = drp m k := by simp [drp, List.filter_cons, hk]
      rw [this, hd]
      simp [remM, hk]
theorem putM_perm {h : I5} : ∀ {m : List I5}, (keys m).Nodup → (putM h m).Perm (drp m h.1 ++ [h])
  | [], _ => .refl _
  | e :: m, hn => by
    simp only [keys, List.map_cons, List.nodup_cons] at hn
    have ih := putM_perm (h := h) (m := m) hn.2
    cases hk : h.1 == e.1
    · have : drp (e :: m) h.1 = e :: drp m h.1 := by simp [drp, List.filter_cons, hk]
      rw [this]
      simp only [putM, hk]
      exact ih.cons e
    · have hd := drp_self (k := h.1) (m := m) fun x hx hkx => hn.1 (List.mem_map.2 ⟨x, hx, by rw [← hkx]; simpa using hk⟩)
      have : drp (e :: m) h.1 = drp m h.1 := by simp [drp, List.filter_cons, hk]
      rw [this, hd]
      simp only [putM, hk, if_true]
      exact (List.perm_append_singleton h m).symm
theorem fnd_some {m : List I5} {k : Int} {h : I5} (e : fnd m k = some h) : h ∈ m ∧ h.1 = k := by
  have h1 := List.mem_of_find?_eq_some e
  have h2 := List.find?_some e
  exact ⟨h1, (by simpa using h2 : k = h.1).symm⟩
theorem fnd_none {m : List I5} {k : Int} (e : fnd m k = none) : ∀ h ∈ m, k ≠ h.1 := fun h hm => by
  have := List.find?_eq_none.1 e h hm
  simpa using this
theorem key_unique {m : List I5} (hn : (keys m).Nodup) {x y : I5} (hx : x ∈ m) (hy : y ∈ m) (h : x.1 = y.1) : x = y := by
  induction m with
  | nil => cases hx
  | cons e m ih =>
    simp only [keys, List.map_cons, List.nodup_cons] at hn
    rcases List.mem_cons.1 hx with h1 | h1 <;> rcases List.mem_cons.1 hy with h2 | h2
    · rw [h1, h2]
    · exact absurd (List.mem_map.2 ⟨y, h2, by rw [← h, h1]⟩) hn.1
    · exact absurd (List.mem_map.2 ⟨x, h1, by rw [h, h2]⟩) hn.1
    · exact ih hn.2 h1 h2
theorem fnd_mem {m : List I5} (hn : (keys m).Nodup) {h : I5} (hm : h ∈ m) : fnd m h.1 = some h := by
  cases e : fnd m h.1 with
  | none => exact absurd rfl (fnd_none e h hm)
  | some x => obtain ⟨h1, h2⟩ := fnd_some e; rw [key_unique hn h1 hm h2]
theorem fnd_perm {m hs : List I5} (hp : m.Perm hs) (hn : (keys hs).Nodup) (k : Int) : fnd m k = fnd hs k := by
  have hn' : (keys m).Nodup := (hp.map _).nodup_iff.2 hn
  cases e : fnd hs k with
  | none =>
    have h1 := fnd_none e
    cases e2 : fnd m k with
    | none => rfl
    | some x => obtain ⟨h2, h3⟩ := fnd_some e2; exact absurd h3.symm (h1 x (hp.mem_iff.1 h2))
  | some x =>
    obtain ⟨h2, h3⟩ := fnd_some e
    rw [← h3]; exact fnd_mem hn' (hp.mem_iff.2 h2)
theorem cnt_perm {m hs : List I5} (hp : m.Perm hs) (b : Int) : cnt m b = cnt hs b := (hp.filter _).length_eq
theorem cnt_le (m : List I5) (b : Int) : cnt m b ≤ m.length := List.length_filter_le _ _
/-- What holds of the rolls, in the order in which they came. -/
structure Inv (bs : List I2) (tn la : Int) (hs : List I5) : Prop where
  bl : 1 ≤ bs.length ∧ bs.length ≤ 32
  bb : ∀ x ∈ bs, 1 ≤ x.1 ∧ x.1 ≤ 512 ∧ 1 ≤ x.2 ∧ x.2 ≤ 12000
  nd : (keys hs).Nodup
  tu : hs.Pairwise fun a b => turnOf a < turnOf b
  tb : ∀ h ∈ hs, 1 ≤ turnOf h ∧ turnOf h ≤ tn
  t0 : 0 ≤ tn
  ln : (hs.length : Int) ≤ tn
  aa : hs.Pairwise fun a b => atOf a ≤ atOf b
  al : ∀ h ∈ hs, atOf h ≤ la
  l0 : 0 ≤ la
  ro : ∀ h ∈ hs, 1 ≤ h.1
  by' : ∀ h ∈ hs, 0 ≤ bayOf h ∧ bayOf h < bs.length
  cp : ∀ b : Nat, b < bs.length → (cnt hs b : Int) ≤ (bs.getD b z2).1
/-- A warehouse's map holds these rolls. -/
def Wh (bs : List I2) (es : List (Int × List C)) (tn la : Int) (hs : List I5) : Prop := ∃ m, es = enc m ∧ m.Perm hs ∧ Inv bs tn la hs
theorem Wh.inv {bs : List I2} {es : List (Int × List C)} {tn la : Int} {hs : List I5} (h : Wh bs es tn la hs) : Inv bs tn la hs := let ⟨_, _, _, h⟩ := h; h
theorem Wh.len {bs : List I2} {es : List (Int × List C)} {tn la : Int} {hs : List I5} (h : Wh bs es tn la hs) : es.length = hs.length := by
  obtain ⟨m, rfl, hp, _⟩ := h
  rw [enc_len, hp.length_eq]
theorem Wh.cntE {bs : List I2} {es : List (Int × List C)} {tn la : Int} {hs : List I5} (h : Wh bs es tn la hs) (b : Int) : Ytniijahjfbgfpaa.cntE b es = cnt hs b := by
  obtain ⟨m, rfl, hp, _⟩ := h
  rw [enc_cnt, cnt_perm hp]
theorem Wh.find {bs : List I2} {es : List (Int × List C)} {tn la : Int} {hs : List I5} (h : Wh bs es tn la hs) (k : Int) : mfind k es = (fnd hs k).map cs5 := by
  obtain ⟨m, rfl, hp, hi⟩ := h
  rw [enc_find, fnd_perm hp hi.nd]
/-! ### The operations -/
/-- What a call leaves: the rolls, the number of calls, the last moment, the error. -/
structure Out where
  hs : List I5
  tn : Int
  la : Int
  n : Int
  e : Int
def momB (t : Int) : Bool := decide (0 ≤ t) && decide (t ≤ 2147483647)
def isB (bs : List I2) (b : Int) : Bool := decide (0 ≤ b) && decide (b < bs.length)
def entM (bs : List I2) (hs : List I5) (tn la r w b t : Int) : Out :=
  if t < la then ⟨hs, tn, la, 0, 9⟩ else if (bs.getD b.toNat z2).1 ≤ cnt hs b then ⟨hs, tn, la, 0, 8⟩ else ⟨drp hs r ++ [(r, b, t, w, tn + 1)], tn + 1, t, 0, 0⟩
def putO (bs : List I2) (hs : List I5) (tn la r w b t : Int) : Out :=
  if r < 1 ∨ 1000000 < r ∨ w < 1 ∨ 12000 < w ∨ momB t = false then ⟨hs, tn, la, 0, 1⟩ else if (fnd hs r).isSome = true then ⟨hs, tn, la, 0, 6⟩ else if isB bs b = false then ⟨hs, tn, la, 0, 7⟩
  else if (bs.getD b.toNat z2).2 < w then ⟨hs, tn, la, 0, 20⟩ else entM bs hs tn la r w b t
def movO (bs : List I2) (hs : List I5) (tn la r b t : Int) : Out :=
  match fnd hs r with
  | none => ⟨hs, tn, la, 0, 7⟩
  | some h => if isB bs b = false then ⟨hs, tn, la, 0, 7⟩ else if bayOf h = b then ⟨hs, tn, la, 0, 6⟩ else if (bs.getD b.toNat z2).2 < widOf h then ⟨hs, tn, la, 0, 20⟩ else if momB t = false then ⟨hs, tn, la, 0, 1⟩
    else entM bs hs tn la r (widOf h) b t
def takO (hs : List I5) (tn la r : Int) : Out :=
  match fnd hs r with
  | none => ⟨hs, tn, la, 0, 7⟩
  | some h => ⟨drp hs r, tn, la, bayOf h, 0⟩
def opO (bs : List I2) (hs : List I5) (tn la k r w b t : Int) : Out :=
  if k = 0 then putO bs hs tn la r w b t else if k = 1 then movO bs hs tn la r b t else takO hs tn la r
/-! ### They keep what holds -/
theorem keys_drp_sub (hs : List I5) (k : Int) : (drp hs k).Sublist hs := List.filter_sublist
theorem mem_drp {hs : List I5} {k : Int} {h : I5} : h ∈ drp hs k ↔ h ∈ hs ∧ h.1 ≠ k := by
  simp only [drp, List.mem_filter, Bool.not_eq_true', beq_eq_false_iff_ne, ne_eq]
  exact ⟨fun ⟨h1, h2⟩ => ⟨h1, fun e => h2 e.symm⟩, fun ⟨h1, h2⟩ => ⟨h1, fun e => h2 e.symm⟩⟩
theorem cnt_drp_le (hs : List I5) (k b : Int) : cnt (drp hs k) b ≤ cnt hs b := ((keys_drp_sub hs k).filter _).length_le
theorem cnt_app (a : List I5) (h : I5) (b : Int) : cnt (a ++ [h]) b = cnt a b + if bayOf h = b then 1 else 0 := by
  simp only [cnt, List.filter_append, List.length_append]
  by_cases hb : bayOf h = b <;> simp [hb]
theorem Inv.drop {bs : List I2} {tn la : Int} {hs : List I5} (h : Inv bs tn la hs) (k : Int) : Inv bs tn la (drp hs k) := by
  have hs' := keys_drp_sub hs k
  refine ⟨h.bl, h.bb, h.nd.sublist (hs'.map _), h.tu.sublist hs', fun x hx => h.tb x (mem_drp.1 hx).1, h.t0, ?_, h.aa.sublist hs', fun x hx => h.al x (mem_drp.1 hx).1, h.l0, fun x hx => h.ro x (mem_drp.1 hx).1, fun x hx => h.by' x (mem_drp.1 hx).1, fun b hb => ?_⟩
  · have := hs'.length_le; have := h.ln; omega
  · have := h.cp b hb; have := cnt_drp_le hs k b; omega
theorem Inv.enter {bs : List I2} {tn la : Int} {hs : List I5} (h : Inv bs tn la hs) {r w b t : Int} (hr : 1 ≤ r) (hb : isB bs b = true) (ht : la ≤ t) (hc : (cnt hs b : Int) < (bs.getD b.toNat z2).1) : Inv bs (tn + 1) t (drp hs r ++ [(r, b, t, w, tn + 1)]) := by
  simp only [isB, Bool.and_eq_true, decide_eq_true_eq] at hb
  have hd := h.drop r
  have hm : ∀ x ∈ drp hs r ++ [(r, b, t, w, tn + 1)], x ∈ drp hs r ∨ x = (r, b, t, w, tn + 1) := fun x hx => by simpa using hx
  refine ⟨h.bl, h.bb, ?_, ?_, fun x hx => ?_, by have := h.t0; omega, ?_, ?_, fun x hx => ?_, by have := h.l0; omega, fun x hx => ?_, fun x hx => ?_, fun c hc' => ?_⟩
  · simp only [keys, List.map_append, List.nodup_append]
    refine ⟨hd.nd, by simp, fun a ha c hc => ?_⟩
    obtain ⟨x, hx, rfl⟩ := List.mem_map.1 ha
    have : c = r := by simpa using hc
    subst this
    exact (mem_drp.1 hx).2
  · refine List.pairwise_append.2 ⟨hd.tu, by simp, fun a ha c hc => ?_⟩
    have : c = (r, b, t, w, tn + 1) := by simpa using hc
    subst this
    have := (hd.tb a ha).2
    show _ < tn + 1
    omega
  · rcases hm x hx with hx | rfl
    · have := hd.tb x hx; omega
    · have := h.t0; show 1 ≤ tn + 1 ∧ tn + 1 ≤ tn + 1; omega
  · have := hd.ln; simp; omega
  · refine List.pairwise_append.2 ⟨hd.aa, by simp, fun a ha c hc => ?_⟩
    have : c = (r, b, t, w, tn + 1) := by simpa using hc
    subst this
    have := hd.al a ha
    show _ ≤ t
    omega
  · rcases hm x hx with hx | rfl
    · have := hd.al x hx; omega
    · exact Int.le_refl t
  · rcases hm x hx with hx | rfl
    · exact hd.ro x hx
    · exact hr
  · rcases hm x hx with hx | rfl
    · exact hd.by' x hx
    · exact hb
  · rw [cnt_app]
    have h1 := hd.cp c hc'
    have h2 := cnt_drp_le hs r c
    by_cases hbc : b = (c : Int)
    · subst hbc
      simp only [Int.toNat_natCast] at hc
      rw [if_pos rfl]; omega
    · rw [if_neg (show ¬ bayOf (r, b, t, w, tn + 1) = (c : Int) from hbc)]; omega
theorem Wh.drop {bs : List I2} {es : List (Int × List C)} {tn la : Int} {hs : List I5} (h : Wh bs es tn la hs) (k : Int) : Wh bs (mrem k es) tn la (drp hs k) := by
  obtain ⟨m, rfl, hp, hi⟩ := h
  refine ⟨drp m k, ?_, hp.filter _, hi.drop k⟩
  rw [enc_rem, remM_drp ((hp.map _).nodup_iff.2 hi.nd)]
theorem Wh.enter {bs : List I2} {es : List (Int × List C)} {tn la : Int} {hs : List I5} (h : Wh bs es tn la hs) {r w b t : Int} (hr : 1 ≤ r) (hb : isB bs b = true) (ht : la ≤ t) (hc : (cnt hs b : Int) < (bs.getD b.toNat z2).1) :
    Wh bs (mput r (cs5 (r, b, t, w, tn + 1)) es) (tn + 1) t (drp hs r ++ [(r, b, t, w, tn + 1)]) := by
  have hi' := h.inv.enter (w := w) hr hb ht hc
  obtain ⟨m, rfl, hp, hi⟩ := h
  refine ⟨putM (r, b, t, w, tn + 1) m, enc_put (r, b, t, w, tn + 1) m, ?_, hi'⟩
  exact (putM_perm (h := (r, b, t, w, tn + 1)) ((hp.map _).nodup_iff.2 hi.nd)).trans ((hp.filter _).append (.refl _))
end Go.Proofs.Ytniijahjfbgfpaa.V
