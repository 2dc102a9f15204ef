/- An abstract machine over plain data, with a proof that it follows the model (5 of 5). No conditions. -/
import Derived.Test.YtjmgphobpgajbaaE4
import Derived.Shelf.Sort.Plain
import Derived.Shelf.Slices.In.SortNone
import Derived.Shelf.SlSortCmp.WholeK
import Derived.Shelf.SlSortCmp.NoneTotal
set_option linter.unusedVariables false
set_option linter.unusedSimpArgs false
/- An abstract machine over plain data, part ZE: the library's sort of integers on an array of the call's own. -/
namespace Go.Eng
open Go.RowKit Go.Proofs Go.Shelf Go.Sort

theorem ACalls.sortInts {P : Program} {ρ : Ren} (L : Lays.n189 P ρ) (T : TypeId) (zs : List Int) (hz : zs.length < 4611686018427387904) :
    ACalls P (ρ.f 189) [.own 0 0 zs.length] [.arr T [.int .i64] (rowsI zs)] fun r H' =>
      r = .tup [] ∧ H' = [.arr T [.int .i64] (rowsI (zs.mergeSort fun x y => decide (x ≤ y)))] := by
  intro w0 w G vs hH hs hv
  obtain ⟨v, hv0⟩ : ∃ v, vs = #[v] := by
    match vs, hs with
    | ⟨[v]⟩, _ => exact ⟨v, rfl⟩
  subst hv0
  have h0 : VR G (.own 0 0 zs.length) v := hv 0 (by simp) (by simp)
  have ho := hH.obj 0 _ rfl
  obtain ⟨ha, hc, he, hm, hn⟩ := ho
  have hlr : (rowsI zs).length = zs.length := by simp [rowsI]
  rw [hlr] at hc
  by_cases hzs : zs = []
  · subst hzs
    have hx : ∃ p cap, v = .slice p 0 cap := by
      generalize hA : A.own 0 0 (List.length ([] : List Int)) = a at h0
      cases h0 <;> simp at hA
      · obtain ⟨rfl, rfl, rfl⟩ := hA
        exact ⟨_, _, rfl⟩
      · exact ⟨_, _, rfl⟩
    obtain ⟨p, cap, rfl⟩ := hx
    refine (Any.slices_Sort_int_none L p cap w).mono ?_
    rintro e w' ⟨rfl, rfl⟩
    refine ⟨.tup [], _, G, _, rfl, hH, .tup _ _ rfl (fun i h1 => absurd h1 (by simp)), Gh.Le.refl _ _, fun i hi => .inl hi, Nat.le_refl _, rfl, ?_⟩
    simp [rowsI]
  · have hlen : 0 < zs.length := List.length_pos_iff.2 hzs
    have hx : ∃ cap, v = .slice (some ⟨G.blk 0, 0, none⟩) zs.length cap ∧ G.ph 0 = false := by
      generalize hA : A.own 0 0 zs.length = a at h0
      cases h0 <;> simp at hA
      · rename_i id off len cap ad hid hp h1 h2 hcap hcnt hl had
        obtain ⟨rfl, rfl, rfl⟩ := hA
        have := had (by omega)
        subst this
        exact ⟨cap, by simp, hp⟩
      · obtain ⟨rfl, rfl, rfl⟩ := hA
        omega
    obtain ⟨cap, rfl, hp⟩ := hx
    obtain ⟨cs, hb, hsz, hroom, hcs⟩ := hm hp
    obtain ⟨hn1, hn2, hn3⟩ := hH.new 0 _ rfl rfl hp
    have hcell : ∀ j, j < zs.length → cs[j]? = some (.int .i64 (zs.getD j 0)) := by
      intro j hj
      obtain ⟨x, hx, hr⟩ := hcs j 0 (by rw [hlr]; exact hj) (by decide)
      simp only [List.length_singleton, Nat.mul_one, Nat.add_zero] at hx
      have hc1 : cellC [.int .i64] (rowsI zs) j 0 = .int .i64 (zs.getD j 0) := by
        simp [cellC, fixC, cellAt, rowsI, List.getD, C.gi, hj]
      rw [hc1] at hr
      cases hr
      exact hx
    have hHolds : Holds (Value.int .i64) w (G.blk 0) 0 zs.toArray := by
      intro j hj
      have hj' : j < zs.length := by simpa using hj
      refine ⟨?_, ?_⟩
      · have := hcell j hj'
        simp [World.cell?, hb, this, hj', List.getD]
      · simp [World.frozen?, hb]
    refine (Any.slices_Sort_int L (G.blk 0) 0 cap zs w hHolds hn3 hz).mono ?_
    rintro e w' ⟨rfl, n, os, rfl⟩
    have hml : (zs.mergeSort fun x y => decide (x ≤ y)).length = zs.length := List.length_mergeSort _
    generalize hms : (zs.mergeSort fun x y => decide (x ≤ y)) = ys at hml ⊢
    have hU : HR w0 G ([O.arr T [.int .i64] (rowsI zs)].set 0 (.arr T [.int .i64] (rowsI ys))) (putRow (Value.int .i64) (Sort.ahead w n) (G.blk 0) 0 ys.toArray) := by
      refine hH.update (id := 0) (o := .arr T [.int .i64] (rowsI zs)) rfl rfl hp _ ?_ ?_ rfl rfl rfl ?_
      · simp [putRow, mapBlock, Sort.ahead]
      · intro k hk
        simp [putRow, mapBlock, Sort.ahead, Array.getElem?_modify, Ne.symm hk]
      · refine ⟨ha, by rw [hc]; simp [rowsI, hml], he, fun _ => ?_, fun h => by rw [hp] at h; cases h⟩
        refine ⟨putCells (Value.int .i64) 0 ys.toArray cs, ?_, ?_, ?_, ?_⟩
        · simp [putRow, mapBlock, Sort.ahead, Array.getElem?_modify, hb, onCells]
        · simp [putCells, hsz]
        · have : (rowsI ys).length = (rowsI zs).length := by simp [rowsI, hml]
          rw [this]; exact hroom
        · intro i j hi hj
          have hi' : i < ys.length := by simpa [rowsI] using hi
          have hj0 : j = 0 := by simpa using hj
          subst hj0
          refine ⟨.int .i64 (ys.getD i 0), ?_, ?_⟩
          · have hc2 := hcell i (by omega)
            simp [putCells, Array.getElem?_mapIdx, hc2, hi', List.getD]
          · have hc1 : cellC [.int .i64] (rowsI ys) i 0 = .int .i64 (ys.getD i 0) := by
              simp [cellC, fixC, cellAt, rowsI, List.getD, C.gi, hi']
            rw [hc1]; exact .int _ _
    have hbel : Below (putRow (Value.int .i64) (Sort.ahead w n) (G.blk 0) 0 ys.toArray).heap.size (putRow (Value.int .i64) (Sort.ahead w n) (G.blk 0) 0 ys.toArray) (grow (putRow (Value.int .i64) (Sort.ahead w n) (G.blk 0) 0 ys.toArray) os) := by
      refine ⟨rfl, rfl, rfl, by simp [grow], ?_⟩
      intro k hk
      show (_ ++ os)[k]? = _
      rw [Array.getElem?_append, if_pos hk]
    refine ⟨.tup [], _, G, _, rfl, hU.below hbel, .tup _ _ rfl (fun i h1 => absurd h1 (by simp)), Gh.Le.refl _ _, fun i hi => .inl hi, Nat.le_refl _, rfl, rfl⟩
/-- The numbers of an array, sorted. -/
def spSort (xs : List (List C)) (K : List (List C) → Prop) : Prop := ∃ zs : List Int, rowsI zs = xs ∧ zs.length < 4611686018427387904 ∧ K (rowsI (zs.mergeSort fun x y => decide (x ≤ y)))
end Go.Eng

/- An abstract machine over plain data, part ZF: the library's sort of pairs of integers by the first, on an array of the call's own; telling results anew. -/
namespace Go.Eng
open Go.RowKit Go.Proofs Go.Shelf Go.Sort

/-- Pairs of integers as elements. -/
def rowsP (zs : List (Int × Int)) : List (List C) := zs.map fun z => [.int .i64 z.1, .int .i64 z.2]
abbrev i2 : List LK := [.int .i64, .int .i64]

/-- A pair whose first is not so great that differences overflow. -/
abbrev SmallP := { p : Int × Int // -4611686018427387904 ≤ p.1 ∧ p.1 < 4611686018427387904 }
instance : Inhabited SmallP := ⟨⟨(0, 0), by decide⟩⟩
def encP (x : SmallP) : List Value := [.int .i64 x.1.1, .int .i64 x.1.2]
def cfP (x y : SmallP) : Int := x.1.1 - y.1.1
theorem ltP (x y : SmallP) : ltOf cfP x y = decide (x.1.1 < y.1.1) := by
  unfold ltOf cfP
  simp only [decide_eq_decide]
  omega
theorem swoP : SWO (ltOf cfP) where
  irrefl x := by rw [ltP]; simp
  trans x y z h1 h2 := by rw [ltP] at *; simp at *; omega
  ntrans x y z h1 h2 := by rw [ltP] at *; simp at *; omega

theorem rowsP_cell (zs : List (Int × Int)) (i j : Nat) (hi : i < zs.length) (hj : j < 2) : cellC i2 (rowsP zs) i j = (match j with
    | 0 => .int .i64 (zs[i]'hi).1
    | _ => .int .i64 (zs[i]'hi).2) := by
  have : j = 0 ∨ j = 1 := by omega
  rcases this with rfl | rfl <;> simp [cellC, fixC, cellAt, rowsP, List.getD, C.gi, hi]

theorem ACalls.sort2 {P : Program} {ρ : Ren} (L : SlLaysF0.n6 P ρ) (aE : ∀ w, (isAgg (ρ.t 24)).run P w = .ok true w) (zE : ∀ w, (Go.sizeOf (ρ.t 24)).run P w = .ok 2 w) (g : Nat)
    (eg : ∀ args w, (callFunc g args).run P w = .ok (.enter g args) w)
    (hcl : ∀ (x y : Int × Int) (W : World), Calls P g #[.agg #[.int .i64 x.1, .int .i64 x.2], .agg #[.int .i64 y.1, .int .i64 y.2]] W fun e w' => e = .returned (.int .i64 (IntKind.i64.wrap (x.1 - y.1))) ∧ ∃ q os', w' = grow (W.drewN q) os')
    (T : TypeId) (zs : List (Int × Int)) (hz : zs.length < 4611686018427387904) (hb : ∀ z ∈ zs, -4611686018427387904 ≤ z.1 ∧ z.1 < 4611686018427387904) :
    ACalls P (ρ.f 6) [.own 0 0 zs.length, .fn g []] [.arr T i2 (rowsP zs)] fun r H' =>
      r = .tup [] ∧ ∃ ys, ys.Perm zs ∧ ys.Pairwise (fun a b => a.1 ≤ b.1) ∧ H' = [.arr T i2 (rowsP ys)] := by
  intro w0 w G vs hH hs hv
  obtain ⟨v, u, hv0⟩ : ∃ v u, vs = #[v, u] := by
    match vs, hs with
    | ⟨[v, u]⟩, _ => exact ⟨v, u, rfl⟩
  subst hv0
  have h0 : VR G (.own 0 0 zs.length) v := hv 0 (by simp) (by simp)
  have h1 : VR G (.fn g []) u := hv 1 (by simp) (by simp)
  obtain rfl : u = .func (.func g) #[] #[] := by
    cases h1 with
    | fn f cap vs hl h =>
      have : vs = #[] := Array.eq_empty_of_size_eq_zero (by simpa using hl)
      rw [this]
  have ho := hH.obj 0 _ rfl
  obtain ⟨ha, hc, he, hm, hn⟩ := ho
  have hlr : ∀ l : List (Int × Int), (rowsP l).length = l.length := fun l => by simp [rowsP]
  rw [hlr] at hc
  by_cases hzs : zs = []
  · subst hzs
    have hx : ∃ p cap, v = .slice p 0 cap := by
      generalize hA : A.own 0 0 (List.length ([] : List (Int × Int))) = a at h0
      cases h0 <;> simp at hA
      · obtain ⟨rfl, rfl, rfl⟩ := hA
        exact ⟨_, _, rfl⟩
      · exact ⟨_, _, rfl⟩
    obtain ⟨p, cap, rfl⟩ := hx
    refine (AnyF.slices_SortFunc_none L p cap _ w).mono ?_
    rintro e w' ⟨rfl, rfl⟩
    exact ⟨.tup [], _, G, _, rfl, hH, .tup _ _ rfl (fun i h1 => absurd h1 (by simp)), Gh.Le.refl _ _, fun i hi => .inl hi, Nat.le_refl _, rfl, [], .refl _, .nil, rfl⟩
  · have hlen : 0 < zs.length := List.length_pos_iff.2 hzs
    have hx : ∃ cap, v = .slice (some ⟨G.blk 0, 0, none⟩) zs.length cap ∧ G.ph 0 = false := by
      generalize hA : A.own 0 0 zs.length = a at h0
      cases h0 <;> simp at hA
      · rename_i id off len cap ad hid hp h1 h2 hcap hcnt hl had
        obtain ⟨rfl, rfl, rfl⟩ := hA
        have := had (by omega)
        subst this
        exact ⟨cap, by simp, hp⟩
      · obtain ⟨rfl, rfl, rfl⟩ := hA
        omega
    obtain ⟨cap, rfl, hp⟩ := hx
    obtain ⟨cs, hbk, hsz, hroom, hcs⟩ := hm hp
    obtain ⟨hn1, hn2, hn3⟩ := hH.new 0 _ rfl rfl hp
    rw [hlr] at hroom
    have hl2 : i2.length = 2 := rfl
    have hcell : ∀ i j, i < zs.length → j < 2 → cs[i * 2 + j]? = some ([Value.int .i64 (zs[i]!).1, .int .i64 (zs[i]!).2])[j]! := by
      intro i j hi hj
      obtain ⟨x, hx, hr⟩ := hcs i j (by rw [hlr]; exact hi) hj
      rw [rowsP_cell zs i j hi hj] at hr
      have hx' : cs[i * 2 + j]? = some x := hx
      have e2 : j = 0 ∨ j = 1 := by omega
      rw [hx']
      rcases e2 with rfl | rfl <;> (cases hr; simp [hi])
    generalize hd : (zs.attachWith (fun p => -4611686018427387904 ≤ p.1 ∧ p.1 < 4611686018427387904) hb).toArray = d
    have hds : d.size = zs.length := by rw [← hd]; simp
    have hdl : d.toList.map (·.1) = zs := by rw [← hd]; simpa using List.attach_map_subtype_val zs
    have hdi : ∀ i, i < zs.length → (d[i]!).1 = zs[i]! := fun i hi => by
      rw [getElem!_pos d i (by omega), getElem!_pos zs i hi]
      subst hd
      simp
    have hHolds : HoldsK encP 2 w (G.blk 0) 0 d := by
      intro t ht
      simp at ht
      have h1 : t / 2 < zs.length := by omega
      have h2 : t % 2 < 2 := Nat.mod_lt _ (by omega)
      have := hcell (t / 2) (t % 2) h1 h2
      rw [show t / 2 * 2 + t % 2 = t by omega] at this
      refine ⟨?_, by simp [World.frozen?, hbk]⟩
      rw [get_flatK _ _ _ _ (by omega)]
      simp only [World.cell?, hbk, Nat.zero_add]
      rw [encP, hdi _ h1]
      exact this
    have hcmp : CmpLays P g #[] encP 2 cfP (G.blk 0) 0 d.size w := by
      intro m os dk hdk x y
      refine (hcl x.1 y.1 _).mono ?_
      rintro e w' ⟨rfl, q, os', rfl⟩
      refine ⟨?_, q, os', rfl⟩
      have hx1 : (-4611686018427387904 : Int) ≤ x.1.1 := x.2.1
      have hx2 : x.1.1 < (4611686018427387904 : Int) := x.2.2
      have hy1 : (-4611686018427387904 : Int) ≤ y.1.1 := y.2.1
      have hy2 : y.1.1 < (4611686018427387904 : Int) := y.2.2
      rw [wrap_in (by omega) (by omega)]; rfl
    have hcon := (AnyQ.slices_SortFunc L 2 aE zE encP (fun _ => rfl) (fun x v hv => by simp [encP] at hv; rcases hv with rfl | rfl <;> rfl) cfP swoP g #[] (G.blk 0) 0 cap d w eg hcmp hHolds hn3 (by omega))
    rw [hds] at hcon
    refine hcon.mono ?_
    rintro e w' ⟨rfl, d', n, os, hperm, hsort, rfl⟩
    obtain ⟨hp1, _, hp3⟩ := hperm
    have hp4 : (d'.toList.map (·.1)).Perm zs := by
      rw [← hdl]
      refine List.Perm.map _ ?_
      rw [← hds] at hp3
      have e1 : d'.extract 0 d.size = d' := by rw [← hp1]; simp
      rw [e1] at hp3
      simpa using hp3
    have hp5 : (d'.toList.map (·.1)).Pairwise (fun a b => a.1 ≤ b.1) := by
      rw [List.pairwise_map, List.pairwise_iff_getElem]
      intro i j hi hj hij
      have := hsort i j (Nat.zero_le _) hij (by simp at hj; omega)
      rw [ltP] at this
      simp at hi hj
      rw [getElem!_pos d' i hi, getElem!_pos d' j hj] at this
      simpa using this
    have hyl : (d'.toList.map (·.1)).length = zs.length := hp4.length_eq
    have hgi : ∀ i, i < zs.length → (d'[i]!).1 = (d'.toList.map (·.1))[i]! := fun i hi => by
      rw [getElem!_pos d' i (by omega), getElem!_pos (d'.toList.map (·.1)) i (by omega)]
      simp
    generalize hys : d'.toList.map (·.1) = ys at hp4 hp5 hyl hgi
    have hflat : ∀ t, t < zs.length * 2 → (flatK encP 2 d')[t]! = (encP d'[t / 2]!)[t % 2]! := fun t ht => get_flatK _ _ _ _ (by omega)
    have hU : HR w0 G ([O.arr T i2 (rowsP zs)].set 0 (.arr T i2 (rowsP ys))) (putRowK encP 2 (Sort.ahead w n) (G.blk 0) 0 d') := by
      refine hH.update (id := 0) (o := .arr T i2 (rowsP zs)) rfl rfl hp _ ?_ ?_ rfl rfl rfl ?_
      · simp [putRowK, putRow, mapBlock, Sort.ahead]
      · intro k hk
        simp [putRowK, putRow, mapBlock, Sort.ahead, Array.getElem?_modify, Ne.symm hk]
      · refine ⟨ha, by rw [hc, hlr, hyl], he, fun _ => ?_, fun h => by rw [hp] at h; cases h⟩
        refine ⟨putCells id 0 (flatK encP 2 d') cs, ?_, ?_, ?_, ?_⟩
        · simp [putRowK, putRow, mapBlock, Sort.ahead, Array.getElem?_modify, hbk, onCells]
        · simp [putCells, hsz]
        · rw [hlr, hyl]; exact hroom
        · intro i j hi hj
          have hi' : i < ys.length := by rw [hlr] at hi; exact hi
          have hj' : j < 2 := hj
          refine ⟨(encP d'[i]!)[j]!, ?_, ?_⟩
          · have hc2 := hcell i j (by omega) hj'
            have h3 := hflat (i * 2 + j) (by omega)
            rw [show (i * 2 + j) / 2 = i by omega, show (i * 2 + j) % 2 = j by omega] at h3
            show (putCells id 0 (flatK encP 2 d') cs)[i * 2 + j]? = _
            rw [putCells, Array.getElem?_mapIdx, hc2]
            simp only [Option.map_some, size_flatK, hp1, hds, id_eq]
            rw [if_pos ⟨Nat.zero_le _, by omega⟩, Nat.sub_zero, h3]
          · rw [rowsP_cell ys i j hi' hj']
            have h4 := hgi i (by omega)
            rw [getElem!_pos ys i hi'] at h4
            have e2 : j = 0 ∨ j = 1 := by omega
            rcases e2 with rfl | rfl
            · simp [encP, h4]; exact .int _ _
            · simp [encP, h4]; exact .int _ _
    have hbel : Below (putRowK encP 2 (Sort.ahead w n) (G.blk 0) 0 d').heap.size (putRowK encP 2 (Sort.ahead w n) (G.blk 0) 0 d') (sortWorldK encP 2 w (G.blk 0) 0 n d' os) := by
      refine ⟨rfl, rfl, rfl, by simp [sortWorldK, grow], ?_⟩
      intro k hk
      show (_ ++ os)[k]? = _
      rw [Array.getElem?_append, if_pos hk]
    exact ⟨.tup [], _, G, _, rfl, hU.below hbel, .tup _ _ rfl (fun i h1 => absurd h1 (by simp)), Gh.Le.refl _ _, fun i hi => .inl hi, Nat.le_refl _, rfl, ys, hp4, hp5, rfl⟩
theorem sortC {P : Program} {ρ : Ren} (L : Lays.n189 P ρ) (hb : hasBody P (ρ.f 189) = true) : OnArr spSort [.int .i64] P (ρ.f 189) :=
  ⟨hb, fun {T} xs K ⟨zs, hx, hl, hk⟩ => by
    subst hx
    have h := ACalls.sortInts L T zs hl
    rw [show (zs.length : Int) = ((rowsI zs).length : Int) by simp [rowsI]] at h
    exact h.gr.mono fun r H' ⟨h1, h2⟩ => ⟨_, hk, h1, h2⟩⟩
end Go.Eng

/- An abstract machine over plain data, part ZK: the library's sort of rows of integers by a function that compares, on an array of the call's own. -/
namespace Go.Eng
open Go.RowKit Go.Proofs Go.Shelf Go.Sort

section
variable {α : Type} [Inhabited α]
/-- Rows of n integers as elements. -/
def rowsN (iv : α → Nat → Int) (n : Nat) (zs : List α) : List (List C) := zs.map fun z => (List.range n).map fun j => .int .i64 (iv z j)
def encN (iv : α → Nat → Int) (n : Nat) (z : α) : List Value := (List.range n).map fun j => .int .i64 (iv z j)
def layN (n : Nat) : List LK := List.replicate n (.int .i64)
theorem rowsN_cell (iv : α → Nat → Int) (n : Nat) (zs : List α) (i j : Nat) (hi : i < zs.length) (hj : j < n) : cellC (layN n) (rowsN iv n zs) i j = .int .i64 (iv zs[i]! j) := by
  simp [cellC, fixC, cellAt, rowsN, layN, List.getD, C.gi, hi, hj]

theorem ACalls.sortN {P : Program} {ρ : Ren} (L : SlLaysF0.n6 P ρ) {n : Nat} (hn : 0 < n) (iv : α → Nat → Int) (cf : α → α → Int) (swo : SWO (ltOf cf)) (aE : ∀ w, (isAgg (ρ.t 24)).run P w = .ok true w) (zE : ∀ w, (Go.sizeOf (ρ.t 24)).run P w = .ok n w) (g : Nat)
    (eg : ∀ args w, (callFunc g args).run P w = .ok (.enter g args) w)
    (hcl : ∀ (x y : α) (W : World), Calls P g #[.agg (encN iv n x).toArray, .agg (encN iv n y).toArray] W fun e w' => e = .returned (.int .i64 (cf x y)) ∧ ∃ q os', w' = grow (W.drewN q) os')
    (T : TypeId) (zs : List α) (hz : zs.length < 4611686018427387904) :
    ACalls P (ρ.f 6) [.own 0 0 zs.length, .fn g []] [.arr T (layN n) (rowsN iv n zs)] fun r H' =>
      r = .tup [] ∧ ∃ ys, ys.Perm zs ∧ ys.Pairwise (fun a b => ltOf cf b a = false) ∧ H' = [.arr T (layN n) (rowsN iv n ys)] := by
  intro w0 w G vs hH hs hv
  obtain ⟨v, u, hv0⟩ : ∃ v u, vs = #[v, u] := by
    match vs, hs with
    | ⟨[v, u]⟩, _ => exact ⟨v, u, rfl⟩
  subst hv0
  have h0 : VR G (.own 0 0 zs.length) v := hv 0 (by simp) (by simp)
  have h1 : VR G (.fn g []) u := hv 1 (by simp) (by simp)
  obtain rfl : u = .func (.func g) #[] #[] := by
    cases h1 with
    | fn f cap vs hl h =>
      have : vs = #[] := Array.eq_empty_of_size_eq_zero (by simpa using hl)
      rw [this]
  have ho := hH.obj 0 _ rfl
  obtain ⟨ha, hc, he, hm, hnn⟩ := ho
  have hlr : ∀ l : List α, (rowsN iv n l).length = l.length := fun l => by simp [rowsN]
  have hll : (layN n).length = n := by simp [layN]
  rw [hlr] at hc
  by_cases hzs : zs = []
  · subst hzs
    have hx : ∃ p cap, v = .slice p 0 cap := by
      generalize hA : A.own 0 0 (List.length ([] : List α)) = a at h0
      cases h0 <;> simp at hA
      · obtain ⟨rfl, rfl, rfl⟩ := hA
        exact ⟨_, _, rfl⟩
      · exact ⟨_, _, rfl⟩
    obtain ⟨p, cap, rfl⟩ := hx
    refine (AnyF.slices_SortFunc_none L p cap _ w).mono ?_
    rintro e w' ⟨rfl, rfl⟩
    exact ⟨.tup [], _, G, _, rfl, hH, .tup _ _ rfl (fun i h1 => absurd h1 (by simp)), Gh.Le.refl _ _, fun i hi => .inl hi, Nat.le_refl _, rfl, [], .refl _, .nil, rfl⟩
  · have hlen : 0 < zs.length := List.length_pos_iff.2 hzs
    have hx : ∃ cap, v = .slice (some ⟨G.blk 0, 0, none⟩) zs.length cap ∧ G.ph 0 = false := by
      generalize hA : A.own 0 0 zs.length = a at h0
      cases h0 <;> simp at hA
      · rename_i id off len cap ad hid hp h1 h2 hcap hcnt hl had
        obtain ⟨rfl, rfl, rfl⟩ := hA
        have := had (by omega)
        subst this
        exact ⟨cap, by simp, hp⟩
      · obtain ⟨rfl, rfl, rfl⟩ := hA
        omega
    obtain ⟨cap, rfl, hp⟩ := hx
    obtain ⟨cs, hbk, hsz, hroom, hcs⟩ := hm hp
    obtain ⟨hn1, hn2, hn3⟩ := hH.new 0 _ rfl rfl hp
    rw [hlr] at hroom
    rw [hll] at hsz hcs
    have hcell : ∀ i j, i < zs.length → j < n → cs[i * n + j]? = some (.int .i64 (iv zs[i]! j)) := by
      intro i j hi hj
      obtain ⟨x, hx, hr⟩ := hcs i j (by rw [hlr]; exact hi) hj
      rw [rowsN_cell iv n zs i j hi hj] at hr
      rw [hx]
      cases hr; rfl
    generalize hd : zs.toArray = d
    have hds : d.size = zs.length := by rw [← hd]; simp
    have hdl : d.toList = zs := by rw [← hd]
    have hdi : ∀ i, i < zs.length → d[i]! = zs[i]! := fun i hi => by
      rw [getElem!_pos d i (by omega), getElem!_pos zs i hi]
      subst hd
      simp
    have henc : ∀ x j, j < n → (encN iv n x)[j]! = .int .i64 (iv x j) := fun x j hj => by simp [encN, hj]
    have hHolds : HoldsK (encN iv n) n w (G.blk 0) 0 d := by
      intro t ht
      simp at ht
      have h1 : t / n < zs.length := by
        rw [Nat.div_lt_iff_lt_mul hn]
        rw [hds] at ht
        exact ht
      have h2 : t % n < n := Nat.mod_lt _ hn
      have := hcell (t / n) (t % n) h1 h2
      rw [show t / n * n + t % n = t by rw [Nat.mul_comm]; exact Nat.div_add_mod t n] at this
      refine ⟨?_, by simp [World.frozen?, hbk]⟩
      rw [get_flatK _ _ _ _ (by rw [hds] at ht ⊢; exact ht)]
      simp only [World.cell?, hbk, Nat.zero_add]
      rw [henc _ _ h2, hdi _ h1]
      exact this
    have hcmp : CmpLays P g #[] (encN iv n) n cf (G.blk 0) 0 d.size w := by
      intro m os dk hdk x y
      refine (hcl x y _).mono ?_
      rintro e w' ⟨rfl, q, os', rfl⟩
      exact ⟨rfl, q, os', rfl⟩
    have hcon := (AnyQ.slices_SortFunc L n aE zE (encN iv n) (fun x => by simp [encN]) (fun x v hv => by simp only [encN, List.mem_map] at hv; obtain ⟨j, _, rfl⟩ := hv; rfl) cf swo g #[] (G.blk 0) 0 cap d w eg hcmp hHolds hn3 (by omega))
    rw [hds] at hcon
    refine hcon.mono ?_
    rintro e w' ⟨rfl, d', m, os, hperm, hsort, rfl⟩
    obtain ⟨hp1, _, hp3⟩ := hperm
    have hp4 : d'.toList.Perm zs := by
      rw [← hdl]
      rw [← hds] at hp3
      have e1 : d'.extract 0 d.size = d' := by rw [← hp1]; simp
      rw [e1] at hp3
      simpa using hp3
    have hp5 : d'.toList.Pairwise (fun a b => ltOf cf b a = false) := by
      rw [List.pairwise_iff_getElem]
      intro i j hi hj hij
      have := hsort i j (Nat.zero_le _) hij (by simp at hj; omega)
      simp at hi hj
      rw [getElem!_pos d' i hi, getElem!_pos d' j hj] at this
      simpa using this
    have hyl : d'.toList.length = zs.length := hp4.length_eq
    have hgi : ∀ i, i < zs.length → d'[i]! = d'.toList[i]! := fun i hi => by
      rw [getElem!_pos d' i (by omega), getElem!_pos d'.toList i (by omega)]
      simp
    generalize hys : d'.toList = ys at hp4 hp5 hyl hgi
    have hflat : ∀ t, t < zs.length * n → (flatK (encN iv n) n d')[t]! = (encN iv n d'[t / n]!)[t % n]! := fun t ht => get_flatK _ _ _ _ (by rw [hp1, hds]; exact ht)
    have hU : HR w0 G ([O.arr T (layN n) (rowsN iv n zs)].set 0 (.arr T (layN n) (rowsN iv n ys))) (putRowK (encN iv n) n (Sort.ahead w m) (G.blk 0) 0 d') := by
      refine hH.update (id := 0) (o := .arr T (layN n) (rowsN iv n zs)) rfl rfl hp _ ?_ ?_ rfl rfl rfl ?_
      · simp [putRowK, putRow, mapBlock, Sort.ahead]
      · intro k hk
        simp [putRowK, putRow, mapBlock, Sort.ahead, Array.getElem?_modify, Ne.symm hk]
      · refine ⟨ha, by rw [hc, hlr, hyl], he, fun _ => ?_, fun h => by rw [hp] at h; cases h⟩
        refine ⟨putCells id 0 (flatK (encN iv n) n d') cs, ?_, ?_, ?_, ?_⟩
        · simp [putRowK, putRow, mapBlock, Sort.ahead, Array.getElem?_modify, hbk, onCells]
        · rw [hll]; simp [putCells, hsz]
        · rw [hlr, hyl]; exact hroom
        · intro i j hi hj
          rw [hll] at hj ⊢
          have hi' : i < ys.length := by rw [hlr] at hi; exact hi
          have hlt : i * n + j < zs.length * n := row_lt (by omega) hj
          refine ⟨(encN iv n d'[i]!)[j]!, ?_, ?_⟩
          · have hc2 := hcell i j (by omega) hj
            have h3 := hflat (i * n + j) hlt
            rw [show (i * n + j) / n = i by rw [Nat.mul_comm, Nat.mul_add_div hn, Nat.div_eq_of_lt hj]; rfl, show (i * n + j) % n = j by rw [Nat.mul_comm, Nat.mul_add_mod, Nat.mod_eq_of_lt hj]] at h3
            show (putCells id 0 (flatK (encN iv n) n d') cs)[i * n + j]? = _
            rw [putCells, Array.getElem?_mapIdx, hc2]
            simp only [Option.map_some, size_flatK, hp1, hds, id_eq]
            rw [if_pos ⟨Nat.zero_le _, by omega⟩, Nat.sub_zero, h3]
          · rw [rowsN_cell iv n ys i j hi' hj, henc _ _ hj, hgi i (by omega)]
            exact .int _ _
    have hbel : Below (putRowK (encN iv n) n (Sort.ahead w m) (G.blk 0) 0 d').heap.size (putRowK (encN iv n) n (Sort.ahead w m) (G.blk 0) 0 d') (sortWorldK (encN iv n) n w (G.blk 0) 0 m d' os) := by
      refine ⟨rfl, rfl, rfl, by simp [sortWorldK, grow], ?_⟩
      intro k hk
      show (_ ++ os)[k]? = _
      rw [Array.getElem?_append, if_pos hk]
    exact ⟨.tup [], _, G, _, rfl, hU.below hbel, .tup _ _ rfl (fun i h1 => absurd h1 (by simp)), Gh.Le.refl _ _, fun i hi => .inl hi, Nat.le_refl _, rfl, ys, hp4, hp5, rfl⟩
end
/-- Comparison by a key. -/
theorem swoKey {α : Type} (key : α → Int) : SWO (ltOf fun x y : α => Lib.compareInt (key x) (key y)) where
  irrefl x := by unfold ltOf Lib.compareInt; simp
  trans x y z h1 h2 := by
    unfold ltOf Lib.compareInt at *
    simp only [decide_eq_true_eq] at *
    repeat' split at h1
    all_goals (repeat' split at h2)
    all_goals (repeat' split)
    all_goals omega
  ntrans x y z h1 h2 := by
    unfold ltOf Lib.compareInt at *
    simp only [decide_eq_false_iff_not] at *
    repeat' split at h1
    all_goals (repeat' split at h2)
    all_goals (repeat' split)
    all_goals omega
theorem ltKey {α : Type} (key : α → Int) (x y : α) : ltOf (fun x y : α => Lib.compareInt (key x) (key y)) y x = false ↔ key x ≤ key y := by
  unfold ltOf Lib.compareInt
  simp only [decide_eq_false_iff_not]
  repeat' split
  all_goals omega
end Go.Eng
