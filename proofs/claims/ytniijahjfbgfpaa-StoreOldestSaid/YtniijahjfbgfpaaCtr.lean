/- Warehouses: what the functions that change one, or hand back slices, are asked. No conditions. -/
import Derived.Test.YtniijahjfbgfpaaSto
set_option linter.unusedVariables false
set_option linter.unusedSimpArgs false
namespace Go.Proofs.Ytniijahjfbgfpaa.V
open Go Go.Eng
set_option maxRecDepth 1000000
set_option maxHeartbeats 1000000
abbrev C3 : List LK := [.int .i64, .int .i64, .int .i64]
abbrev C4 : List LK := [.int .i64, .int .i64, .int .i64, .int .i64]
abbrev heapS (x1 : List (List C)) (x2 : List (Int × List C)) (x3 x4 : Int) : List O := [.box 64 [.c (.sl C2 x1), .map 1, .c (.int .i64 x3), .c (.int .i64 x4)], .mp .i64 true C5 x2]
abbrev heapR (x1 x2 : List (List C)) (x3 : Int) : List O := [.box 68 [.c (.sl C2 x1), .c (.sl C4 x2), .c (.int .i64 x3)]]
/-- The reference's item. -/
def itm (h : I5) : I4 := (h.1, widOf h, bayOf h, atOf h)
def slot3 (h : I5) : I3 := (h.1, bayOf h, atOf h)
def freeL (bs : List I2) (hs : List I5) : List Int := (List.range bs.length).map fun (i : Nat) => (bs.getD i z2).1 - cnt hs i
def bayL (bs : List I2) (hs : List I5) (b : Int) : List I3 := if isB bs b = true then (hs.filter fun h => decide (bayOf h = b)).map slot3 else []
def bayE (bs : List I2) (b : Int) : Int := if isB bs b = true then 0 else 7
def badB (x : I2) : Bool := decide (x.1 < 1 ∨ 512 < x.1 ∨ x.2 < 1 ∨ 12000 < x.2)
def newE (bs : List I2) : Int := if bs.length = 0 then 10 else if 32 < bs.length then 8 else if bs.any badB = true then 1 else 0
abbrev K3 := List (Int × List C) → Int → Int → Int → Prop
abbrev K4 := List (Int × List C) → Int → Int → Int → Int → Prop
def spEnter (x1 : List (List C)) (x2 : List (Int × List C)) (x3 x4 r w b t : Int) (K : K3) : Prop :=
  ∃ bs hs, x1 = row2 bs ∧ Wh bs x2 x3 x4 hs ∧ x3 ≤ 1000 ∧ 1 ≤ r ∧ isB bs b = true ∧ ∀ es, Wh bs es (entM bs hs x3 x4 r w b t).tn (entM bs hs x3 x4 r w b t).la (entM bs hs x3 x4 r w b t).hs → K es (entM bs hs x3 x4 r w b t).tn (entM bs hs x3 x4 r w b t).la (entM bs hs x3 x4 r w b t).e
def EnterC (P : Program) (f : FuncId) : Prop := hasBody P f = true ∧ ∀ (x1 : List (List C)) (x2 : List (Int × List C)) (x3 x4 r w b t : Int) (K : K3), spEnter x1 x2 x3 x4 r w b t K →
  ACalls P f [.ptr 0 0, iC r, iC w, iC b, iC t] (heapS x1 x2 x3 x4) fun rr H' => ∃ m i j e, K m i j e ∧ rr = iC e ∧ H' = heapS x1 m i j
def spPut (x1 : List (List C)) (x2 : List (Int × List C)) (x3 x4 r w b t : Int) (K : K3) : Prop :=
  ∃ bs hs, x1 = row2 bs ∧ Wh bs x2 x3 x4 hs ∧ x3 ≤ 1000 ∧ ∀ es, Wh bs es (putO bs hs x3 x4 r w b t).tn (putO bs hs x3 x4 r w b t).la (putO bs hs x3 x4 r w b t).hs → K es (putO bs hs x3 x4 r w b t).tn (putO bs hs x3 x4 r w b t).la (putO bs hs x3 x4 r w b t).e
def spNil0 (K : Prop) : Prop := K
def spNil1 (a : Int) (K : Prop) : Prop := K
def spNil3 (a b c : Int) (K : Prop) : Prop := K
def spNil4 (a b c d : Int) (K : Prop) : Prop := K
def spNil5 (a b c d e : Int) (K : Prop) : Prop := K
def PutC (P : Program) (f : FuncId) : Prop := hasBody P f = true ∧ (∀ (x1 : List (List C)) (x2 : List (Int × List C)) (x3 x4 r w b t : Int) (K : K3), spPut x1 x2 x3 x4 r w b t K →
  ACalls P f [.ptr 0 0, iC r, iC w, iC b, iC t] (heapS x1 x2 x3 x4) fun rr H' => ∃ m i j e, K m i j e ∧ rr = iC e ∧ H' = heapS x1 m i j) ∧
  ∀ (r w b t : Int) (K : Prop), spNil4 r w b t K → ACalls P f [.np, iC r, iC w, iC b, iC t] [] fun rr H' => K ∧ rr = iC 14 ∧ H' = []
def spMove (x1 : List (List C)) (x2 : List (Int × List C)) (x3 x4 r b t : Int) (K : K3) : Prop :=
  ∃ bs hs, x1 = row2 bs ∧ Wh bs x2 x3 x4 hs ∧ x3 ≤ 1000 ∧ ∀ es, Wh bs es (movO bs hs x3 x4 r b t).tn (movO bs hs x3 x4 r b t).la (movO bs hs x3 x4 r b t).hs → K es (movO bs hs x3 x4 r b t).tn (movO bs hs x3 x4 r b t).la (movO bs hs x3 x4 r b t).e
def MoveC (P : Program) (f : FuncId) : Prop := hasBody P f = true ∧ (∀ (x1 : List (List C)) (x2 : List (Int × List C)) (x3 x4 r b t : Int) (K : K3), spMove x1 x2 x3 x4 r b t K →
  ACalls P f [.ptr 0 0, iC r, iC b, iC t] (heapS x1 x2 x3 x4) fun rr H' => ∃ m i j e, K m i j e ∧ rr = iC e ∧ H' = heapS x1 m i j) ∧
  ∀ (r b t : Int) (K : Prop), spNil3 r b t K → ACalls P f [.np, iC r, iC b, iC t] [] fun rr H' => K ∧ rr = iC 14 ∧ H' = []
def spTake (x1 : List (List C)) (x2 : List (Int × List C)) (x3 x4 r : Int) (K : K4) : Prop :=
  ∃ bs hs, x1 = row2 bs ∧ Wh bs x2 x3 x4 hs ∧ x3 ≤ 1000 ∧ ∀ es, Wh bs es (takO hs x3 x4 r).tn (takO hs x3 x4 r).la (takO hs x3 x4 r).hs → K es (takO hs x3 x4 r).tn (takO hs x3 x4 r).la (takO hs x3 x4 r).n (takO hs x3 x4 r).e
def TakeC (P : Program) (f : FuncId) : Prop := hasBody P f = true ∧ (∀ (x1 : List (List C)) (x2 : List (Int × List C)) (x3 x4 r : Int) (K : K4), spTake x1 x2 x3 x4 r K →
  ACalls P f [.ptr 0 0, iC r] (heapS x1 x2 x3 x4) fun rr H' => ∃ m i j n e, K m i j n e ∧ rr = .tup [iC n, iC e] ∧ H' = heapS x1 m i j) ∧
  ∀ (r : Int) (K : Prop), spNil1 r K → ACalls P f [.np, iC r] [] fun rr H' => K ∧ rr = .tup [iC 0, iC 14] ∧ H' = []
abbrev opA (k r w b t : Int) : A := .agg [iC k, iC r, iC w, iC b, iC t]
def spDo (x1 : List (List C)) (x2 : List (Int × List C)) (x3 x4 k r w b t : Int) (K : K4) : Prop :=
  ∃ bs hs, x1 = row2 bs ∧ Wh bs x2 x3 x4 hs ∧ x3 ≤ 1000 ∧ ∀ es, Wh bs es (opO bs hs x3 x4 k r w b t).tn (opO bs hs x3 x4 k r w b t).la (opO bs hs x3 x4 k r w b t).hs → K es (opO bs hs x3 x4 k r w b t).tn (opO bs hs x3 x4 k r w b t).la (opO bs hs x3 x4 k r w b t).n (opO bs hs x3 x4 k r w b t).e
def DoC (P : Program) (f : FuncId) : Prop := hasBody P f = true ∧ (∀ (x1 : List (List C)) (x2 : List (Int × List C)) (x3 x4 k r w b t : Int) (K : K4), spDo x1 x2 x3 x4 k r w b t K →
  ACalls P f [.ptr 0 0, opA k r w b t] (heapS x1 x2 x3 x4) fun rr H' => ∃ m i j n e, K m i j n e ∧ rr = .tup [iC n, iC e] ∧ H' = heapS x1 m i j) ∧
  ∀ (k r w b t : Int) (K : Prop), spNil5 k r w b t K → ACalls P f [.np, opA k r w b t] [] fun rr H' => K ∧ rr = .tup [iC 0, iC 14] ∧ H' = []
/-! ### The reference -/
abbrev R3 := List (List C) → Int → Int → Prop
abbrev R4 := List (List C) → Int → Int → Int → Prop
/-- The reference's variable holds these rolls. -/
def RSt (bs : List I2) (x1 x2 : List (List C)) (la : Int) (hs : List I5) : Prop := x1 = row2 bs ∧ x2 = row4 (hs.map itm) ∧ ∃ tn, Inv bs tn la hs ∧ tn ≤ 1000
def spRPut (x1 x2 : List (List C)) (x3 r w b t : Int) (K : R3) : Prop := ∃ bs hs tn, RSt bs x1 x2 x3 hs ∧ K (row4 ((putO bs hs tn x3 r w b t).hs.map itm)) (putO bs hs tn x3 r w b t).la (putO bs hs tn x3 r w b t).e
def RPutC (P : Program) (f : FuncId) : Prop := hasBody P f = true ∧ ∀ (x1 x2 : List (List C)) (x3 r w b t : Int) (K : R3), spRPut x1 x2 x3 r w b t K →
  ACalls P f [.ptr 0 0, iC r, iC w, iC b, iC t] (heapR x1 x2 x3) fun rr H' => ∃ l i e, K l i e ∧ rr = iC e ∧ H' = heapR x1 l i
def spRMove (x1 x2 : List (List C)) (x3 r b t : Int) (K : R3) : Prop := ∃ bs hs tn, RSt bs x1 x2 x3 hs ∧ K (row4 ((movO bs hs tn x3 r b t).hs.map itm)) (movO bs hs tn x3 r b t).la (movO bs hs tn x3 r b t).e
def RMoveC (P : Program) (f : FuncId) : Prop := hasBody P f = true ∧ ∀ (x1 x2 : List (List C)) (x3 r b t : Int) (K : R3), spRMove x1 x2 x3 r b t K →
  ACalls P f [.ptr 0 0, iC r, iC b, iC t] (heapR x1 x2 x3) fun rr H' => ∃ l i e, K l i e ∧ rr = iC e ∧ H' = heapR x1 l i
def spRTake (x1 x2 : List (List C)) (x3 r : Int) (K : R4) : Prop := ∃ bs hs tn, RSt bs x1 x2 x3 hs ∧ K (row4 ((takO hs tn x3 r).hs.map itm)) (takO hs tn x3 r).la (takO hs tn x3 r).n (takO hs tn x3 r).e
def RTakeC (P : Program) (f : FuncId) : Prop := hasBody P f = true ∧ ∀ (x1 x2 : List (List C)) (x3 r : Int) (K : R4), spRTake x1 x2 x3 r K →
  ACalls P f [.ptr 0 0, iC r] (heapR x1 x2 x3) fun rr H' => ∃ l i n e, K l i n e ∧ rr = .tup [iC n, iC e] ∧ H' = heapR x1 l i
def spMust (x1 x2 : List (List C)) (x3 k r w b t : Int) (K : R4) : Prop := ∃ bs hs tn, RSt bs x1 x2 x3 hs ∧ K (row4 ((opO bs hs tn x3 k r w b t).hs.map itm)) (opO bs hs tn x3 k r w b t).la (opO bs hs tn x3 k r w b t).n (opO bs hs tn x3 k r w b t).e
def MustC (P : Program) (f : FuncId) : Prop := hasBody P f = true ∧ ∀ (x1 x2 : List (List C)) (x3 k r w b t : Int) (K : R4), spMust x1 x2 x3 k r w b t K →
  ACalls P f [.ptr 0 0, opA k r w b t] (heapR x1 x2 x3) fun rr H' => ∃ l i n e, K l i n e ∧ rr = .tup [iC n, iC e] ∧ H' = heapR x1 l i
/-! ### What hands back slices -/
def spFree (x1 : List (List C)) (x2 : List (Int × List C)) (x3 x4 : Int) (K : List (List C) → Prop) : Prop := ∃ bs hs, x1 = row2 bs ∧ Wh bs x2 x3 x4 hs ∧ x3 ≤ 1000 ∧ K (rowsI (freeL bs hs))
def FreeC (P : Program) (f : FuncId) : Prop := hasBody P f = true ∧ (∀ (x1 : List (List C)) (x2 : List (Int × List C)) (x3 x4 : Int) (K : List (List C) → Prop), spFree x1 x2 x3 x4 K →
  ACalls P f [.ptr 0 0] (heapS x1 x2 x3 x4) fun rr H' => ∃ l, K l ∧ rr = .c (.sl [.int .i64] l) ∧ H' = heapS x1 x2 x3 x4) ∧ ∀ (K : Prop), spNil0 K → ACalls P f [.np] [] fun rr H' => K ∧ rr = .c .nil ∧ H' = []
def spRFree (x1 x2 : List (List C)) (x3 : Int) (K : List (List C) → Prop) : Prop := ∃ bs hs, RSt bs x1 x2 x3 hs ∧ K (rowsI (freeL bs hs))
def RFreeC (P : Program) (f : FuncId) : Prop := hasBody P f = true ∧ ∀ (x1 x2 : List (List C)) (x3 : Int) (K : List (List C) → Prop), spRFree x1 x2 x3 K →
  ACalls P f [.ptr 0 0] (heapR x1 x2 x3) fun rr H' => ∃ l, K l ∧ rr = .c (.sl [.int .i64] l) ∧ H' = heapR x1 x2 x3
def spBay (x1 : List (List C)) (x2 : List (Int × List C)) (x3 x4 b : Int) (K : List (List C) → Int → Prop) : Prop := ∃ bs hs, x1 = row2 bs ∧ Wh bs x2 x3 x4 hs ∧ x3 ≤ 1000 ∧ K (row3 (bayL bs hs b)) (bayE bs b)
def BayC (P : Program) (f : FuncId) : Prop := hasBody P f = true ∧ (∀ (x1 : List (List C)) (x2 : List (Int × List C)) (x3 x4 b : Int) (K : List (List C) → Int → Prop), spBay x1 x2 x3 x4 b K →
  ACalls P f [.ptr 0 0, iC b] (heapS x1 x2 x3 x4) fun rr H' => ∃ l e, K l e ∧ rr = .tup [.c (.sl C3 l), iC e] ∧ H' = heapS x1 x2 x3 x4) ∧ ∀ (b : Int) (K : Prop), spNil1 b K → ACalls P f [.np, iC b] [] fun rr H' => K ∧ rr = .tup [.c .nil, iC 14] ∧ H' = []
def spRBay (x1 x2 : List (List C)) (x3 b : Int) (K : List (List C) → Int → Prop) : Prop := ∃ bs hs, RSt bs x1 x2 x3 hs ∧ K (row3 (bayL bs hs b)) (bayE bs b)
def RBayC (P : Program) (f : FuncId) : Prop := hasBody P f = true ∧ ∀ (x1 x2 : List (List C)) (x3 b : Int) (K : List (List C) → Int → Prop), spRBay x1 x2 x3 b K →
  ACalls P f [.ptr 0 0, iC b] (heapR x1 x2 x3) fun rr H' => ∃ l e, K l e ∧ rr = .tup [.c (.sl C3 l), iC e] ∧ H' = heapR x1 x2 x3
def spSort (xs : List (List C)) (K : List (List C) → Prop) : Prop := ∃ m : List I5, xs = row5 m ∧ m.length ≤ 1000 ∧ (m.Pairwise fun a b => turnOf a ≠ turnOf b) ∧ ∀ zs : List I5, zs.Perm m → (zs.Pairwise fun a b => turnOf a < turnOf b) → K (row5 zs)
def SortC (P : Program) (f : FuncId) : Prop := hasBody P f = true ∧ ∀ (xs : List (List C)) (K : List (List C) → Prop), spSort xs K →
  ACalls P f [.gr 0, .fn 36 []] [.arr 73 C5 xs] fun r H' => ∃ d, K d ∧ r = .tup [] ∧ H' = [.arr 73 C5 d]
/-- A copy of a part of an array of the call's own. -/
def spCloneK (xs : List (List C)) (off len : Int) (K : List (List C) → Prop) : Prop := 0 ≤ off ∧ 0 ≤ len ∧ off + len ≤ xs.length ∧ len ≤ 1000000 ∧ K ((xs.take (off + len).toNat).drop off.toNat)
def CloneK (T : TypeId) (lay : List LK) (P : Program) (f : FuncId) : Prop :=
  hasBody P f = true ∧ ∀ (T' : TypeId) (xs : List (List C)) (off len : Int) (K : List (List C) → Prop), spCloneK xs off len K → ACalls P f [.own 0 off len] [.arr T' lay xs] fun r H' => ∃ d, K d ∧ r = .gr 1 ∧ H' = [.arr T' lay xs, .arr T lay d]
theorem CloneO.k {T : TypeId} {lay : List LK} {P : Program} {f : FuncId} (h : CloneO T lay P f) : CloneK T lay P f :=
  ⟨h.1, fun T' xs off len K ⟨h0, h1, h2, h3, hk⟩ => (h.2 T' xs off len True ⟨h0, h1, h2, h3, trivial⟩).mono fun r H' ⟨_, e1, e2⟩ => ⟨_, hk, e1, e2⟩⟩
def CloneCO (T : TypeId) (lay : List LK) (P : Program) (f : FuncId) : Prop := CloneC T lay P f ∧ CloneK T lay P f
theorem cloneco41 : CloneCO 52 [.int .i64, .int .i64] Try.prog 41 := ⟨clone41, CloneO.k cloneo41⟩
def spNew (x1 : List (List C)) (K0 : Int → Prop) (K1 : Prop) : Prop := ∃ bs, x1 = row2 bs ∧ (newE bs ≠ 0 → K0 (newE bs)) ∧ (newE bs = 0 → K1)
def NewC (P : Program) (f : FuncId) : Prop := hasBody P f = true ∧ ∀ (x1 : List (List C)) (K0 : Int → Prop) (K1 : Prop), spNew x1 K0 K1 →
  ACalls P f [.c (.sl C2 x1)] [] fun r H' => (∃ i, K0 i ∧ r = .tup [.np, iC i] ∧ H' = []) ∨ (K1 ∧ r = .tup [.ptr 0 0, iC 0] ∧ H' = heapS x1 [] 0 0)
def RNewC (P : Program) (f : FuncId) : Prop := hasBody P f = true ∧ ∀ (x1 : List (List C)) (K0 : Int → Prop) (K1 : Prop), spNew x1 K0 K1 →
  ACalls P f [.c (.sl C2 x1)] [] fun r H' => (∃ i, K0 i ∧ r = .tup [.np, iC i] ∧ H' = []) ∨ (K1 ∧ r = .tup [.ptr 0 0, iC 0] ∧ H' = heapR x1 [] 0)
def spBegin (x1 x2 : List (List C)) (K0 K1 : Prop) : Prop := ∃ bs, x1 = row2 bs ∧ K0 ∧ (x2.length ≤ 120 → newE bs = 0 → K1)
def BeginC (P : Program) (f : FuncId) : Prop := hasBody P f = true ∧ ∀ (x1 x2 : List (List C)) (K0 K1 : Prop), spBegin x1 x2 K0 K1 →
  ACalls P f [.c (.sl C2 x1), .c (.sl C5 x2)] [] fun r H' => (K0 ∧ r = .tup [.np, .np, .c (.bool true)] ∧ H' = []) ∨
    (K1 ∧ r = .tup [.ptr 0 0, .ptr 2 0, .c (.bool true)] ∧ H' = [.box 64 [.c (.sl C2 x1), .map 1, .c (.int .i64 0), .c (.int .i64 0)], .mp .i64 true C5 [], .box 68 [.c (.sl C2 x1), .c (.sl C4 []), .c (.int .i64 0)]])
theorem Wh.nil {bs : List I2} (h : newE bs = 0) : Wh bs [] 0 0 [] := by
  have : 1 ≤ bs.length ∧ bs.length ≤ 32 ∧ bs.any badB = false := by
    unfold newE at h
    split at h
    · cases h
    · split at h
      · cases h
      · split at h
        · cases h
        · rename_i h1 h2 h3; exact ⟨by omega, by omega, by simpa using h3⟩
  refine ⟨[], rfl, .refl _, ⟨⟨this.1, this.2.1⟩, fun x hx => ?_, by simp [keys], .nil, by simp, by decide, by simp, .nil, by simp, by decide, by simp, by simp, fun b hb => ?_⟩⟩
  · have := List.any_eq_false.1 this.2.2 x hx
    simp only [badB, decide_eq_true_eq] at this
    omega
  · have hm : bs.getD b z2 ∈ bs := by rw [List.getD_eq_getElem?_getD, List.getElem?_eq_getElem hb]; exact List.getElem_mem hb
    have := List.any_eq_false.1 this.2.2 _ hm
    simp only [badB, decide_eq_true_eq] at this
    simp only [cnt, List.filter_nil, List.length_nil]
    omega
end Go.Proofs.Ytniijahjfbgfpaa.V
