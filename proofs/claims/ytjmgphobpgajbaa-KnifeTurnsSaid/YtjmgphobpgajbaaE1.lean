/- An abstract machine over plain data, with a proof that it follows the model (1 of 5). No conditions. -/
import Derived.Orders
import Derived.Below
import Derived.Deep.AppendSrc
import Derived.Deep.MidRow
import Derived.Laws.StructEq
import Derived.IntWalk
set_option linter.unusedVariables false
set_option linter.unusedSimpArgs false
/- An abstract machine over plain data, part A: the values, what they stand for in a world, and how that is kept. -/
namespace Go.Eng
open Go.RowKit

/-- The kind of a cell: a number, a bool, a string, a slice whose elements have cells of these kinds, a map whose values have (row: are structs of) cells of these kinds. -/
inductive LK where
  | int (k : IntKind)
  | bool
  | str
  | sl (lay : List LK)
  | mp (kk : IntKind) (row : Bool) (lay : List LK)
  deriving Inhabited

mutual
def LK.beq : LK → LK → Bool
  | .int k, .int k' => k == k'
  | .bool, .bool => true
  | .str, .str => true
  | .sl a, .sl b => LK.beqs a b
  | .mp k r a, .mp k' r' b => k == k' && r == r' && LK.beqs a b
  | _, _ => false
def LK.beqs : List LK → List LK → Bool
  | [], [] => true
  | a :: as, b :: bs => LK.beq a b && LK.beqs as bs
  | _, _ => false
end
mutual
theorem LK.beq_eq : ∀ (a b : LK), LK.beq a b = true → a = b
  | .int k, b, h => by cases b <;> simp [LK.beq] at h; subst h; rfl
  | .bool, b, h => by cases b <;> simp [LK.beq] at h; rfl
  | .str, b, h => by cases b <;> simp [LK.beq] at h; rfl
  | .sl a, b, h => by
    cases b <;> simp [LK.beq] at h
    rename_i b
    rw [LK.beqs_eq a b h]
  | .mp k r a, b, h => by
    cases b <;> simp [LK.beq] at h
    rename_i k' r' b
    obtain ⟨⟨rfl, rfl⟩, h⟩ := h
    rw [LK.beqs_eq a b h]
theorem LK.beqs_eq : ∀ (a b : List LK), LK.beqs a b = true → a = b
  | [], b, h => by cases b <;> simp [LK.beqs] at h; rfl
  | a :: as, b, h => by
    cases b with
    | nil => simp [LK.beqs] at h
    | cons b bs =>
      simp only [LK.beqs, Bool.and_eq_true] at h
      rw [LK.beq_eq a b h.1, LK.beqs_eq as bs h.2]
end

/-- Data: what is never changed any more. One cell each. 'sl lay xs': a slice (nil, too, if it has no element) whose elements have cells of the kinds lay. 'mp ..': a map (nil, too, if it has no entry). -/
inductive C where
  | int (k : IntKind) (n : Int)
  | bool (b : Bool)
  | str (s : ByteArray)
  | nil
  | sl (lay : List LK) (xs : List (List C))
  | mp (kk : IntKind) (row : Bool) (lay : List LK) (es : List (Int × List C))
  deriving Inhabited

def C.gi : C → Int
  | .int _ n => n
  | _ => 0
def C.gb : C → Bool
  | .bool b => b
  | _ => false
def C.gs : C → ByteArray
  | .str s => s
  | _ => ByteArray.empty
def C.gl : C → List (List C)
  | .sl _ xs => xs
  | _ => []
def C.gm : C → List (Int × List C)
  | .mp _ _ _ es => es
  | _ => []
/-- c, read as a cell of this kind. -/
def fixC (k : LK) (c : C) : C :=
  match k with
  | .int k => .int k c.gi
  | .bool => .bool c.gb
  | .str => .str c.gs
  | .sl lay => .sl lay c.gl
  | .mp kk r lay => .mp kk r lay c.gm
def cellAt (xs : List (List C)) (i j : Nat) : C := (xs.getD i []).getD j .nil
/-- Cell j of element i. -/
def cellC (lay : List LK) (xs : List (List C)) (i j : Nat) : C := fixC (lay.getD j .bool) (cellAt xs i j)

/-- What a temporary or a cell holds. u: nothing is known; wh b v: v if b, else nothing was done; own id off len: a part of array id; gr id: all of array id (nil, if that array is only a phantom);
pin v a: v itself, which a stands for; ptr: a cell of box id; eptr: a cell of an element of array id; el: a cell of element i of frozen memory that reads as xs. -/
inductive A where
  | c (c : C)
  | u
  | wh (b : Bool) (v : A)
  | own (id : Nat) (off len : Int)
  | gr (id : Nat)
  | ptr (id off : Nat)
  | eptr (id : Nat) (i : Int) (off : Nat)
  | el (lay : List LK) (xs : List (List C)) (i : Int) (off : Nat)
  | np
  | map (id : Nat)
  | nm
  | pin (v : Value) (a : A)
  | fn (f : FuncId) (cap : List A)
  | nf
  | agg (l : List A)
  | tup (l : List A)
  deriving Inhabited

/-- The ghost: the memory that is frozen, and for each object of the abstract heap its block, how many elements it has room for, the cells of an element, how many elements it has, whether it is a phantom
(an array without elements and without a block), and whether it has been made. -/
structure Gh where
  F : Nat → Nat → Option Value
  blk : Nat → Nat
  room : Nat → Nat
  esz : Nat → Nat
  cnt : Nat → Nat
  ph : Nat → Bool
  al : Nat → Bool

/-- A map's memory, as one value. -/
def encM (ms : Array MapEntry) (clock : Nat) : Value :=
  .tuple #[.int .i64 clock, .tuple (ms.map (·.key)), .tuple (ms.map (·.val)), .tuple (ms.map fun e => .int .i64 e.born)]
theorem encM_one (ms : Array MapEntry) (clock : Nat) : (encM ms clock).oneCell' = false := rfl
theorem encM_inj {ms ms' : Array MapEntry} {c c' : Nat} (h : encM ms c = encM ms' c') : ms = ms' ∧ c = c' := by
  simp only [encM, Value.tuple.injEq] at h
  have h0 := congrArg (fun a : Array Value => a.toList) h
  simp only [List.cons.injEq, Value.int.injEq, Value.tuple.injEq, true_and, and_true] at h0
  obtain ⟨h1, h2, h3, h4⟩ := h0
  refine ⟨?_, by omega⟩
  have hs : ms.size = ms'.size := by simpa using congrArg Array.size h2
  refine Array.ext hs fun i g1 g2 => ?_
  have k2 : (ms.map (·.key))[i]? = (ms'.map (·.key))[i]? := by rw [h2]
  have k3 : (ms.map (·.val))[i]? = (ms'.map (·.val))[i]? := by rw [h3]
  have k4 : (ms.map fun e => Value.int .i64 e.born)[i]? = (ms'.map fun e => Value.int .i64 e.born)[i]? := by rw [h4]
  simp [g1, g2] at k2 k3 k4
  cases e1 : ms[i] with
  | mk a b c => cases e2 : ms'[i] with
    | mk a' b' c' => simp [e1, e2] at k2 k3 k4; have k5 : c = c' := Int.ofNat.inj k4; simp [k2, k3, k5]
/-- A map's entries: keys, stamps. -/
structure MSt (kk : IntKind) (es : List (Int × List C)) (ms : Array MapEntry) (clock : Nat) : Prop where
  size : ms.size = es.length
  key : ∀ i (h1 : i < es.length) (h2 : i < ms.size), ms[i].key = .int kk es[i].1
  old : ∀ x ∈ ms.toList, x.born < clock
  apart : (ms.toList.map (·.born)).Nodup
/-- A value of a map, from its cells. -/
def mval (row : Bool) (n : Nat) (vs : Nat → Value) : Value := if row then .agg (Array.ofFn fun j : Fin n => vs j) else vs 0
def mcell (es : List (Int × List C)) (i j : Nat) : C := (es.getD i (0, [])).2.getD j .nil
inductive CR (F : Nat → Nat → Option Value) : C → Value → Prop
  | int (k n) : CR F (.int k n) (.int k n)
  | bool (b) : CR F (.bool b) (.bool b)
  | str (s) : CR F (.str s) (.string s)
  | nil : CR F .nil (.slice none 0 0)
  | sl (lay : List LK) (xs : List (List C)) (a : Option Addr) (cap : Nat) (b o : Nat) (vs : Nat → Nat → Value)
      (hcap : xs.length ≤ cap) (ha : xs ≠ [] → a = some ⟨b, o, none⟩)
      (hF : ∀ i j, i < xs.length → j < lay.length → F b (o + (i * lay.length + j)) = some (vs i j))
      (hv : ∀ i j, i < xs.length → j < lay.length → CR F (fixC (lay.getD j .bool) (cellAt xs i j)) (vs i j)) :
      CR F (.sl lay xs) (.slice a xs.length cap)
  | mp (kk : IntKind) (row : Bool) (lay : List LK) (es : List (Int × List C)) (m : Option Nat) (ms : Array MapEntry) (clock : Nat) (vs : Nat → Nat → Value)
      (hnil : m = none → es = []) (hF : ∀ b, m = some b → F b 0 = some (encM ms clock)) (hst : m ≠ none → MSt kk es ms clock) (hlay : row = false → lay.length = 1)
      (hval : m ≠ none → ∀ i (h : i < ms.size), ms[i].val = mval row lay.length (vs i))
      (hv : ∀ i j, i < es.length → j < lay.length → CR F (fixC (lay.getD j .bool) (mcell es i j)) (vs i j)) :
      CR F (.mp kk row lay es) (.map m)

theorem CR.mono {F F' : Nat → Nat → Option Value} (hF : ∀ b o v, F b o = some v → F' b o = some v) {c : C} {v : Value} (h : CR F c v) : CR F' c v := by
  induction h with
  | int k n => exact .int k n
  | bool b => exact .bool b
  | str s => exact .str s
  | nil => exact .nil
  | sl lay xs a cap b o vs hcap ha hF' hv ih => exact .sl lay xs a cap b o vs hcap ha (fun i j hi hj => hF _ _ _ (hF' i j hi hj)) ih
  | mp kk row lay es m ms clock vs hnil hF' hst hlay hval hv ih => exact .mp kk row lay es m ms clock vs hnil (fun b hb => hF _ _ _ (hF' b hb)) hst hlay hval ih

theorem CR.one {F : Nat → Nat → Option Value} {c : C} {v : Value} (h : CR F c v) : v.oneCell' = true := by cases h <;> rfl

inductive VR (G : Gh) : A → Value → Prop
  | c {c v} (h : CR G.F c v) : VR G (.c c) v
  | u (v) : VR G .u v
  | wh (b : Bool) (a : A) (v : Value) (h : b = true → VR G a v) (h' : b = false → v = .tuple #[]) : VR G (.wh b a) v
  | own (id : Nat) (off len : Int) (cap : Nat) (ad : Addr) (hid : G.al id = true) (hp : G.ph id = false) (h0 : 0 ≤ off) (h1 : 0 ≤ len) (hcap : off.toNat + cap = G.room id)
      (hcnt : off + len ≤ G.cnt id) (hlen : len.toNat ≤ cap)
      (had : cap ≠ 0 → ad = ⟨G.blk id, off.toNat * G.esz id, none⟩) : VR G (.own id off len) (.slice (some ad) len.toNat cap)
  | ownn (id : Nat) (off len : Int) (hid : G.al id = true) (hp : G.ph id = true) (hc : G.cnt id = 0) (h0 : 0 ≤ off) (h1 : len = 0) : VR G (.own id off len) (.slice none 0 0)
  | gr (id cap : Nat) (ad : Addr) (hid : G.al id = true) (hp : G.ph id = false) (hcap : cap = G.room id) (hlen : G.cnt id ≤ cap)
      (had : cap ≠ 0 → ad = ⟨G.blk id, 0, none⟩) : VR G (.gr id) (.slice (some ad) (G.cnt id) cap)
  | grn (id : Nat) (hid : G.al id = true) (hp : G.ph id = true) (hc : G.cnt id = 0) : VR G (.gr id) (.slice none 0 0)
  | ptr (id off : Nat) (hid : G.al id = true) (hp : G.ph id = false) : VR G (.ptr id off) (.pointer (some ⟨G.blk id, off, none⟩))
  | eptr (id : Nat) (i : Int) (off : Nat) (hid : G.al id = true) (hp : G.ph id = false) (h0 : 0 ≤ i) (hcnt : i < G.cnt id) :
      VR G (.eptr id i off) (.pointer (some ⟨G.blk id, i.toNat * G.esz id + off, none⟩))
  | el (lay : List LK) (xs : List (List C)) (i : Int) (off : Nat) (b o : Nat) (vs : Nat → Value) (h0 : 0 ≤ i) (hi : i < xs.length)
      (hF : ∀ j, j < lay.length → G.F b (o + j) = some (vs j)) (hv : ∀ j, j < lay.length → CR G.F (cellC lay xs i.toNat j) (vs j)) : VR G (.el lay xs i off) (.pointer (some ⟨b, o + off, none⟩))
  | np : VR G .np (.pointer none)
  | map (id : Nat) (hid : G.al id = true) (hp : G.ph id = false) : VR G (.map id) (.map (some (G.blk id)))
  | nm : VR G .nm (.map none)
  | pin (v : Value) (a : A) (h : VR G a v) : VR G (.pin v a) v
  | fn (f : FuncId) (cap : List A) (vs : Array Value) (hl : vs.size = cap.length)
      (h : ∀ i (h1 : i < cap.length) (h2 : i < vs.size), VR G cap[i] vs[i]) : VR G (.fn f cap) (.func (.func f) #[] vs)
  | nf : VR G .nf .nilFunc
  | agg (l : List A) (vs : Array Value) (hl : vs.size = l.length) (h1 : ∀ i (h : i < vs.size), vs[i].oneCell' = true)
      (h : ∀ i (h1 : i < l.length) (h2 : i < vs.size), VR G l[i] vs[i]) : VR G (.agg l) (.agg vs)
  | tup (l : List A) (vs : Array Value) (hl : vs.size = l.length)
      (h : ∀ i (h1 : i < l.length) (h2 : i < vs.size), VR G l[i] vs[i]) : VR G (.tup l) (.tuple vs)

/-- G' knows all that G knows of the frozen memory and of the objects; and nothing more of the blocks below m. -/
structure Gh.Le (m : Nat → Prop) (G G' : Gh) : Prop where
  F : ∀ b o v, G.F b o = some v → G'.F b o = some v
  old : ∀ b o, m b → G'.F b o = G.F b o
  al : ∀ id, G.al id = true → G'.al id = true
  blk : ∀ id, G.al id = true → G'.blk id = G.blk id
  room : ∀ id, G.al id = true → G'.room id = G.room id
  esz : ∀ id, G.al id = true → G'.esz id = G.esz id
  cnt : ∀ id, G.al id = true → G'.cnt id = G.cnt id
  ph : ∀ id, G.al id = true → G'.ph id = G.ph id

theorem Gh.Le.refl (m : Nat → Prop) (G : Gh) : Gh.Le m G G := ⟨fun _ _ _ h => h, fun _ _ _ => rfl, fun _ h => h, fun _ _ => rfl, fun _ _ => rfl, fun _ _ => rfl, fun _ _ => rfl, fun _ _ => rfl⟩
theorem Gh.Le.trans {m : Nat → Prop} {G G' G'' : Gh} (h : Gh.Le m G G') (k : Gh.Le m G' G'') : Gh.Le m G G'' :=
  ⟨fun b o v e => k.F b o v (h.F b o v e), fun b o hb => (k.old b o hb).trans (h.old b o hb), fun i hi => k.al i (h.al i hi),
    fun i hi => (k.blk i (h.al i hi)).trans (h.blk i hi), fun i hi => (k.room i (h.al i hi)).trans (h.room i hi), fun i hi => (k.esz i (h.al i hi)).trans (h.esz i hi),
    fun i hi => (k.cnt i (h.al i hi)).trans (h.cnt i hi), fun i hi => (k.ph i (h.al i hi)).trans (h.ph i hi)⟩
theorem Gh.Le.less {m m' : Nat → Prop} {G G' : Gh} (h : Gh.Le m G G') (hm : ∀ b, m' b → m b) : Gh.Le m' G G' :=
  ⟨h.F, fun b o hb => h.old b o (hm b hb), h.al, h.blk, h.room, h.esz, h.cnt, h.ph⟩

theorem VR.mono {m : Nat → Prop} {G G' : Gh} (hG : Gh.Le m G G') {a : A} {v : Value} (h : VR G a v) : VR G' a v := by
  induction h with
  | c h => exact .c (h.mono hG.F)
  | u v => exact .u v
  | wh b a v _ h' ih => exact .wh b a v ih h'
  | own id off len cap ad hid hp h0 h1 hcap hcnt hlen had =>
    exact .own id off len cap ad (hG.al id hid) (by rw [hG.ph id hid]; exact hp) h0 h1 (by rw [hG.room id hid]; exact hcap) (by rw [hG.cnt id hid]; exact hcnt) hlen (by rw [hG.blk id hid, hG.esz id hid]; exact had)
  | ownn id off len hid hp hc h0 h1 => exact .ownn id off len (hG.al id hid) (by rw [hG.ph id hid]; exact hp) (by rw [hG.cnt id hid]; exact hc) h0 h1
  | gr id cap ad hid hp hcap hlen had =>
    have := VR.gr (G := G') id cap ad (hG.al id hid) (by rw [hG.ph id hid]; exact hp) (by rw [hG.room id hid]; exact hcap) (by rw [hG.cnt id hid]; exact hlen) (by rw [hG.blk id hid]; exact had)
    rw [hG.cnt id hid] at this; exact this
  | grn id hid hp hc => exact .grn id (hG.al id hid) (by rw [hG.ph id hid]; exact hp) (by rw [hG.cnt id hid]; exact hc)
  | ptr id off hid hp => have := VR.ptr (G := G') id off (hG.al id hid) (by rw [hG.ph id hid]; exact hp); rw [hG.blk id hid] at this; exact this
  | eptr id i off hid hp h0 hcnt =>
    have := VR.eptr (G := G') id i off (hG.al id hid) (by rw [hG.ph id hid]; exact hp) h0 (by rw [hG.cnt id hid]; exact hcnt); rw [hG.blk id hid, hG.esz id hid] at this; exact this
  | el lay xs i off b o vs h0 hi hF hv => exact .el lay xs i off b o vs h0 hi (fun j hj => hG.F _ _ _ (hF j hj)) (fun j hj => (hv j hj).mono hG.F)
  | np => exact .np
  | map id hid hp => have := VR.map (G := G') id (hG.al id hid) (by rw [hG.ph id hid]; exact hp); rw [hG.blk id hid] at this; exact this
  | nm => exact .nm
  | pin v a _ ih => exact .pin v a ih
  | fn f cap vs hl h ih => exact .fn f cap vs hl ih
  | nf => exact .nf
  | agg l vs hl h1 h ih => exact .agg l vs hl h1 ih
  | tup l vs hl h ih => exact .tup l vs hl ih

/-! ### Objects and heaps -/
/-- An object of the abstract heap: a variable in memory; an array of the call's own; an array that is frozen; a map (entries in order of insertion); a map that is frozen; nothing that may be used. -/
inductive O where
  | box (T : TypeId) (cs : List A)
  | arr (T : TypeId) (lay : List LK) (xs : List (List C))
  | frz (lay : List LK) (xs : List (List C))
  | mp (kk : IntKind) (row : Bool) (lay : List LK) (es : List (Int × List C))
  | fmp (kk : IntKind) (row : Bool) (lay : List LK) (es : List (Int × List C))
  | dead
  deriving Inhabited

/-- A map's value. -/
def VRow (F : Nat → Nat → Option Value) (row : Bool) (lay : List LK) (r : List C) (v : Value) : Prop :=
  ∃ vs : Nat → Value, v = mval row lay.length vs ∧ ∀ j, j < lay.length → CR F (fixC (lay.getD j .bool) (r.getD j .nil)) (vs j)
theorem VRow.mono {F F' : Nat → Nat → Option Value} (hF : ∀ b o v, F b o = some v → F' b o = some v) {row : Bool} {lay : List LK} {r : List C} {v : Value} (h : VRow F row lay r v) : VRow F' row lay r v :=
  have ⟨vs, h1, h2⟩ := h
  ⟨vs, h1, fun j hj => (h2 j hj).mono hF⟩
/-- What a map holds. -/
structure MR (F : Nat → Nat → Option Value) (kk : IntKind) (row : Bool) (lay : List LK) (es : List (Int × List C)) (ms : Array MapEntry) (clock : Nat) : Prop where
  st : MSt kk es ms clock
  wide : row = false → lay.length = 1
  val : ∀ i (h1 : i < es.length) (h2 : i < ms.size), VRow F row lay es[i].2 ms[i].val
theorem MR.mono {F F' : Nat → Nat → Option Value} (hF : ∀ b o v, F b o = some v → F' b o = some v) {kk : IntKind} {row : Bool} {lay : List LK} {es : List (Int × List C)} {ms : Array MapEntry} {clock : Nat} (h : MR F kk row lay es ms clock) : MR F' kk row lay es ms clock :=
  ⟨h.st, h.wide, fun i h1 h2 => (h.val i h1 h2).mono hF⟩

def OR (G : Gh) (w : World) (id : Nat) : O → Prop
  | .box T cs => G.al id = true ∧ G.ph id = false ∧ G.cnt id = 1 ∧ G.esz id = cs.length ∧ ∃ vs : Array Value, w.heap[G.blk id]? = some (.cells vs T (0, 0)) ∧ vs.size = cs.length ∧
      ∀ j (h1 : j < cs.length) (h2 : j < vs.size), VR G cs[j] vs[j] ∧ vs[j].oneCell' = true
  | .arr T lay xs => G.al id = true ∧ G.cnt id = xs.length ∧ G.esz id = lay.length ∧
    (G.ph id = false → ∃ vs : Array Value, w.heap[G.blk id]? = some (.cells vs T (0, 0)) ∧ vs.size = G.room id * lay.length ∧ xs.length ≤ G.room id ∧
      ∀ i j, i < xs.length → j < lay.length → ∃ v, vs[i * lay.length + j]? = some v ∧ CR G.F (cellC lay xs i j) v) ∧
    (G.ph id = true → xs = [])
  | .frz lay xs => G.al id = true ∧ G.cnt id = xs.length ∧ G.esz id = lay.length ∧
    (G.ph id = false → ∀ i j, i < xs.length → j < lay.length → ∃ v, G.F (G.blk id) (i * lay.length + j) = some v ∧ CR G.F (cellC lay xs i j) v) ∧
    (G.ph id = true → xs = [])
  | .mp kk row lay es => G.al id = true ∧ G.ph id = false ∧ ∃ ms clock, w.heap[G.blk id]? = some (.map ms clock) ∧ MR G.F kk row lay es ms clock
  | .fmp kk row lay es => G.al id = true ∧ G.ph id = false ∧ ∃ ms clock, G.F (G.blk id) 0 = some (encM ms clock) ∧ MR G.F kk row lay es ms clock
  | .dead => True

def O.live : O → Bool
  | .dead => false
  | .frz _ _ => false
  | .fmp _ _ _ _ => false
  | _ => true

/-- Where a call began: the world, and the blocks of it that the call may change. -/
structure Base where
  w : World
  own : Nat → Bool
  /-- The calls that wait for the function's end. -/
  df : List Deferred
/-- A block that stays as it is. -/
def Base.keeps (B : Base) (b : Nat) : Prop := b < B.w.heap.size ∧ B.own b = false
structure Kept (B : Base) (w' : World) : Prop where
  os : w'.os = B.w.os
  tape : w'.tape = B.w.tape
  output : w'.output = B.w.output
  size : B.w.heap.size ≤ w'.heap.size
  block : ∀ k, B.keeps k → w'.heap[k]? = B.w.heap[k]?
theorem Kept.refl (B : Base) : Kept B B.w := ⟨rfl, rfl, rfl, Nat.le_refl _, fun _ _ => rfl⟩
theorem Kept.below {B : Base} {w w' : World} (h : Kept B w) (k : Below w.heap.size w w') : Kept B w' :=
  ⟨k.os.trans h.os, k.tape.trans h.tape, k.output.trans h.output, Nat.le_trans h.size k.size, fun i hi => (k.block i (Nat.lt_of_lt_of_le hi.1 h.size)).trans (h.block i hi)⟩
theorem Kept.to_below {B : Base} {w : World} (h : Kept B w) (ho : ∀ b, B.own b = false) : Below B.w.heap.size B.w w := ⟨h.os, h.tape, h.output, h.size, fun k hk => h.block k ⟨hk, ho k⟩⟩

/-- Memory that is frozen: a cell, or (at place 0) a map. -/
def iced (w : World) (b x : Nat) (v : Value) : Prop :=
  (v.oneCell' = true ∧ w.cell? ⟨b, x, none⟩ = some v) ∨ ∃ ms clock, v = encM ms clock ∧ x = 0 ∧ w.heap[b]? = some (.map ms clock)
theorem iced.cell {w : World} {b x : Nat} {v : Value} (h : iced w b x v) (h1 : v.oneCell' = true) : w.cell? ⟨b, x, none⟩ = some v := by
  rcases h with ⟨_, h⟩ | ⟨ms, clock, rfl, _⟩
  · exact h
  · rw [encM_one] at h1; cases h1
theorem iced.map {w : World} {b x : Nat} {ms : Array MapEntry} {clock : Nat} (h : iced w b x (encM ms clock)) : w.heap[b]? = some (.map ms clock) := by
  rcases h with ⟨h, _⟩ | ⟨ms', clock', e, _, h⟩
  · rw [encM_one] at h; cases h
  · obtain ⟨rfl, rfl⟩ := encM_inj e; exact h
theorem iced.lt {w : World} {b x : Nat} {v : Value} (h : iced w b x v) : b < w.heap.size := by
  rcases h with ⟨_, h⟩ | ⟨ms, clock, _, _, h⟩
  · exact World.block_lt_of_cell? w _ h
  · exact (Array.getElem?_eq_some_iff.1 h).1
theorem iced.block {w w' : World} {b x : Nat} {v : Value} (h : iced w b x v) (hb : w'.heap[b]? = w.heap[b]?) : iced w' b x v := by
  rcases h with ⟨h1, h⟩ | ⟨ms, clock, h1, h2, h⟩
  · exact .inl ⟨h1, by rw [← h]; exact World.cell?_of_block hb⟩
  · exact .inr ⟨ms, clock, h1, h2, by rw [hb]; exact h⟩

/-- The abstract heap H stands for what the call owns in w; w0: where the call began. -/
structure HR (w0 : Base) (G : Gh) (H : List O) (w : World) : Prop where
  obj : ∀ id o, H[id]? = some o → OR G w id o
  new : ∀ id o, H[id]? = some o → o.live = true → G.ph id = false → ¬ w0.keeps (G.blk id) ∧ (∀ x, G.F (G.blk id) x = none) ∧ G.blk id < w.heap.size
  inj : ∀ id id' o o', H[id]? = some o → H[id']? = some o' → o.live = true → o'.live = true → G.ph id = false → G.ph id' = false → id ≠ id' → G.blk id ≠ G.blk id'
  lt : ∀ id, G.al id = true → id < H.length
  fz : ∀ b x v, G.F b x = some v → iced w b x v
  bel : Kept w0 w

theorem HR.base {w0 : Base} {G : Gh} {H : List O} {w : World} (l : List Deferred) (h : HR w0 G H w) : HR ⟨w0.w, w0.own, l⟩ G H w :=
  ⟨h.obj, h.new, h.inj, h.lt, h.fz, ⟨h.bel.os, h.bel.tape, h.bel.output, h.bel.size, h.bel.block⟩⟩

end Go.Eng

/- An abstract machine over plain data, part B: how the abstract heap follows the world. -/
namespace Go.Eng
open Go.RowKit

theorem OR.mono {m : Nat → Prop} {G G' : Gh} (hG : Gh.Le m G G') {w : World} {id : Nat} {o : O} (h : OR G w id o) : OR G' w id o := by
  cases o with
  | box T cs =>
    obtain ⟨ha, hp, hc, hz, vs, h1, h2, h3⟩ := h
    exact ⟨hG.al id ha, by rw [hG.ph id ha]; exact hp, by rw [hG.cnt id ha]; exact hc, by rw [hG.esz id ha]; exact hz, vs, by rw [hG.blk id ha]; exact h1, h2, fun j a b => ⟨(h3 j a b).1.mono hG, (h3 j a b).2⟩⟩
  | arr T lay xs =>
    obtain ⟨ha, h1, h2, h3, h4⟩ := h
    refine ⟨hG.al id ha, by rw [hG.cnt id ha]; exact h1, by rw [hG.esz id ha]; exact h2, fun hp => ?_, fun hp => h4 (by rw [← hG.ph id ha]; exact hp)⟩
    obtain ⟨vs, g1, g2, g3, g4⟩ := h3 (by rw [← hG.ph id ha]; exact hp)
    exact ⟨vs, by rw [hG.blk id ha]; exact g1, by rw [hG.room id ha]; exact g2, by rw [hG.room id ha]; exact g3, fun i j hi hj => by
      obtain ⟨v, e, hc⟩ := g4 i j hi hj; exact ⟨v, e, hc.mono hG.F⟩⟩
  | frz lay xs =>
    obtain ⟨ha, h1, h2, h3, h4⟩ := h
    refine ⟨hG.al id ha, by rw [hG.cnt id ha]; exact h1, by rw [hG.esz id ha]; exact h2, fun hp i j hi hj => ?_, fun hp => h4 (by rw [← hG.ph id ha]; exact hp)⟩
    obtain ⟨v, e, hc⟩ := h3 (by rw [← hG.ph id ha]; exact hp) i j hi hj
    exact ⟨v, by rw [hG.blk id ha]; exact hG.F _ _ _ e, hc.mono hG.F⟩
  | mp kk row lay es =>
    obtain ⟨ha, hp, ms, clock, h1, h2⟩ := h
    exact ⟨hG.al id ha, by rw [hG.ph id ha]; exact hp, ms, clock, by rw [hG.blk id ha]; exact h1, h2.mono hG.F⟩
  | fmp kk row lay es =>
    obtain ⟨ha, hp, ms, clock, h1, h2⟩ := h
    exact ⟨hG.al id ha, by rw [hG.ph id ha]; exact hp, ms, clock, by rw [hG.blk id ha]; exact hG.F _ _ _ h1, h2.mono hG.F⟩
  | dead => trivial

theorem OR.world {G : Gh} {w w' : World} {id : Nat} {o : O} (hb : o.live = true → G.ph id = false → w'.heap[G.blk id]? = w.heap[G.blk id]?) (h : OR G w id o) : OR G w' id o := by
  cases o with
  | box T cs => obtain ⟨ha, hp, hc, hz, vs, h1, h2⟩ := h; exact ⟨ha, hp, hc, hz, vs, by rw [hb rfl hp]; exact h1, h2⟩
  | arr T lay xs =>
    obtain ⟨ha, h1, h2, h3, h4⟩ := h
    refine ⟨ha, h1, h2, fun hp => ?_, h4⟩
    obtain ⟨vs, g⟩ := h3 hp
    exact ⟨vs, by rw [hb rfl hp]; exact g⟩
  | frz lay xs => exact h
  | mp kk row lay es => obtain ⟨ha, hp, ms, clock, h1, h2⟩ := h; exact ⟨ha, hp, ms, clock, by rw [hb rfl hp]; exact h1, h2⟩
  | fmp kk row lay es => exact h
  | dead => trivial

theorem OR.al_of {G : Gh} {w : World} {id : Nat} {o : O} (h : OR G w id o) (hd : o ≠ .dead) : G.al id = true := by
  cases o with
  | dead => exact absurd rfl hd
  | _ => exact h.1

theorem O.live_ne {o : O} (h : o.live = true) : o ≠ .dead := by intro e; subst e; cases h

theorem lt_of_get {H : List O} {id : Nat} {o : O} (h : H[id]? = some o) : id < H.length := (List.getElem?_eq_some_iff.1 h).1

/-- All old blocks are as they were. -/
theorem HR.below {w0 : Base} {w w' : World} {G : Gh} {H : List O} (h : HR w0 G H w) (hb : Below w.heap.size w w') : HR w0 G H w' where
  obj id o ho := (h.obj id o ho).world fun hl hp => hb.block _ (h.new id o ho hl hp).2.2
  new id o ho hl hp := ⟨(h.new id o ho hl hp).1, (h.new id o ho hl hp).2.1, Nat.lt_of_lt_of_le (h.new id o ho hl hp).2.2 hb.size⟩
  inj := h.inj
  lt := h.lt
  fz b x v e := by
    have h1 := h.fz b x v e
    exact h1.block (hb.block _ h1.lt)
  bel := h.bel.below hb

theorem HR.drew {w0 : Base} {w : World} {G : Gh} {H : List O} (h : HR w0 G H w) : HR w0 G H w.drew := h.below (Below.refl _ _).drew

theorem HR.drawn {w0 : Base} {w : World} {G : Gh} {H : List O} (h : HR w0 G H w) : HR w0 G H { w with drawn := w.drawn + 1 } := h.drew

def Gh.push (G : Gh) (n b r z c : Nat) (p : Bool) : Gh where
  F := G.F
  blk i := if i = n then b else G.blk i
  room i := if i = n then r else G.room i
  esz i := if i = n then z else G.esz i
  cnt i := if i = n then c else G.cnt i
  ph i := if i = n then p else G.ph i
  al i := if i = n then true else G.al i

theorem Gh.le_push (m : Nat → Prop) (G : Gh) (n b r z c : Nat) (p : Bool) (hn : G.al n = false) : Gh.Le m G (G.push n b r z c p) := by
  have ne : ∀ i, G.al i = true → i ≠ n := fun i hi e => by rw [e, hn] at hi; cases hi
  exact ⟨fun _ _ _ h => h, fun _ _ _ => rfl, fun i hi => by simp only [Gh.push, if_neg (ne i hi)]; exact hi, fun i hi => if_neg (ne i hi), fun i hi => if_neg (ne i hi), fun i hi => if_neg (ne i hi),
    fun i hi => if_neg (ne i hi), fun i hi => if_neg (ne i hi)⟩

@[simp] theorem Gh.push_blk (G : Gh) (n b r z c : Nat) (p : Bool) : (G.push n b r z c p).blk n = b := if_pos rfl
@[simp] theorem Gh.push_room (G : Gh) (n b r z c : Nat) (p : Bool) : (G.push n b r z c p).room n = r := if_pos rfl
@[simp] theorem Gh.push_esz (G : Gh) (n b r z c : Nat) (p : Bool) : (G.push n b r z c p).esz n = z := if_pos rfl
@[simp] theorem Gh.push_cnt (G : Gh) (n b r z c : Nat) (p : Bool) : (G.push n b r z c p).cnt n = c := if_pos rfl
@[simp] theorem Gh.push_ph (G : Gh) (n b r z c : Nat) (p : Bool) : (G.push n b r z c p).ph n = p := if_pos rfl
@[simp] theorem Gh.push_al (G : Gh) (n b r z c : Nat) (p : Bool) : (G.push n b r z c p).al n = true := if_pos rfl
@[simp] theorem Gh.push_F (G : Gh) (n b r z c : Nat) (p : Bool) : (G.push n b r z c p).F = G.F := rfl

theorem get_set {H : List O} {id i : Nat} {o' o : O} (e : (H.set id o')[i]? = some o) : (i = id ∧ o = o') ∨ (i ≠ id ∧ H[i]? = some o) := by
  by_cases hi : i = id
  · subst hi
    have := lt_of_get e
    rw [List.length_set] at this
    rw [List.getElem?_set_self this] at e
    exact .inl ⟨rfl, (Option.some.inj e).symm⟩
  · rw [List.getElem?_set_ne (Ne.symm hi)] at e
    exact .inr ⟨hi, e⟩

/-- A new object in a place that is free, in a block that is nobody's. -/
theorem HR.place {w0 : Base} {w : World} {G : Gh} {H : List O} (h : HR w0 G H w) (id b r z c : Nat) (p : Bool) (o : O) (hid : id < H.length) (hal : G.al id = false)
    (hb : p = false → ¬ w0.keeps b ∧ b < w.heap.size ∧ (∀ x, G.F b x = none) ∧ ∀ (i : Nat) o', H[i]? = some o' → o'.live = true → G.ph i = false → G.blk i ≠ b)
    (ho : OR (G.push id b r z c p) w id o) : HR w0 (G.push id b r z c p) (H.set id o) w := by
  have hLe := G.le_push (fun _ => False) id b r z c p hal
  have keep : ∀ {i : Nat} {o' : O}, i ≠ id → H[i]? = some o' → o'.live = true → (G.push id b r z c p).blk i = G.blk i ∧ (G.push id b r z c p).ph i = G.ph i := fun hne _ _ => ⟨if_neg hne, if_neg hne⟩
  constructor
  · intro i o' e
    rcases get_set e with ⟨rfl, rfl⟩ | ⟨hne, e⟩
    · exact ho
    · exact (h.obj i o' e).mono hLe
  · intro i o' e hl hp
    rcases get_set e with ⟨rfl, rfl⟩ | ⟨hne, e⟩
    · rw [Gh.push_ph] at hp
      obtain ⟨h1, h2, h3, _⟩ := hb hp
      rw [Gh.push_blk]; exact ⟨h1, h3, h2⟩
    · obtain ⟨k1, k2⟩ := keep hne e hl
      rw [k2] at hp
      rw [k1]; exact h.new i o' e hl hp
  · intro i j o1 o2 e1 e2 l1 l2 p1 p2 hne
    rcases get_set e1 with ⟨f1, g1⟩ | ⟨hn, f1⟩ <;> rcases get_set e2 with ⟨f2, g2⟩ | ⟨hn', f2⟩
    · exact absurd (f1.trans f2.symm) hne
    · subst f1
      obtain ⟨k1, k2⟩ := keep hn' f2 l2
      rw [Gh.push_ph] at p1
      rw [k2] at p2
      rw [Gh.push_blk, k1]
      exact fun e => (hb p1).2.2.2 j o2 f2 l2 p2 e.symm
    · subst f2
      obtain ⟨k1, k2⟩ := keep hn f1 l1
      rw [Gh.push_ph] at p2
      rw [k2] at p1
      rw [Gh.push_blk, k1]
      exact (hb p2).2.2.2 i o1 f1 l1 p1
    · obtain ⟨k1, k2⟩ := keep hn f1 l1
      obtain ⟨m1, m2⟩ := keep hn' f2 l2
      rw [k2] at p1
      rw [m2] at p2
      rw [k1, m1]; exact h.inj i j o1 o2 f1 f2 l1 l2 p1 p2 hne
  · intro i hi
    rw [List.length_set]
    by_cases hne : i = id
    · subst hne; exact hid
    · simp only [Gh.push, if_neg hne] at hi; exact h.lt i hi
  · exact h.fz
  · exact h.bel

theorem HR.F_size {w0 : Base} {w : World} {G : Gh} {H : List O} (h : HR w0 G H w) (b x : Nat) (hb : w.heap.size ≤ b) : G.F b x = none := by
  cases e : G.F b x with
  | none => rfl
  | some v => have := (h.fz b x v e).lt; omega

/-- A new block with a new object. -/
theorem HR.alloc {w0 : Base} {w : World} {G : Gh} {H : List O} (h : HR w0 G H w) (ob : Obj) (id r z c : Nat) (o : O) (hid : id < H.length) (hal : G.al id = false)
    (ho : OR (G.push id w.heap.size r z c false) (w.alloc ob) id o) : HR w0 (G.push id w.heap.size r z c false) (H.set id o) (w.alloc ob) := by
  refine HR.place (h.below ((Below.refl _ _).alloc (Nat.le_refl _) ob)) _ _ r z c _ o hid hal (fun _ => ⟨fun hk => absurd (Nat.lt_of_lt_of_le hk.1 h.bel.size) (Nat.lt_irrefl _), by simp, fun x => h.F_size _ _ (Nat.le_refl _), ?_⟩) ho
  intro i o' e hl hp
  have := (h.new i o' e hl hp).2.2
  omega

/-- Room for k more objects. -/
theorem HR.widen {w0 : Base} {w : World} {G : Gh} {H : List O} (h : HR w0 G H w) (k : Nat) : HR w0 G (H ++ List.replicate k .dead) w := by
  have key : ∀ {i : Nat} {o : O}, (H ++ List.replicate k .dead)[i]? = some o → o ≠ .dead → H[i]? = some o := by
    intro i o e hd
    by_cases hi : i < H.length
    · rwa [List.getElem?_append_left hi] at e
    · rw [List.getElem?_append_right (by omega)] at e
      have := List.mem_of_getElem? e
      exact absurd (List.eq_of_mem_replicate this) hd
  have ne : ∀ {o : O}, o.live = true → o ≠ .dead := fun hl e => by subst e; cases hl
  constructor
  · intro i o e
    by_cases hd : o = .dead
    · subst hd; trivial
    · exact h.obj i o (key e hd)
  · exact fun i o e hl hp => h.new i o (key e (ne hl)) hl hp
  · exact fun i j o1 o2 e1 e2 l1 l2 => h.inj i j o1 o2 (key e1 (ne l1)) (key e2 (ne l2)) l1 l2
  · intro i hi
    have := h.lt i hi
    simp; omega
  · exact h.fz
  · exact h.bel

/-- An object's block is written; nothing else. -/
theorem HR.update {w0 : Base} {w w' : World} {G : Gh} {H : List O} (h : HR w0 G H w) {id : Nat} {o : O} (hid : H[id]? = some o) (hl : o.live = true) (hph : G.ph id = false) (o' : O)
    (hs : w'.heap.size = w.heap.size) (hb : ∀ k, k ≠ G.blk id → w'.heap[k]? = w.heap[k]?) (hos : w'.os = w.os) (htp : w'.tape = w.tape) (hout : w'.output = w.output)
    (ho : OR G w' id o') : HR w0 G (H.set id o') w' := by
  obtain ⟨hn1, hn2, hn3⟩ := h.new id o hid hl hph
  constructor
  · intro i o2 e
    rcases get_set e with ⟨rfl, rfl⟩ | ⟨hne, e⟩
    · exact ho
    · exact (h.obj i o2 e).world fun l2 p2 => hb _ (h.inj i id o2 o e hid l2 hl p2 hph hne)
  · intro i o2 e l2 p2
    rw [hs]
    rcases get_set e with ⟨rfl, rfl⟩ | ⟨hne, e⟩
    · exact ⟨hn1, hn2, hn3⟩
    · exact h.new i o2 e l2 p2
  · intro i j o1 o2 e1 e2 l1 l2 p1 p2 hne
    rcases get_set e1 with ⟨f1, g1⟩ | ⟨hn, f1⟩ <;> rcases get_set e2 with ⟨f2, g2⟩ | ⟨hn', f2⟩
    · exact absurd (f1.trans f2.symm) hne
    · exact h.inj i j o o2 (f1 ▸ hid) f2 hl l2 p1 p2 hne
    · exact h.inj i j o1 o f1 (f2 ▸ hid) l1 hl p1 p2 hne
    · exact h.inj i j o1 o2 f1 f2 l1 l2 p1 p2 hne
  · intro i hi; rw [List.length_set]; exact h.lt i hi
  · intro b x v e
    have hne : b ≠ G.blk id := fun eb => by rw [eb, hn2] at e; cases e
    exact (h.fz b x v e).block (hb b hne)
  · exact ⟨hos.trans h.bel.os, htp.trans h.bel.tape, hout.trans h.bel.output, by rw [hs]; exact h.bel.size, fun k hk => (hb k (fun e => hn1 (e ▸ hk))).trans (h.bel.block k hk)⟩

/-- An object is given up. -/
theorem HR.kill {w0 : Base} {w : World} {G : Gh} {H : List O} (h : HR w0 G H w) (id : Nat) : HR w0 G (H.set id .dead) w := by
  constructor
  · intro i o e
    rcases get_set e with ⟨rfl, rfl⟩ | ⟨hne, e⟩
    · trivial
    · exact h.obj i o e
  · intro i o e l p
    rcases get_set e with ⟨rfl, rfl⟩ | ⟨hne, e⟩
    · cases l
    · exact h.new i o e l p
  · intro i j o1 o2 e1 e2 l1 l2 p1 p2 hne
    rcases get_set e1 with ⟨rfl, rfl⟩ | ⟨hn, e1⟩
    · cases l1
    · rcases get_set e2 with ⟨rfl, rfl⟩ | ⟨hn', e2⟩
      · cases l2
      · exact h.inj i j o1 o2 e1 e2 l1 l2 p1 p2 hne
  · intro i hi; rw [List.length_set]; exact h.lt i hi
  · exact h.fz
  · exact h.bel

/-! ### Freezing -/
def Gh.ice (G : Gh) (b : Nat) (f : Nat → Option Value) : Gh := { G with F := fun b' x => if b' = b then f x else G.F b' x }
def iceF (k : Nat) (vs : Array Value) (x : Nat) : Option Value := if x < k then (vs[x]?).filter (fun v => v.oneCell') else none
abbrev Gh.freeze (G : Gh) (b k : Nat) (vs : Array Value) : Gh := G.ice b (iceF k vs)
theorem iceF_at {k x : Nat} {vs : Array Value} {v : Value} (hx : x < k) (h : vs[x]? = some v) (h1 : v.oneCell' = true) : iceF k vs x = some v := by
  unfold iceF
  rw [if_pos hx, h]; simp [Option.filter, h1]

theorem Gh.le_ice {G : Gh} {m : Nat → Prop} {b : Nat} {f : Nat → Option Value} (h : ∀ x, G.F b x = none) (hm : ¬ m b) : Gh.Le m G (G.ice b f) where
  F b' x v e := by
    by_cases hb : b' = b
    · subst hb; rw [h] at e; cases e
    · simp only [Gh.ice, if_neg hb]; exact e
  old b' x hb := by simp only [Gh.ice, if_neg (show b' ≠ b from fun e => hm (e ▸ hb))]
  al _ h := h
  blk _ _ := rfl
  room _ _ := rfl
  esz _ _ := rfl
  cnt _ _ := rfl
  ph _ _ := rfl

/-- The memory of an object is frozen. -/
theorem HR.icy {w0 : Base} {w : World} {G : Gh} {H : List O} (h : HR w0 G H w) {id : Nat} {o : O} (hid : H[id]? = some o) (hl : o.live = true) (hp : G.ph id = false) {f : Nat → Option Value}
    (hf : ∀ x v, f x = some v → iced w (G.blk id) x v) (o' : O) (hl' : o'.live = false) (ho : OR (G.ice (G.blk id) f) w id o') :
    HR w0 (G.ice (G.blk id) f) (H.set id o') w ∧ Gh.Le w0.keeps G (G.ice (G.blk id) f) := by
  obtain ⟨hn1, hn2, hn3⟩ := h.new id _ hid hl hp
  have hLe := Gh.le_ice (m := w0.keeps) (f := f) hn2 hn1
  refine ⟨?_, hLe⟩
  constructor
  · intro i o2 e
    rcases get_set e with ⟨rfl, rfl⟩ | ⟨hne, e⟩
    · exact ho
    · exact (h.obj i o2 e).mono hLe
  · intro i o2 e l2 p2
    rcases get_set e with ⟨rfl, rfl⟩ | ⟨hne, e⟩
    · rw [hl'] at l2; cases l2
    · obtain ⟨m1, m2, m3⟩ := h.new i o2 e l2 p2
      refine ⟨m1, fun x => ?_, m3⟩
      have hne' : G.blk i ≠ G.blk id := h.inj i id o2 _ e hid l2 hl p2 hp hne
      show (if G.blk i = G.blk id then _ else G.F (G.blk i) x) = none
      rw [if_neg hne']; exact m2 x
  · intro i j o1 o2 e1 e2 l1 l2 p1 p2 hne
    rcases get_set e1 with ⟨rfl, rfl⟩ | ⟨hn, e1⟩
    · rw [hl'] at l1; cases l1
    · rcases get_set e2 with ⟨rfl, rfl⟩ | ⟨hn', e2⟩
      · rw [hl'] at l2; cases l2
      · exact h.inj i j o1 o2 e1 e2 l1 l2 p1 p2 hne
  · intro i hi; rw [List.length_set]; exact h.lt i hi
  · intro b x v e
    by_cases hbb : b = G.blk id
    · subst hbb
      simp only [Gh.ice, if_true] at e
      exact hf x v e
    · simp only [Gh.ice, if_neg hbb] at e; exact h.fz b x v e
  · exact h.bel

/-- The cells of an object are frozen. -/
theorem HR.frozen {w0 : Base} {w : World} {G : Gh} {H : List O} (h : HR w0 G H w) {id : Nat} {o : O} (hid : H[id]? = some o) (hl : o.live = true) (hp : G.ph id = false) {vs : Array Value} {T : TypeId}
    (hb : w.heap[G.blk id]? = some (.cells vs T (0, 0))) (k : Nat) (o' : O) (hl' : o'.live = false) (ho : OR (G.freeze (G.blk id) k vs) w id o') :
    HR w0 (G.freeze (G.blk id) k vs) (H.set id o') w ∧ Gh.Le w0.keeps G (G.freeze (G.blk id) k vs) := by
  refine h.icy hid hl hp (fun x v e => ?_) o' hl' ho
  unfold iceF at e
  split at e
  · rw [Option.filter_eq_some_iff] at e
    exact .inl ⟨e.2, by simp only [World.cell?, hb]; exact e.1⟩
  · cases e
/-- A map becomes frozen. -/
theorem HR.freezeMap {w0 : Base} {w : World} {G : Gh} {H : List O} (h : HR w0 G H w) {id : Nat} {kk : IntKind} {row : Bool} {lay : List LK} {es : List (Int × List C)} (hid : H[id]? = some (.mp kk row lay es)) :
    ∃ G', HR w0 G' (H.set id (.fmp kk row lay es)) w ∧ Gh.Le w0.keeps G G' ∧ G'.al = G.al := by
  obtain ⟨ha, hp, ms, clock, hb, hm⟩ := h.obj id _ hid
  obtain ⟨hn1, hn2, hn3⟩ := h.new id _ hid rfl hp
  have hLe := Gh.le_ice (m := w0.keeps) (f := fun x => if x = 0 then some (encM ms clock) else none) hn2 hn1
  obtain ⟨h1, h2⟩ := h.icy hid rfl hp (f := fun x => if x = 0 then some (encM ms clock) else none) (fun x v e => by
    split at e
    · rename_i hx; cases e; exact .inr ⟨ms, clock, rfl, hx, hb⟩
    · cases e) (.fmp kk row lay es) rfl ⟨ha, hp, ms, clock, by show (if G.blk id = G.blk id then _ else _) = _; rw [if_pos rfl, if_pos rfl], hm.mono hLe.F⟩
  exact ⟨_, h1, h2, rfl⟩

/-- An object that has no memory is told as another one. -/
theorem HR.retell {w0 : Base} {w : World} {G : Gh} {H : List O} (h : HR w0 G H w) {id : Nat} (o' : O) (hl' : o'.live = false) (ho : OR G w id o') : HR w0 G (H.set id o') w := by
  constructor
  · intro i o e
    rcases get_set e with ⟨rfl, rfl⟩ | ⟨hne, e⟩
    · exact ho
    · exact h.obj i o e
  · intro i o e l p
    rcases get_set e with ⟨rfl, rfl⟩ | ⟨hne, e⟩
    · rw [hl'] at l; cases l
    · exact h.new i o e l p
  · intro i j o1 o2 e1 e2 l1 l2 p1 p2 hne
    rcases get_set e1 with ⟨rfl, rfl⟩ | ⟨hn, e1⟩
    · rw [hl'] at l1; cases l1
    · rcases get_set e2 with ⟨rfl, rfl⟩ | ⟨hn', e2⟩
      · rw [hl'] at l2; cases l2
      · exact h.inj i j o1 o2 e1 e2 l1 l2 p1 p2 hne
  · intro i hi; rw [List.length_set]; exact h.lt i hi
  · exact h.fz
  · exact h.bel

/-- An array becomes frozen. -/
theorem HR.freeze {w0 : Base} {w : World} {G : Gh} {H : List O} (h : HR w0 G H w) {id : Nat} {T : TypeId} {lay : List LK} {xs : List (List C)} (hid : H[id]? = some (.arr T lay xs)) :
    ∃ G', HR w0 G' (H.set id (.frz lay xs)) w ∧ Gh.Le w0.keeps G G' ∧ G'.al = G.al := by
  obtain ⟨ha, hc, hz, hR, hphx⟩ := h.obj id _ hid
  cases hp : G.ph id with
  | true =>
    refine ⟨G, h.retell _ rfl ⟨ha, hc, hz, ?_, fun _ => hphx hp⟩, Gh.Le.refl _ _, rfl⟩
    intro h2; rw [hp] at h2; cases h2
  | false =>
    obtain ⟨vs, hb, hs, hroom, hv⟩ := hR hp
    obtain ⟨hn1, hn2, hn3⟩ := h.new id _ hid rfl hp
    have hLe := Gh.le_ice (m := w0.keeps) (f := iceF (xs.length * lay.length) vs) hn2 hn1
    obtain ⟨h1, h2⟩ := h.frozen hid rfl hp hb (xs.length * lay.length) (.frz lay xs) rfl ⟨ha, hc, hz, fun _ i j hi hj => by
      obtain ⟨v, e, hcr⟩ := hv i j hi hj
      refine ⟨v, ?_, hcr.mono hLe.F⟩
      have hlt : i * lay.length + j < xs.length * lay.length := by
        have : (i + 1) * lay.length ≤ xs.length * lay.length := Nat.mul_le_mul_right _ hi
        rw [Nat.add_mul, Nat.one_mul] at this; omega
      show (if G.blk id = G.blk id then _ else _) = _
      rw [if_pos rfl]
      exact iceF_at hlt e hcr.one, fun h2 => by change G.ph id = true at h2; rw [hp] at h2; cases h2⟩
    exact ⟨_, h1, h2, rfl⟩

end Go.Eng

/- An abstract machine over plain data, part C: its operations, and what they do. -/
namespace Go.Eng
open Go.RowKit

/-- All that the machine computes with; a walk leaves it open. -/
structure Env where
  add : IntKind → Int → Int → Int
  sub : IntKind → Int → Int → Int
  mul : IntKind → Int → Int → Int
  quo : IntKind → Int → Int → Int
  rem : IntKind → Int → Int → Int
  band : IntKind → Int → Int → Int
  bor : IntKind → Int → Int → Int
  bxor : IntKind → Int → Int → Int
  shl : IntKind → Int → Int → Int
  shr : IntKind → Int → Int → Int
  neg : IntKind → Int → Int
  wrap : IntKind → Int → Int
  pl : Int → Int → Int
  mi : Int → Int → Int
  lt : Int → Int → Bool
  le : Int → Int → Bool
  eq : Int → Int → Bool
  not : Bool → Bool
  beq : Bool → Bool → Bool
  and : Bool → Bool → Bool
  bite : Bool → Bool → Bool → Bool
  iite : Bool → Int → Int → Int
  lite : Bool → List (List C) → List (List C) → List (List C)
  min : Int → Int → Int
  max : Int → Int → Int
  seq : ByteArray → ByteArray → Bool
  slt : ByteArray → ByteArray → Bool
  scat : ByteArray → ByteArray → ByteArray
  scut : ByteArray → Int → Int → ByteArray
  site : Bool → ByteArray → ByteArray → ByteArray
  slen : ByteArray → Int
  sget : ByteArray → Int → Int
  gi : C → Int
  gb : C → Bool
  gs : C → ByteArray
  gl : C → List (List C)
  gm : C → List (Int × List C)
  cell : List (List C) → Int → Nat → C
  len : List (List C) → Int
  cut : List (List C) → Int → Int → List (List C)
  cat : List (List C) → List (List C) → List (List C)
  upd : List (List C) → Int → Nat → C → List (List C)
  rep : Int → List C → List (List C)
  mlk : List (Int × List C) → Int → Nat → C → C
  mhas : List (Int × List C) → Int → Bool
  mset : List (Int × List C) → Int → List C → List (Int × List C)
  mdel : List (Int × List C) → Int → List (Int × List C)
  mlen : List (Int × List C) → Int
  res : FuncId → List A → Nat → C
  pok : FuncId → List (Bool × List LK) → List A → Prop

/-- A row with c as cell j. -/
def setC : List C → Nat → C → List C
  | [], 0, c => [c]
  | [], j + 1, c => .nil :: setC [] j c
  | _ :: as, 0, c => c :: as
  | a :: as, j + 1, c => a :: setC as j c
def updC (xs : List (List C)) (i j : Nat) (c : C) : List (List C) := xs.set i (setC (xs.getD i []) j c)
/-- The first entry of a key. -/
def mfind (k : Int) : List (Int × List C) → Option (List C)
  | [] => none
  | e :: es => if k == e.1 then some e.2 else mfind k es
def mput (k : Int) (v : List C) : List (Int × List C) → List (Int × List C)
  | [] => [(k, v)]
  | e :: es => if k == e.1 then (k, v) :: es else e :: mput k v es
def mrem (k : Int) : List (Int × List C) → List (Int × List C)
  | [] => []
  | e :: es => if k == e.1 then es else e :: mrem k es
/-- Cell j of a key's value, or z. -/
def mlook (m : List (Int × List C)) (k : Int) (j : Nat) (z : C) : C := match mfind k m with
  | some r => r.getD j .nil
  | none => z

/-- The real one, but for calls. -/
def baseE (res : FuncId → List A → Nat → C) (pok : FuncId → List (Bool × List LK) → List A → Prop) : Env where
  add k a b := k.wrap (a + b)
  sub k a b := k.wrap (a - b)
  mul k a b := k.wrap (a * b)
  quo k a b := k.wrap (a.tdiv b)
  rem _ a b := a.tmod b
  band k a b := k.wrap ((BitVec.ofInt k.bits a &&& BitVec.ofInt k.bits b).toNat)
  bor k a b := k.wrap ((BitVec.ofInt k.bits a ||| BitVec.ofInt k.bits b).toNat)
  bxor k a b := k.wrap ((BitVec.ofInt k.bits a ^^^ BitVec.ofInt k.bits b).toNat)
  shl k a b := k.wrap (a * 2 ^ (Nat.min b.toNat k.bits))
  shr k a b := a.fdiv (2 ^ (Nat.min b.toNat k.bits))
  neg k a := k.wrap (0 - a)
  wrap k a := k.wrap a
  pl a b := a + b
  mi a b := a - b
  lt a b := decide (a < b)
  le a b := decide (a ≤ b)
  eq a b := a == b
  not a := !a
  beq a b := a == b
  and a b := a && b
  bite c a b := if c then a else b
  iite c a b := if c then a else b
  lite c a b := if c then a else b
  min a b := if b < a then b else a
  max a b := if b > a then b else a
  seq a b := a.toList == b.toList
  slt a b := Op.bytesLess a.toList b.toList
  scat a b := a ++ b
  scut s l h := s.extract l.toNat h.toNat
  site c a b := if c then a else b
  slen a := a.size
  sget s j := ((s.data.toList.getD j.toNat 0).toNat : Int)
  gi := C.gi
  gb := C.gb
  gs := C.gs
  gl := C.gl
  gm := C.gm
  cell xs i j := cellAt xs i.toNat j
  len xs := xs.length
  cut xs l h := (xs.take h.toNat).drop l.toNat
  cat xs ys := xs ++ ys
  upd xs i j c := updC xs i.toNat j c
  rep n r := List.replicate n.toNat r
  mlk m k j z := mlook m k j z
  mhas m k := (mfind k m).isSome
  mset m k v := mput k v m
  mdel m k := mrem k m
  mlen m := m.length
  res := res
  pok := pok

inductive Opd where
  | t (n : Nat)
  | k (a : A)
  deriving Inhabited

def toA1 : Value → A
  | .bool b => .c (.bool b)
  | .int k n => .c (.int k n)
  | .string s => .c (.str s)
  | .slice none 0 0 => .c .nil
  | .pointer none => .np
  | .map none => .nm
  | .nilFunc => .nf
  | _ => .u
def toA : Value → A
  | .agg vs => if vs.all (·.oneCell') then .agg (vs.toList.map toA1) else .u
  | .tuple vs => if vs.size = 0 then .tup [] else .u
  | v => toA1 v

/-- Operations. slot: the place of what is made, counted from where the region began. -/
inductive VOp where
  | mv (x : Opd)
  | build (z : List A) (ps : List (Nat × Nat × Opd))
  | ld (x : Opd)
  | lda (n : Nat) (x : Opd)
  | nc (x : Opd)
  | bin (op : BinOp) (x y : Opd)
  | eqb (neg : Bool) (x y : Opd)
  | eqs (ls : List LK) (neg : Bool) (x y : Opd)
  | eqn (kd : Nat) (neg : Bool) (x : Opd)
  | un (op : UnOp) (x : Opd)
  | cv (k : IntKind) (x : Opd)
  | fa (off : Nat) (x : Opd)
  | fd (off : Nat) (n : Option Nat) (x : Opd)
  | ia (sz : Nat) (x i : Opd)
  | iaa (len sz : Nat) (x i : Opd)
  | ixs (x i : Opd)
  | sls (sz : Nat) (x : Opd) (lo hi : Option Opd)
  | mkf (f : FuncId) (cs : List Opd)
  | ext (x : Opd) (i : Nat)
  | lenS (x : Opd)
  | lenT (x : Opd)
  | lenM (x : Opd)
  | min (x : Opd) (ys : List Opd)
  | max (x : Opd) (ys : List Opd)
  | lkp (z : A) (x k : Opd) (ok : Bool)
  | pick (c x y : Opd)
  | lit (lay : List LK) (ps : List Opd)
  | det (f : FuncId) (rty : List (Bool × List LK)) (xs : List Opd)
  | detv (rty : List (Bool × List LK)) (x : Opd) (xs : List Opd)
  | alloc (slot : Nat) (T : TypeId) (z : List A)
  | box (slot : Nat) (T : TypeId) (x : Opd)
  | bsl (slot : Nat) (T : TypeId) (lay : List LK) (ps : List Opd)
  | st (n : Nat) (x v : Opd)
  | mks (slot : Nat) (T : TypeId) (lay : List LK) (zr : List C) (bound : Int) (len cap : Opd)
  | mkm (slot : Nat) (kk : IntKind) (row : Bool) (lay : List LK)
  | mup (x k v : Opd)
  | del (x k : Opd)
  | app (slot : Nat) (T : TypeId) (lay : List LK) (bound : Int) (x y : Opd)
  | appN (slot : Nat) (T : TypeId) (lay : List LK) (zr : List C) (bound : Int) (x y : Opd)
  | clr (lay : List LK) (zr : List C) (x : Opd)
  | capN (x : Opd)
  | sl3 (x : Opd) (lo : Option Opd) (hi mx : Opd)
  | slx (sz : Nat) (x : Opd) (lo hi : Option Opd)
  | apx (T : TypeId) (lay : List LK) (x y : Opd)
  | ixa (len sz : Nat) (row : Bool) (x i : Opd)
  | sst (x : Opd) (lo hi : Option Opd)
  | mkx (slot : Nat) (T : TypeId) (lay : List LK) (zr : List C) (bound : Int) (len cap : Opd)
  | bad
  deriving Inhabited

/-- Operations that the walk stops at: a call that may change the abstract heap; a test whose outcome is open. -/
inductive HOp where
  | call (f : FuncId) (xs : List Opd)
  | callv (x : Opd) (xs : List Opd)
  | isn (kd : Nat) (neg : Bool) (x : Opd)
  deriving Inhabited

inductive ROp where
  | v (o : VOp)
  | h (o : HOp)
  deriving Inhabited

/-- An operation; guard: the temporary that decides, and what it must be; uses: what it reads. -/
structure ROper where
  dst : Option Nat
  op : ROp
  guard : Option (Nat × Bool)
  uses : List Opd
  deriving Inhabited

/-- A condition: a bool; that f, called with ds, hands back what the table says; a condition where γ holds. -/
inductive Cnd where
  | b (x : Bool)
  | nb (x : Bool)
  | pok (x : Prop) (f : FuncId) (rty : List (Bool × List LK)) (ds : List A)
  | g (γ : Bool) (c : Cnd)
/-- p, where b. -/
structure Imp (b : Bool) (p : Prop) : Prop where
  get : b = true → p
def Cnd.holds : Cnd → Prop
  | .b x => x = true
  | .nb x => x = false
  | .pok x _ _ _ => x
  | .g γ c => Imp γ c.holds
/-- What an operation does: under a condition, its value, and what it writes. -/
structure Rs where
  p : List Cnd
  v : A
  ws : List (Nat × O)

def stuck : Rs := ⟨[.b false], .u, []⟩
def Rs.q (p : List Cnd) (v : A) : Rs := ⟨p, v, []⟩

/-- r, if b. -/
def chk (b : Bool) (r : Rs) : Rs :=
  match b with
  | true => r
  | false => stuck

def putW : List O → List (Nat × O) → List O
  | H, [] => H
  | H, w :: ws => putW (H.set w.1 w.2) ws

/-! ### What they do -/
def strip : A → A
  | .wh _ v => v
  | a => a
/-- Is x known where γ holds? -/
def stripOk (γ : Bool) : A → List Cnd
  | .wh b _ => [.g γ (.b b)]
  | _ => []

def cellsOf : A → List A
  | .agg l => l
  | a => [a]

/-- l with the cells vs from place off on. -/
def sets {α : Type} (l : List α) (off : Nat) : List α → List α
  | [] => l
  | v :: vs => sets (l.set off v) (off + 1) vs

def fillA (ev : Opd → A) : List A → List (Nat × Nat × Opd) → List A
  | z, [] => z
  | z, (off, _, x) :: ps => fillA ev (sets z off (cellsOf (ev x))) ps
/-- No unknown value. -/
def known : A → Bool
  | .u => false
  | .wh _ _ => false
  | .tup _ => false
  | .pin _ _ => false
  | _ => true
/-- Each part has its field's size and is known. -/
def fillOk (ev : Opd → A) (n : Nat) : List (Nat × Nat × Opd) → Bool
  | [] => true
  | (off, sz, x) :: ps => known (ev x) && Nat.beq (cellsOf (ev x)).length sz && Nat.ble (off + sz) n && fillOk ev n ps

section
variable (E : Env)

def fixE (k : LK) (c : C) : C :=
  match k with
  | .int k => .int k (E.gi c)
  | .bool => .bool (E.gb c)
  | .str => .str (E.gs c)
  | .sl lay => .sl lay (E.gl c)
  | .mp kk row lay => .mp kk row lay (E.gm c)
def rd (lay : List LK) (xs : List (List C)) (i : Int) (off : Nat) : C := fixE E (lay.getD off .bool) (E.cell xs i off)
def rds (lay : List LK) (xs : List (List C)) (i : Int) : Nat → Nat → List A
  | _, 0 => []
  | off, n + 1 => .c (rd E lay xs i off) :: rds lay xs i (off + 1) n

def binE (op : BinOp) (x y : A) : Rs :=
  match x, y with
  | .c (.int k a), .c (.int k' b) =>
    match op, k == k' with
    | .add, true => .q [] (.c (.int k (E.add k a b)))
    | .sub, true => .q [] (.c (.int k (E.sub k a b)))
    | .mul, true => .q [] (.c (.int k (E.mul k a b)))
    | .quo, true => .q [.nb (E.eq b 0)] (.c (.int k (E.quo k a b)))
    | .rem, true => .q [.nb (E.eq b 0)] (.c (.int k (E.rem k a b)))
    | .eql, true => .q [] (.c (.bool (E.eq a b)))
    | .neq, true => .q [] (.c (.bool (E.not (E.eq a b))))
    | .lss, true => .q [] (.c (.bool (E.lt a b)))
    | .leq, true => .q [] (.c (.bool (E.le a b)))
    | .gtr, true => .q [] (.c (.bool (E.lt b a)))
    | .geq, true => .q [] (.c (.bool (E.le b a)))
    | .and, true => .q [] (.c (.int k (E.band k a b)))
    | .or, true => .q [] (.c (.int k (E.bor k a b)))
    | .xor, true => .q [] (.c (.int k (E.bxor k a b)))
    | .shl, _ => .q [.b (E.le 0 b)] (.c (.int k (E.shl k a b)))
    | .shr, _ => .q [.b (E.le 0 b)] (.c (.int k (E.shr k a b)))
    | _, _ => stuck
  | .c (.str a), .c (.str b) =>
    match op with
    | .eql => .q [] (.c (.bool (E.seq a b)))
    | .neq => .q [] (.c (.bool (E.not (E.seq a b))))
    | .add => .q [.b (E.le (E.pl (E.slen a) (E.slen b)) 9223372036854775807)] (.c (.str (E.scat a b)))
    | .lss => .q [] (.c (.bool (E.slt a b)))
    | _ => stuck
  | _, _ => stuck

def LK.ok : LK → A → Bool
  | .int k, .c (.int k' _) => k == k'
  | .bool, .c (.bool _) => true
  | .str, .c (.str _) => true
  | _, _ => false
def fits : List LK → List A → Bool
  | [], [] => true
  | l :: ls, a :: as => l.ok a && fits ls as
  | _, _ => false
/-- '==' of two lists of cells that are numbers, bools and strings. -/
def ceqE : List A → List A → Bool
  | [], [] => true
  | .c (.int _ a) :: x, .c (.int _ b) :: y => E.and (E.eq a b) (ceqE x y)
  | .c (.bool a) :: x, .c (.bool b) :: y => E.and (E.beq a b) (ceqE x y)
  | .c (.str a) :: x, .c (.str b) :: y => E.and (E.seq a b) (ceqE x y)
  | _, _ => false
/-- Is it nil? k: 0 a slice, 1 a pointer, 2 a map, 3 a function. -/
def isNil (k : Nat) (a : A) : Option Bool :=
  match k, a with
  | 0, .c .nil => some true
  | 1, .ptr _ _ => some false
  | 1, .eptr _ _ _ => some false
  | 1, .el _ _ _ _ => some false
  | 1, .np => some true
  | 2, .map _ => some false
  | 2, .nm => some true
  | 3, .fn _ _ => some false
  | 3, .nf => some true
  | _, _ => none

/-- The content of array id. -/
def arrOf (H : List O) (id : Nat) : Option (List LK × List (List C)) :=
  match H[id]? with
  | some (.arr _ lay xs) => some (lay, xs)
  | some (.frz lay xs) => some (lay, xs)
  | _ => none

def ldE (H : List O) (x : A) : Rs :=
  match x with
  | .el lay xs i off => chk (Nat.blt off lay.length) (.q [] (.c (rd E lay xs i off)))
  | .ptr id off =>
    match H[id]? with
    | some (.box _ cs) => match cs[off]? with
      | some a => .q [] a
      | none => stuck
    | some (.frz lay (x :: xs)) => chk (Nat.blt off lay.length) (.q [] (.c (rd E lay (x :: xs) 0 off)))
    | _ => stuck
  | .eptr id i off =>
    match arrOf H id with
    | some (lay, xs) => chk (Nat.blt off lay.length) (.q [] (.c (rd E lay xs i off)))
    | none => stuck
  | _ => stuck

def ldaE (H : List O) (n : Nat) (x : A) : Rs :=
  match x with
  | .el lay xs i off => chk (Nat.ble (off + n) lay.length) (.q [] (.agg (rds E lay xs i off n)))
  | .ptr id off =>
    match H[id]? with
    | some (.box _ cs) => chk (Nat.ble (off + n) cs.length) (.q [] (.agg ((cs.drop off).take n)))
    | some (.frz lay (x :: xs)) => chk (Nat.ble (off + n) lay.length) (.q [] (.agg (rds E lay (x :: xs) 0 off n)))
    | _ => stuck
  | .eptr id i off =>
    match arrOf H id with
    | some (lay, xs) => chk (Nat.ble (off + n) lay.length) (.q [] (.agg (rds E lay xs i off n)))
    | none => stuck
  | _ => stuck

def faE (off : Nat) (x : A) : Rs :=
  match x with
  | .el lay xs i o => .q [] (.el lay xs i (o + off))
  | .ptr id o => .q [] (.ptr id (o + off))
  | .eptr id i o => .q [] (.eptr id i (o + off))
  | _ => stuck

def iaE (H : List O) (sz : Nat) (x i : A) : Rs :=
  match x, i with
  | .c (.sl lay xs), .c (.int _ j) => chk (Nat.beq lay.length sz) (.q [.b (E.le 0 j), .b (E.lt j (E.len xs))] (.el lay xs j 0))
  | .gr id, .c (.int _ j) =>
    match arrOf H id with
    | some (lay, xs) => chk (Nat.beq lay.length sz) (.q [.b (E.le 0 j), .b (E.lt j (E.len xs))] (.eptr id j 0))
    | none => stuck
  | .own id off len, .c (.int _ j) =>
    match arrOf H id with
    | some (lay, _) => chk (Nat.beq lay.length sz) (.q [.b (E.le 0 j), .b (E.lt j len)] (.eptr id (E.pl off j) 0))
    | none => stuck
  | _, _ => stuck

/-- n groups of sz cells from place off on are of the same kinds. -/
def samek (lay : List LK) (off sz : Nat) : Nat → Bool
  | 0 => true
  | n + 1 => samek lay off sz n && LK.beqs ((lay.drop (off + n * sz)).take sz) ((lay.drop off).take sz)
/-- n cells of element i, from place off on. -/
def elRow (lay : List LK) (xs : List (List C)) (i : Int) : Nat → Nat → List C
  | _, 0 => []
  | off, n + 1 => rd E lay xs i off :: elRow lay xs i (off + 1) n
/-- Groups of sz cells of element i, from place off on. -/
def elRows (lay : List LK) (xs : List (List C)) (i : Int) (off sz : Nat) : Nat → List (List C)
  | 0 => []
  | n + 1 => elRow E lay xs i off sz :: elRows lay xs i (off + sz) sz n
def iaaE (len sz : Nat) (x i : A) : Rs :=
  match x, i with
  | .ptr id off, .c (.int _ j) => .q [.b (E.le 0 j), .b (E.lt j len)] (.ptr id (off + j.toNat * sz))
  | .el lay xs i off, .c (.int _ j) => chk (Nat.ble (off + len * sz) lay.length && samek lay off sz len) (.q [.b (E.le 0 j), .b (E.lt j len)] (.el ((lay.drop off).take sz) (elRows E lay xs i off sz len) j 0))
  | _, _ => stuck

/-- A bound of a slice expression: given, or d. -/
def bnd (ev : Opd → A) (d : Int) : Option Opd → Option Int
  | none => some d
  | some x => match ev x with
    | .c (.int _ j) => some j
    | _ => none

def slsE (ev : Opd → A) (H : List O) (sz : Nat) (x : A) (lo hi : Option Opd) : Rs :=
  match x with
  | .c .nil =>
    match bnd ev 0 lo, bnd ev 0 hi with
    | some l, some h => .q [.b (E.eq l 0), .b (E.eq h 0)] (.c .nil)
    | _, _ => stuck
  | .c (.sl lay xs) =>
    match bnd ev 0 lo, bnd ev (E.len xs) hi with
    | some l, some h => chk (Nat.beq lay.length sz) (.q [.b (E.le 0 l), .b (E.le l h), .b (E.le h (E.len xs))] (.c (.sl lay (E.cut xs l h))))
    | _, _ => stuck
  | .gr id =>
    match arrOf H id with
    | some (lay, xs) =>
      match bnd ev 0 lo, bnd ev (E.len xs) hi with
      | some l, some h => chk (Nat.beq lay.length sz) (.q [.b (E.le 0 l), .b (E.le l h), .b (E.le h (E.len xs))] (.own id l (E.mi h l)))
      | _, _ => stuck
    | none => stuck
  | .own id off len =>
    match arrOf H id with
    | some (lay, _) =>
      match bnd ev 0 lo, bnd ev len hi with
      | some l, some h => chk (Nat.beq lay.length sz) (.q [.b (E.le 0 l), .b (E.le l h), .b (E.le h len)] (.own id (E.pl off l) (E.mi h l)))
      | _, _ => stuck
    | none => stuck
  | _ => stuck

/-- x or y, as b says. -/
def selA (b : Bool) (x y : A) : A :=
  match x, y with
  | .c (.int k p), .c (.int k' q) => match k == k' with
    | true => .c (.int k (E.iite b p q))
    | false => .u
  | .c (.bool p), .c (.bool q) => .c (.bool (E.bite b p q))
  | .c (.str p), .c (.str q) => .c (.str (E.site b p q))
  | .c (.sl lay p), .c (.sl lay' q) => match LK.beqs lay lay' with
    | true => .c (.sl lay (E.lite b p q))
    | false => .u
  | _, _ => .u
def selL (b : Bool) : List A → List A → List A
  | a :: as, c :: cs => selA E b a c :: selL b as cs
  | _, _ => []
/-- Element j of those from i on. -/
def ixaL (j : Int) : Nat → List (List A) → List A
  | _, [] => []
  | _, [r] => r
  | i, r :: r' :: rs => selL E (E.eq j i) r (ixaL j (i + 1) (r' :: rs))
/-- The elements of an array's value. -/
def rowsA (sz : Nat) : Nat → List A → List (List A)
  | 0, _ => []
  | n + 1, l => l.take sz :: rowsA sz n (l.drop sz)
def ixaE (len sz : Nat) (row : Bool) (x i : A) : Rs :=
  match x, i with
  | .agg l, .c (.int _ j) => chk (Nat.beq l.length (len * sz) && Nat.blt 0 sz) (.q [.b (E.le 0 j), .b (E.lt j len)] (match row with
    | true => .agg (ixaL E j 0 (rowsA sz len l))
    | false => (ixaL E j 0 (rowsA sz len l)).headD .u))
  | _, _ => stuck
/-- Part of a string. -/
def sstE (ev : Opd → A) (x : A) (lo hi : Option Opd) : Rs :=
  match x with
  | .c (.str s) =>
    match bnd ev 0 lo, bnd ev (E.slen s) hi with
    | some l, some h => .q [.b (E.le 0 l), .b (E.le l h), .b (E.le h (E.slen s))] (.c (.str (E.scut s l h)))
    | _, _ => stuck
  | _ => stuck

/-- The length of a slice of the call's own. -/
def lenOwn (H : List O) (x : A) : Option Int :=
  match x with
  | .gr id => match arrOf H id with
    | some (_, xs) => some (E.len xs)
    | none => none
  | .own _ _ len => some len
  | _ => none
/-- x[lo:hi:mx], looked at by nobody. -/
def sl3E (ev : Opd → A) (H : List O) (x : A) (lo : Option Opd) (hi mx : Opd) : Rs :=
  match lenOwn E H x with
  | some len => match bnd ev 0 lo, bnd ev 0 (some hi), bnd ev 0 (some mx) with
    | some l, some h, some m => .q [.b (E.le 0 l), .b (E.le l h), .b (E.le h m), .b (E.le m len)] .u
    | _, _, _ => stuck
  | none => stuck
/-- The content of array id, if it is not kept. -/
def arrX (H : List O) (id : Nat) : Option (List LK × List (List C)) :=
  match H[id]? with
  | some (.arr _ lay xs) => some (lay, xs)
  | _ => none
/-- x[lo:hi], as far as the array's elements go. -/
def slxE (ev : Opd → A) (H : List O) (sz : Nat) (x : A) (lo hi : Option Opd) : Rs :=
  match x with
  | .gr id =>
    match arrOf H id with
    | some (lay, xs) =>
      match bnd ev 0 lo, bnd ev (E.len xs) hi with
      | some l, some h => chk (Nat.beq lay.length sz) (.q [.b (E.le 0 l), .b (E.le l h), .b (E.le h (E.len xs))] (.own id l (E.mi h l)))
      | _, _ => stuck
    | none => stuck
  | .own id off len =>
    match arrX H id with
    | some (lay, xs) =>
      match bnd ev 0 lo, bnd ev len hi with
      | some l, some h => chk (Nat.beq lay.length sz) (.q [.b (E.le 0 l), .b (E.le l h), .b (E.le (E.pl off h) (E.len xs))] (.own id (E.pl off l) (E.mi h l)))
      | _, _ => stuck
    | none => stuck
  | _ => stuck

def foldInts (f : Int → Int → Int) (ev : Opd → A) (k : IntKind) : Int → List Opd → Rs
  | a, [] => .q [] (.c (.int k a))
  | a, y :: ys => match ev y with
    | .c (.int _ b) => foldInts f ev k (f a b) ys
    | _ => stuck

/-! ### Data of arrays -/
/-- The kind of a cell of data. -/
def kindOf : A → Option LK
  | .c (.int k _) => some (.int k)
  | .c (.bool _) => some .bool
  | .c (.str _) => some .str
  | .c (.sl lay _) => some (.sl lay)
  | .c (.mp kk row lay _) => some (.mp kk row lay)
  | _ => none
def kindsOf : List A → Option (List LK × List C)
  | [] => some ([], [])
  | .c c :: as => match kindOf (.c c), kindsOf as with
    | some k, some (ks, cs) => some (k :: ks, c :: cs)
    | _, _ => none
  | _ :: _ => none

/-- What freezing object id writes. -/
def frz1 (H : List O) (id : Nat) : List (Nat × O) :=
  match H[id]? with
  | some (.arr _ lay xs) => [(id, .frz lay xs)]
  | some (.box _ cs) => match kindsOf cs with
    | some (lay, row) => [(id, .frz lay [row])]
    | none => []
  | some (.mp kk row lay es) => [(id, .fmp kk row lay es)]
  | _ => []
mutual
/-- Freeze what a value names. -/
def frzA (H : List O) : A → List (Nat × O)
  | .gr id => frz1 H id
  | .own id _ _ => frz1 H id
  | .ptr id _ => frz1 H id
  | .map id => frz1 H id
  | .agg l => frzL H l
  | .fn _ l => frzL H l
  | _ => []
def frzL (H : List O) : List A → List (Nat × O)
  | [] => []
  | a :: as => frzA H a ++ frzL H as
end

mutual
/-- A value as data, where all that it names is frozen. -/
def dat (H : List O) : A → Option A
  | .c c => some (.c c)
  | .el lay xs i off => some (.el lay xs i off)
  | .gr id => match H[id]? with
    | some (.frz lay xs) => some (.c (.sl lay xs))
    | _ => none
  | .own id off len => match H[id]? with
    | some (.frz lay xs) => some (.c (.sl lay (E.cut xs off (E.pl off len))))
    | _ => none
  | .ptr id off => match H[id]? with
    | some (.frz lay (x :: xs)) => some (.el lay (x :: xs) 0 off)
    | _ => none
  | .map id => match H[id]? with
    | some (.fmp kk row lay es) => some (.c (.mp kk row lay es))
    | _ => none
  | .np => some .np
  | .nm => some .nm
  | .nf => some .nf
  | .agg l => (datL H l).map .agg
  | .fn f l => (datL H l).map (.fn f)
  | _ => none
def datL (H : List O) : List A → Option (List A)
  | [] => some []
  | a :: as => match dat H a, datL H as with
    | some x, some xs => some (x :: xs)
    | _, _ => none
end

/-- A value as a cell of this kind. -/
def asC (k : LK) (a : A) : Option C :=
  match k, a with
  | .int k, .c (.int k' n) => if k == k' then some (.int k n) else none
  | .bool, .c (.bool b) => some (.bool b)
  | .str, .c (.str s) => some (.str s)
  | .sl lay, .c (.sl lay' xs) => if LK.beqs lay lay' then some (.sl lay xs) else none
  | .sl lay, .c .nil => some (.sl lay [])
  | .mp kk row lay, .c (.mp kk' row' lay' es) => if kk == kk' && row == row' && LK.beqs lay lay' then some (.mp kk row lay es) else none
  | .mp kk row lay, .nm => if row || Nat.beq lay.length 1 then some (.mp kk row lay []) else none
  | _, _ => none
def asRow : List LK → List A → Option (List C)
  | [], [] => some []
  | k :: ks, a :: as => match asC k a, asRow ks as with
    | some c, some cs => some (c :: cs)
    | _, _ => none
  | _, _ => none
/-- Values as elements of an array. -/
def asRows (H : List O) (lay : List LK) : List A → Option (List (List C))
  | [] => some []
  | a :: as => match (datL E H (cellsOf a)).bind (asRow lay), asRows H lay as with
    | some r, some rs => some (r :: rs)
    | _, _ => none

/-! ### Calls of functions that change nothing -/
def partV (get : Nat → C) : Nat → List LK → List A
  | _, [] => []
  | i, k :: ks => .c (fixE E k (get i)) :: partV get (i + 1) ks
def partsV (get : Nat → C) : Nat → List (Bool × List LK) → List A
  | _, [] => []
  | i, (false, ks) :: ps => (partV E get i ks).headD .u :: partsV get (i + ks.length) ps
  | i, (true, ks) :: ps => .agg (partV E get i ks) :: partsV get (i + ks.length) ps
def resVal : List A → A
  | [v] => v
  | vs => .tup vs
def shapeV (get : Nat → C) (rty : List (Bool × List LK)) : A := resVal (partsV E get 0 rty)
def LK.plain : LK → Bool
  | .sl _ => false
  | .mp _ _ _ => false
  | _ => true
/-- No part is a slice or a map. -/
def plainR (rty : List (Bool × List LK)) : Bool := rty.all fun p => p.2.all LK.plain

mutual
/-- The variables that a value names. -/
def ptrsA : A → List Nat
  | .ptr id _ => [id]
  | .agg l => ptrsL l
  | .fn _ l => ptrsL l
  | _ => []
def ptrsL : List A → List Nat
  | [] => []
  | a :: as => ptrsA a ++ ptrsL as
end
def datT1 (H : List O) (a : A) : A := match dat E H a with
  | some d => d
  | none => a
/-- Freeze what the variables ids hold. -/
def frzB (H : List O) : List Nat → List (Nat × O)
  | [] => []
  | id :: ids => (match H[id]? with
    | some (.box _ cs) => frzL H cs
    | _ => []) ++ frzB H ids
/-- The variables ids told by data. -/
def boxD (H : List O) : List Nat → List (Nat × O)
  | [] => []
  | id :: ids => (match H[id]? with
    | some (.box T cs) => [(id, .box T (cs.map (datT1 E H)))]
    | _ => []) ++ boxD H ids
/-- Freeze what values name, and what the variables hold that they name. -/
def frzD (H : List O) (as : List A) : List (Nat × O) :=
  frzB H (ptrsL as) ++ (boxD E (putW H (frzB H (ptrsL as))) (ptrsL as) ++ frzL (putW (putW H (frzB H (ptrsL as))) (boxD E (putW H (frzB H (ptrsL as))) (ptrsL as))) as)

def detE (H : List O) (f : FuncId) (rty : List (Bool × List LK)) (as : List A) : Rs :=
  match datL E (putW H (frzD E H as)) as with
  | some ds => ⟨[.pok (E.pok f rty ds) f rty ds], shapeV E (E.res f ds) rty, if plainR rty then [] else frzD E H as⟩
  | none => stuck

/-- The elements of what is appended. -/
def srcE (H : List O) (lay : List LK) (y : A) : Option (List (List C)) :=
  match y with
  | .c .nil => some []
  | .c (.sl lay' ys) => if LK.beqs lay lay' then some ys else none
  | .gr id => match arrOf H id with
    | some (lay', ys) => if LK.beqs lay lay' then some ys else none
    | none => none
  | .own id off len => match arrOf H id with
    | some (lay', ys) => if LK.beqs lay lay' then some (E.cut ys off (E.pl off len)) else none
    | none => none
  | _ => none

def appE (H : List O) (base : Nat) (slot : Nat) (T : TypeId) (lay : List LK) (bound : Int) (x y : A) : Rs :=
  match srcE E H lay y with
  | none => stuck
  | some ys => match x with
    | .c .nil => ⟨[.b (E.le (E.len ys) bound)], .gr (base + slot), [(base + slot, .arr T lay ys)]⟩
    | .gr id => match H[id]? with
      | some (.arr T' lay' xs) => chk (Nat.beq T T' && LK.beqs lay lay') ⟨[.b (E.le (E.pl (E.len xs) (E.len ys)) bound)], .gr (base + slot), [(id, .dead), (base + slot, .arr T lay (E.cat xs ys))]⟩
      | _ => stuck
    | .own id 0 len => match H[id]? with
      | some (.arr T' lay' xs) => chk (Nat.beq T T' && LK.beqs lay lay') ⟨[.b (E.le (E.pl len (E.len ys)) bound)], .gr (base + slot), [(id, .dead), (base + slot, .arr T lay (E.cat (E.cut xs 0 len) ys))]⟩
      | _ => stuck
    | _ => stuck

/-- append, where the array has elements enough behind x. -/
def apxE (H : List O) (T : TypeId) (lay : List LK) (x y : A) : Rs :=
  match srcE E H lay y with
  | none => stuck
  | some ys => match x with
    | .own id off len => match H[id]? with
      | some (.arr T' lay' xs) => chk (Nat.beq T T' && LK.beqs lay lay') ⟨[.b (E.le (E.pl (E.pl off len) (E.len ys)) (E.len xs))], .own id off (E.pl len (E.len ys)),
          [(id, .arr T lay (E.cat (E.cut xs 0 (E.pl off len)) (E.cat ys (E.cut xs (E.pl (E.pl off len) (E.len ys)) (E.len xs)))))]⟩
      | _ => stuck
    | _ => stuck

def clrE (H : List O) (lay : List LK) (zr : List C) (x : A) : Rs :=
  match x with
  | .c .nil => .q [] (.tup [])
  | .gr id => match H[id]? with
    | some (.arr T lay' xs) => chk (LK.beqs lay lay') ⟨[], .tup [], [(id, .arr T lay' (E.rep (E.len xs) zr))]⟩
    | _ => stuck
  | .own id off len => match H[id]? with
    | some (.arr T lay' xs) => chk (LK.beqs lay lay') ⟨[], .tup [], [(id, .arr T lay' (E.cat (E.cut xs 0 off) (E.cat (E.rep len zr) (E.cut xs (E.pl off len) (E.len xs)))))]⟩
    | _ => stuck
  | _ => stuck

def updE (xs : List (List C)) (i : Int) : Nat → List LK → List A → Option (List (List C))
  | _, _, [] => some xs
  | off, lay, a :: as => match asC (lay.getD off .bool) a with
    | some c => (updE xs i (off + 1) lay as).map fun r => E.upd r i off c
    | none => none

def stE (H : List O) (n : Nat) (x v : A) : Rs :=
  match known v && Nat.beq (cellsOf v).length n with
  | false => stuck
  | true => match x with
    | .ptr id off => match H[id]? with
      | some (.box T cs) => chk (Nat.ble (off + n) cs.length) ⟨[], .u, [(id, .box T (sets cs off (cellsOf v)))]⟩
      | _ => stuck
    | .eptr id i off => match (putW H (frzL H (cellsOf v)))[id]? with
      | some (.arr T lay xs) => match (datL E (putW H (frzL H (cellsOf v))) (cellsOf v)).bind (updE E xs i off lay) with
        | some xs' => chk (Nat.ble (off + n) lay.length) ⟨[], .u, frzL H (cellsOf v) ++ [(id, .arr T lay xs')]⟩
        | none => stuck
      | _ => stuck
    | _ => stuck

def pickE (c x y : A) : Rs :=
  match c with
  | .c (.bool t) =>
    match strip x, strip y with
    | .c (.bool p), .c (.bool q) => .q (stripOk t x ++ stripOk (E.not t) y) (.c (.bool (E.bite t p q)))
    | .c (.int k p), .c (.int k' q) => chk (k == k') (.q (stripOk t x ++ stripOk (E.not t) y) (.c (.int k (E.iite t p q))))
    | .c (.sl lay p), .c (.sl lay' q) => chk (LK.beqs lay lay') (.q (stripOk t x ++ stripOk (E.not t) y) (.c (.sl lay (E.lite t p q))))
    | .u, b => .q (stripOk (E.not t) y ++ [.nb t]) b
    | a, .u => .q (stripOk t x ++ [.b t]) a
    | _, _ => stuck
  | _ => stuck

def aggA : A → Bool
  | .agg _ => true
  | _ => false
/-- The content of map id. -/
def mapOf (H : List O) (id : Nat) : Option (IntKind × Bool × List LK × List (Int × List C)) :=
  match H[id]? with
  | some (.mp kk row lay es) => some (kk, row, lay, es)
  | some (.fmp kk row lay es) => some (kk, row, lay, es)
  | _ => none
/-- A map's value as a value. -/
def mvA (row : Bool) (lay : List LK) (get : Nat → C) : A :=
  match row with
  | true => .agg (partV E get 0 lay)
  | false => (partV E get 0 lay).headD .u
def lkM (k : IntKind) (row : Bool) (lay : List LK) (es : List (Int × List C)) (kk : IntKind) (n : Int) (z : A) (ok : Bool) : Rs :=
  match asRow lay (cellsOf z) with
  | some zr => chk (kk == k && aggA z == row) (.q [] (if ok then .tup [mvA E row lay fun j => E.mlk es n j (zr.getD j .nil), .c (.bool (E.mhas es n))] else mvA E row lay fun j => E.mlk es n j (zr.getD j .nil)))
  | none => stuck
def vE (ev : Opd → A) (H : List O) (base : Nat) (o : VOp) : Rs :=
  match o with
  | .mv x => .q [] (ev x)
  | .build z ps => chk (fillOk ev z.length ps) (.q [] (.agg (fillA ev z ps)))
  | .ld x => ldE E H (ev x)
  | .lda n x => ldaE E H n (ev x)
  | .nc x => match ev x with
    | .el lay xs i off => .q [] (.el lay xs i off)
    | .ptr id off => .q [] (.ptr id off)
    | .eptr id i off => .q [] (.eptr id i off)
    | .fn f cap => .q [] (.fn f cap)
    | _ => stuck
  | .bin op x y => binE E op (ev x) (ev y)
  | .eqb neg x y => match ev x, ev y with
    | .c (.bool a), .c (.bool b) => .q [] (.c (.bool (if neg then E.not (E.beq a b) else E.beq a b)))
    | _, _ => stuck
  | .eqs ls neg x y => match ev x, ev y with
    | .agg a, .agg b => chk (fits ls a && fits ls b) (.q [] (.c (.bool (if neg then E.not (ceqE E a b) else ceqE E a b))))
    | _, _ => stuck
  | .eqn kd neg x => match isNil kd (ev x) with
    | some b => .q [] (.c (.bool (if neg then !b else b)))
    | none => stuck
  | .un op x => match op, ev x with
    | .not, .c (.bool b) => .q [] (.c (.bool (E.not b)))
    | .neg, .c (.int k n) => .q [] (.c (.int k (E.neg k n)))
    | _, _ => stuck
  | .cv k x => match ev x with
    | .c (.int _ n) => .q [] (.c (.int k (E.wrap k n)))
    | _ => stuck
  | .fa off x => faE off (ev x)
  | .fd off none x => match ev x with
    | .agg l => match l[off]? with
      | some a => .q [] a
      | none => stuck
    | _ => stuck
  | .fd off (some n) x => match ev x with
    | .agg l => chk (Nat.ble (off + n) l.length) (.q [] (.agg ((l.drop off).take n)))
    | _ => stuck
  | .ia sz x i => iaE E H sz (ev x) (ev i)
  | .iaa len sz x i => iaaE E len sz (ev x) (ev i)
  | .ixs x i => match ev x, ev i with
    | .c (.str s), .c (.int _ j) => .q [.b (E.le 0 j), .b (E.lt j (E.slen s))] (.c (.int .u8 (E.sget s j)))
    | _, _ => stuck
  | .sls sz x lo hi => slsE E ev H sz (ev x) lo hi
  | .mkf f cs => .q [] (.fn f (cs.map ev))
  | .ext x i => match ev x with
    | .tup l => match l[i]? with
      | some a => .q [] a
      | none => stuck
    | _ => stuck
  | .lenS x => match ev x with
    | .c (.sl _ xs) => .q [] (.c (.int .i64 (E.len xs)))
    | .c .nil => .q [] (.c (.int .i64 0))
    | .own _ _ len => .q [] (.c (.int .i64 len))
    | .gr id => match arrOf H id with
      | some (_, xs) => .q [] (.c (.int .i64 (E.len xs)))
      | none => stuck
    | _ => stuck
  | .lenT x => match ev x with
    | .c (.str s) => .q [] (.c (.int .i64 (E.slen s)))
    | _ => stuck
  | .lenM x => match ev x with
    | .nm => .q [] (.c (.int .i64 0))
    | .c (.mp _ _ _ es) => .q [] (.c (.int .i64 (E.mlen es)))
    | .map id => match mapOf H id with
      | some (_, _, _, es) => .q [] (.c (.int .i64 (E.mlen es)))
      | none => stuck
    | _ => stuck
  | .min x ys => match ev x with
    | .c (.int k a) => foldInts E.min ev k a ys
    | _ => stuck
  | .max x ys => match ev x with
    | .c (.int k a) => foldInts E.max ev k a ys
    | _ => stuck
  | .lkp z x k ok => match ev x, ev k with
    | .nm, .c (.int _ _) => .q [] (if ok then .tup [z, .c (.bool false)] else z)
    | .c (.mp k row lay es), .c (.int kk n) => lkM E k row lay es kk n z ok
    | .map id, .c (.int kk n) => match mapOf H id with
      | some (k, row, lay, es) => lkM E k row lay es kk n z ok
      | none => stuck
    | _, _ => stuck
  | .pick c x y => pickE E (ev c) (ev x) (ev y)
  | .lit lay ps => match asRows E H lay (ps.map ev) with
    | some rs => .q [] (.c (.sl lay rs))
    | none => stuck
  | .det f rty xs => detE E H f rty (xs.map ev)
  | .detv rty x xs => match ev x with
    | .fn f cap => detE E H f rty (xs.map ev ++ cap)
    | _ => stuck
  | .alloc slot T z => ⟨[], .ptr (base + slot) 0, [(base + slot, .box T z)]⟩
  | .box slot T x => chk (known (ev x)) ⟨[], .ptr (base + slot) 0, [(base + slot, .box T (cellsOf (ev x)))]⟩
  | .bsl slot T lay ps =>
    let fw := frzL H (ps.flatMap fun x => cellsOf (ev x))
    match asRows E (putW H fw) lay (ps.map ev) with
    | some rs => ⟨[], .gr (base + slot), fw ++ [(base + slot, .arr T lay rs)]⟩
    | none => stuck
  | .st n x v => stE E H n (ev x) (ev v)
  | .mks slot T lay zr bound len cap => match ev len, ev cap with
    | .c (.int .i64 l), .c (.int .i64 c) => ⟨[.b (E.le 0 l), .b (E.le l c), .b (E.le c bound)], .gr (base + slot), [(base + slot, .arr T lay (E.rep l zr))]⟩
    | _, _ => stuck
  | .mkm slot kk row lay => ⟨[], .map (base + slot), [(base + slot, .mp kk row lay [])]⟩
  | .mup x k v => match ev x, ev k with
    | .map id, .c (.int kk n) => match (putW H (frzL H (cellsOf (ev v))))[id]? with
      | some (.mp k' row lay es) => match (datL E (putW H (frzL H (cellsOf (ev v)))) (cellsOf (ev v))).bind (asRow lay) with
        | some r => chk (kk == k' && aggA (ev v) == row) ⟨[], .u, frzL H (cellsOf (ev v)) ++ [(id, .mp k' row lay (E.mset es n r))]⟩
        | none => stuck
      | _ => stuck
    | _, _ => stuck
  | .del x k => match ev x, ev k with
    | .map id, .c (.int kk n) => match H[id]? with
      | some (.mp k' row lay es) => chk (kk == k') ⟨[], .tup [], [(id, .mp k' row lay (E.mdel es n))]⟩
      | _ => stuck
    | _, _ => stuck
  | .app slot T lay bound x y => appE E H base slot T lay bound (ev x) (ev y)
  | .appN slot T lay zr bound x y => match ev x, ev y with
    | .c .nil, .c (.int .i64 n) => ⟨[.b (E.le 0 n), .b (E.le n bound)], .gr (base + slot), [(base + slot, .arr T lay (E.rep n zr))]⟩
    | _, _ => stuck
  | .clr lay zr x => clrE E H lay zr (ev x)
  | .capN x => match ev x with
    | .c .nil => .q [] (.c (.int .i64 0))
    | _ => stuck
  | .sl3 x lo hi mx => sl3E E ev H (ev x) lo hi mx
  | .slx sz x lo hi => slxE E ev H sz (ev x) lo hi
  | .apx T lay x y => apxE E H T lay (ev x) (ev y)
  | .ixa len sz row x i => ixaE E len sz row (ev x) (ev i)
  | .sst x lo hi => sstE E ev (ev x) lo hi
  | .mkx slot T lay zr bound len cap => match ev len, ev cap with
    | .c (.int .i64 l), .c (.int .i64 c) => ⟨[.b (E.le 0 l), .b (E.le l c), .b (E.le c bound)], .own (base + slot) 0 l, [(base + slot, .arr T lay (E.rep c zr))]⟩
    | _, _ => stuck
  | .bad => stuck
end
end Go.Eng

/- An abstract machine over plain data, part R: the program's code, turned into the machine's. -/
namespace Go.Eng
open Go.RowKit

def opd : Operand → Opd
  | .tmp t => .t t
  | .const v => .k (toA v)
  | .func f => .k (.fn f [])
  | .global _ => .k .u

/-- The kinds of the cells of a type. -/
def layT (P : Program) : Nat → TypeId → Option (List LK)
  | 0, _ => none
  | d + 1, t =>
    match P.underlying t with
    | some (.int k) => some [.int k]
    | some .bool => some [.bool]
    | some .string => some [.str]
    | some (.slice e) => (layT P d e).map fun l => [.sl l]
    | some (.map key e) => match P.underlying key with
      | some (.int kk) => (P.underlying e).bind fun de => (layT P d e).bind fun l => if de.isRow then some [.mp kk true l] else match l with
        | [k] => some [.mp kk false [k]]
        | _ => none
      | _ => none
    | some (.struct fs) => fs.toList.foldl (fun acc f => acc.bind fun ls => if f.offset = ls.length ∧ (P.info? f.type).isSome then
        (layT P d f.type).bind fun l => if P.cellsOf f.type = l.length then some (ls ++ l) else none else none) (some [])
    | _ => none

/-- The cells of a type that is made of numbers, bools and strings alone. -/
def leavesT (P : Program) : Nat → TypeId → Option (List LK)
  | 0, _ => none
  | d + 1, t =>
    match P.underlying t with
    | some (.int k) => some [.int k]
    | some .bool => some [.bool]
    | some .string => some [.str]
    | some (.struct fs) => if P.stoodInHeld t then none else
      fs.toList.foldl (fun acc f => acc.bind fun ls => if f.offset = ls.length ∧ f.name ≠ "_" ∧ (P.info? f.type).isSome then
        (leavesT P d f.type).bind fun l => if P.cellsOf f.type = l.length then some (ls ++ l) else none else none) (some [])
    | _ => none

def nilKind (d : TypeDesc) (c : Value) : Option Nat :=
  match d, c with
  | .slice _, .slice none 0 0 => some 0
  | .pointer _, .pointer none => some 1
  | .map _ _, .map none => some 2
  | .func _ _ _, .nilFunc => some 3
  | _, _ => none

/-- The kinds of what a function hands back. -/
def rtyT (P : Program) (t : TypeId) : Option (Bool × List LK) :=
  (P.underlying t).bind fun d => (layT P 8 t).bind fun l => if d.isRow then some (true, l) else match l with
    | [k] => some (false, [k])
    | _ => none
/-- So, arrays too. -/
def rtyA (P : Program) (t : TypeId) : Option (Bool × List LK) :=
  match P.underlying t with
  | some (.array n e) => if n ≤ 8 then (layT P 8 e).bind fun l => match l with
    | [k] => some (true, List.replicate n k)
    | _ => none
    else none
  | _ => rtyT P t
def hasBody (P : Program) (f : FuncId) : Bool :=
  match P.funcs[f]? with
  | some fn => fn.body.isSome && !(fn.name == "runtime.NumGoroutine")
  | none => false

/-- How calls are told: mut: the functions that may change the abstract heap; dyn: calls of function values may; isn: a nil test of a slice has an open outcome. -/
structure Opts where
  muts : List FuncId
  dyn : Bool
  isn : Bool
  inp : Bool

def pow47 : Int := 140737488355328

/-- The operation o of P as one of the machine's; s: the next free place. -/
def rv (P : Program) (D : Opts) (s : Nat) (o : Oper) : Option ROp :=
  match o.op with
  | .move x => some (.v (.mv (opd x)))
  | .assign x => some (.v (.mv (opd x)))
  | .pick c a b => some (.v (.pick (opd c) (opd a) (opd b)))
  | .build t ps =>
    (P.info? t).bind fun i => i.zero.bind fun z => if z.cells.all (·.oneCell') then
      match P.underlying t with
      | some (.struct fs) => if fs.all (fun f => (P.info? f.type).isSome) then
          (ps.toList.mapM fun p => (fs[p.1]?).map fun f => (f.offset, P.cellsOf f.type, opd p.2)).map fun qs => .v (.build (z.cells.toList.map toA1) qs) else none
      | some (.array _ e) => (P.info? e).map fun ei => .v (.build (z.cells.toList.map toA1) (ps.toList.map fun p => (p.1 * ei.size, ei.size, opd p.2)))
      | _ => none else none
  | .load t x => (P.underlying t).bind fun d => if d.isRow then (P.info? t).map fun i => .v (.lda i.size (opd x)) else some (.v (.ld (opd x)))
  | .nilCheck x => some (.v (.nc (opd x)))
  | .binOp op t x y _ =>
    match P.underlying t with
    | some (.int _) => some (.v (.bin op (opd x) (opd y)))
    | some .string => some (.v (.bin op (opd x) (opd y)))
    | some .bool => if op = .eql then some (.v (.eqb false (opd x) (opd y))) else if op = .neq then some (.v (.eqb true (opd x) (opd y))) else none
    | some (.struct _) => if P.eqGuardType P.depth t then none else
      if op = .eql then (leavesT P 20 t).map fun ls => .v (.eqs ls false (opd x) (opd y)) else if op = .neq then (leavesT P 20 t).map fun ls => .v (.eqs ls true (opd x) (opd y)) else none
    | some d => match y with
      | .const c => (nilKind d c).bind fun kd =>
        if op = .eql then some (if D.isn && kd == 0 then .h (.isn kd false (opd x)) else .v (.eqn kd false (opd x)))
        else if op = .neq then some (if D.isn && kd == 0 then .h (.isn kd true (opd x)) else .v (.eqn kd true (opd x))) else none
      | _ => none
    | none => none
  | .unOp op _ x => some (.v (.un op (opd x)))
  | .convert t u x => match P.underlying t, P.underlying u with
    | some _, some (.int k) => some (.v (.cv k (opd x)))
    | _, _ => none
  | .fieldAddr s x i => match P.underlying s with
    | some (.struct fs) => (fs[i]?).bind fun f => (P.info? f.type).bind fun fi => if fi.size = 0 then none else some (.v (.fa f.offset (opd x)))
    | _ => none
  | .field s x i => match P.underlying s with
    | some (.struct fs) => (fs[i]?).bind fun f => (P.underlying f.type).bind fun d => if d.isRow then (P.info? f.type).map fun fi => .v (.fd f.offset (some fi.size) (opd x)) else some (.v (.fd f.offset none (opd x)))
    | _ => none
  | .indexAddr t x i => match P.underlying t with
    | some (.slice e) => (P.info? e).map fun ei => .v (.ia ei.size (opd x) (opd i))
    | some (.array len e) => (P.info? e).map fun ei => .v (.iaa len ei.size (opd x) (opd i))
    | _ => none
  | .index t x i => match P.underlying t with
    | some .string => some (.v (.ixs (opd x) (opd i)))
    | some (.array len e) => (P.info? e).bind fun ei => (P.underlying e).map fun d => .v (.ixa len ei.size d.isRow (opd x) (opd i))
    | _ => none
  | .slice t x lo hi none => match P.underlying t with
    | some .string => some (.v (.sst (opd x) (lo.map opd) (hi.map opd)))
    | some (.slice e) => (P.info? e).map fun ei => if D.inp then .v (.slx ei.size (opd x) (lo.map opd) (hi.map opd)) else .v (.sls ei.size (opd x) (lo.map opd) (hi.map opd))
    | _ => none
  | .slice t x lo (some hi) (some mx) => match P.underlying t with
    | some (.slice e) => (P.info? e).map fun _ => .v (.sl3 (opd x) (lo.map opd) (opd hi) (opd mx))
    | _ => none
  | .makeFunc (.func f) first cs => if first.isEmpty then some (.v (.mkf f (cs.toList.map opd))) else none
  | .extract x i => some (.v (.ext (opd x) i))
  | .lookup t x i ok => match P.underlying t with
    | some (.map key e) => match P.underlying key with
      | some (.int _) => (P.info? e).bind fun ei => ei.zero.map fun z => .v (.lkp (toA z) (opd x) (opd i) ok)
      | _ => none
    | _ => none
  | .alloc T => (P.info? T).bind fun i => i.zero.bind fun z => if z.cells.all (·.oneCell') then some (.v (.alloc s T (z.cells.toList.map toA1))) else none
  | .box T x => some (.v (.box s T (opd x)))
  | .buildSlice t len ps => match P.underlying t with
    | some (.slice e) => (P.info? e).bind fun i => i.zero.bind fun z => (layT P 8 e).bind fun lay =>
      if ps.toList.map (·.1) = List.range ps.size ∧ len = ps.size ∧ len * i.size ≤ 2 ^ 24 ∧ i.size = lay.length ∧ z.cells.size = i.size then
        some (if o.guard.isSome then .v (.lit lay (ps.toList.map fun p => opd p.2)) else .v (.bsl s e lay (ps.toList.map fun p => opd p.2))) else none
    | _ => none
  | .store t x v => (P.info? t).map fun i => .v (.st i.size (opd x) (opd v))
  | .makeSlice t x y => match P.underlying t with
    | some (.slice e) => (P.info? e).bind fun i => i.zero.bind fun z => (layT P 8 e).bind fun lay =>
      (asRow lay (z.cells.toList.map toA1)).bind fun zr => if z.cells.size = i.size ∧ i.size = lay.length ∧ 0 < i.bytes then some (if D.inp then .v (.mkx s e lay zr (pow47 / i.bytes) (opd x) (opd y)) else .v (.mks s e lay zr (pow47 / i.bytes) (opd x) (opd y))) else none
    | _ => none
  | .makeMap t none => match P.underlying t with
    | some (.map key e) => match P.underlying key, rtyT P e with
      | some (.int kk), some (true, lay) => some (.v (.mkm s kk true lay))
      | some (.int kk), some (false, [k]) => some (.v (.mkm s kk false [k]))
      | _, _ => none
    | _ => none
  | .mapUpdate t x k v => match P.underlying t with
    | some (.map key _) => match P.underlying key with
      | some (.int _) => some (.v (.mup (opd x) (opd k) (opd v)))
      | _ => none
    | _ => none
  | .call ⟨.builtin .append, args, ts⟩ =>
    match args.toList, ts.toList with
    | [x, y], [t, tx] => match P.underlying t, P.underlying tx with
      | some (.slice e), some (.slice _) => (P.info? e).bind fun i => i.zero.bind fun z => (layT P 8 e).bind fun lay =>
        if z.cells.size = i.size ∧ 0 < i.bytes ∧ i.size = lay.length then some (if D.inp then .v (.apx e lay (opd x) (opd y)) else .v (.app s e lay (pow47 / i.bytes) (opd x) (opd y))) else none
      | some (.slice e), some (.int _) => (P.info? e).bind fun i => i.zero.bind fun z => (layT P 8 e).bind fun lay => (asRow lay (z.cells.toList.map toA1)).bind fun zr =>
        if z.cells.size = i.size ∧ 0 < i.bytes ∧ i.size = lay.length then some (.v (.appN s e lay zr (pow47 / i.bytes) (opd x) (opd y))) else none
      | _, _ => none
    | _, _ => none
  | .call ⟨.builtin .delete, args, ts⟩ =>
    match args.toList, ts.toList with
    | x :: k :: [], t :: _ => match P.underlying t with
      | some (.map key _) => match P.underlying key with
        | some (.int _) => some (.v (.del (opd x) (opd k)))
        | _ => none
      | _ => none
    | _, _ => none
  | .call ⟨.builtin b, args, ts⟩ =>
    match b, args.toList, ts.toList with
    | .len, [x], [t] => match P.underlying t with
      | some (.slice _) => some (.v (.lenS (opd x)))
      | some .string => some (.v (.lenT (opd x)))
      | some (.map _ _) => some (.v (.lenM (opd x)))
      | _ => none
    | .cap, [x], [t] => match P.underlying t with
      | some (.slice _) => some (.v (.capN (opd x)))
      | _ => none
    | .clear, [x], [t] => match P.underlying t with
      | some (.slice e) => (P.info? e).bind fun i => i.zero.bind fun z => (layT P 8 e).bind fun lay => (asRow lay (z.cells.toList.map toA1)).bind fun zr =>
        if z.cells.size = i.size ∧ i.size = lay.length then some (.v (.clr lay zr (opd x))) else none
      | _ => none
    | .min, x :: ys, _ => some (.v (.min (opd x) (ys.map opd)))
    | .max, x :: ys, _ => some (.v (.max (opd x) (ys.map opd)))
    | _, _, _ => none
  | .call ⟨.value (.func f), args, _⟩ => if hasBody P f then
      if f ∈ D.muts then some (.h (.call f (args.toList.map opd)))
      else (P.funcs[f]?).bind fun fn => (fn.resultTypes.toList.mapM (rtyA P)).map fun rty => .v (.det f rty (args.toList.map opd)) else none
  | .call ⟨.value (.tmp t), args, _⟩ => if D.dyn then some (.h (.callv (.t t) (args.toList.map opd)))
      else (rtyA P o.type).map fun r => .v (.detv [r] (.t t) (args.toList.map opd))
  | _ => none

/-- May it stand under a guard? It writes nothing. -/
def VOp.quiet : VOp → Bool
  | .alloc .. => false
  | .box .. => false
  | .bsl .. => false
  | .st .. => false
  | .mks .. => false
  | .mkx .. => false
  | .mkm .. => false
  | .mup .. => false
  | .del .. => false
  | .app .. => false
  | .apx .. => false
  | .appN .. => false
  | .clr .. => false
  | .det _ rty _ => plainR rty
  | .detv rty _ _ => plainR rty
  | _ => true
def VOp.makes : VOp → Bool
  | .alloc .. => true
  | .box .. => true
  | .bsl .. => true
  | .mks .. => true
  | .mkx .. => true
  | .mkm .. => true
  | .app .. => true
  | .appN .. => true
  | _ => false
def ROp.quiet : ROp → Bool
  | .v o => o.quiet
  | .h _ => false
def ROp.makes : ROp → Bool
  | .v o => o.makes
  | .h _ => false

def ROp.isH : ROp → Bool
  | .h _ => true
  | .v _ => false
def guardR (ops : Array Oper) (o : Oper) : Option (Option (Nat × Bool)) :=
  match o.guard with
  | none => some none
  | some (j, want) => ((ops[j]?).bind (·.dst)).map fun t => some (t, want)

def ropOf (P : Program) (D : Opts) (ops : Array Oper) (s : Nat) (o : Oper) : Option ROper :=
  (guardR ops o).map fun g => ⟨o.dst, if o.guard.isSome && !(((rv P D s o).getD (.v .bad)).quiet || ((rv P D s o).getD (.v .bad)).isH) then .v .bad else (rv P D s o).getD (.v .bad), g, if o.guard.isSome then o.op.operands.toList.map opd else []⟩

def ropsOf (P : Program) (D : Opts) (ops : Array Oper) : Nat → List Oper → Option (List ROper × Nat)
  | s, [] => some ([], s)
  | s, o :: os => (ropOf P D ops s o).bind fun r => (ropsOf P D ops (if r.op.makes then s + 1 else s) os).map fun (rs, n) => (r :: rs, n)

def memN (x : Nat) : List Nat → Bool
  | [] => false
  | y :: ys => Nat.beq x y || memN x ys
def insN (x : Nat) (l : List Nat) : List Nat := if memN x l then l else x :: l
def uniN : List Nat → List Nat → List Nat
  | [], l => l
  | x :: xs, l => insN x (uniN xs l)
/-- Those that must be done ahead of an operation, acc: of those listed ahead of it. -/
def befE (acc : List (List Nat)) : List Edge → List Nat
  | [] => []
  | e :: es => if Region.binds .any e then insN e.on (uniN (acc.getD e.on []) (befE acc es)) else befE acc es
def befsR : List (List Nat) → List Oper → List (List Nat)
  | acc, [] => acc
  | acc, o :: os => befsR (acc ++ [befE acc o.after.toList]) os

def VOp.slot? : VOp → Option Nat
  | .alloc s .. => some s
  | .box s .. => some s
  | .bsl s .. => some s
  | .mks s .. => some s
  | .mkx s .. => some s
  | .mkm s .. => some s
  | .app s .. => some s
  | .appN s .. => some s
  | _ => none
def ROp.slot? : ROp → Option Nat
  | .v o => o.slot?
  | .h _ => none
def slotsOf : List ROper → List Nat
  | [] => []
  | o :: os => match o.op.slot? with
    | some k => k :: slotsOf os
    | none => slotsOf os
def nodupN : List Nat → Bool
  | [] => true
  | x :: xs => !memN x xs && nodupN xs

/-- An order in which whatever need not come behind a call comes ahead of it. -/
def ordR : Nat → List (Nat × List Nat × ROper) → List (Nat × List Nat × ROper)
  | 0, l => l
  | _ + 1, [] => []
  | k + 1, x :: xs => if x.2.2.op.isH then xs.filter (fun y => !memN x.1 y.2.1) ++ x :: ordR k (xs.filter fun y => memN x.1 y.2.1) else x :: ordR k xs
def numR (befs : List (List Nat)) : Nat → List ROper → List (Nat × List Nat × ROper)
  | _, [] => []
  | i, r :: rs => (i, befs.getD i [], r) :: numR befs (i + 1) rs
/-- Whatever stands behind a call in l must come behind it. -/
def ordH : List (Nat × List Nat × ROper) → Bool
  | [] => true
  | x :: xs => (!x.2.2.op.isH || xs.all fun y => memN x.1 y.2.1) && ordH xs
/-- All edges point back; every operation stands in l, once; no two make in one place. -/
def okAny (ops : Array Oper) (l : List (Nat × List Nat × ROper)) (n : Nat) : Bool :=
  ((List.range ops.size).all fun i => match ops[i]? with
    | some o => o.after.toList.all fun e => !Region.binds .any e || Nat.blt e.on i
    | none => true) &&
  Nat.beq l.length ops.size && ordH l && nodupN (l.map (·.1)) && ((List.range ops.size).all fun i => memN i (l.map (·.1))) && nodupN (slotsOf (l.map (·.2.2))) && (slotsOf (l.map (·.2.2))).all (fun k => Nat.blt k n)

/-- 'for k, v := range m' over a map: ahead of it (n places, operations os), the map's, the iterator's, the step's temporaries, the exits' numbers, the entry's temporary, what is done with it (n2, os2). -/
structure RHdr where
  n : Nat
  os : List ROper
  m : Nat
  it : Nat
  nx : Nat
  mo : Nat
  out : Nat
  nxt : Nat
  n2 : Nat
  pr : Nat
  os2 : List ROper
  deriving Inhabited

inductive RCode where
  | skip
  | ops (n : Nat) (os : List ROper)
  | any (n : Nat) (os : List (Nat × List Nat × ROper))
  | seq (x y : RCode)
  | cond (c : Opd) (x y : RCode)
  | block (id : Nat) (x : RCode)
  | loop (x : RCode)
  | exit (id : Nat)
  | ret
  | rng (h : RHdr) (x : RCode)
  deriving Inhabited

def neqN (a b : Nat) : Bool := !Nat.beq a b
def rngOk (m it nx mo pr out nxt it1 it2 nx1 c o : Nat) : Bool :=
  Nat.beq it1 it && (Nat.beq it2 it && (Nat.beq nx1 nx && (Nat.beq c mo && (Nat.beq o out && (neqN m it && (neqN nx it && (neqN mo it && (neqN nx m && (neqN mo m && (neqN mo nx && (neqN pr it && (neqN pr m && neqN out nxt))))))))))))
def rngHdr2 (P : Program) (D : Opts) (ops1 ops3 : Array Oper) (l1 l3 : List Oper) (rop nop xop eop : Oper) (c out o nxt : Nat) : Option RHdr :=
  match rop.op, rop.dst, rop.guard with
  | .range t (.tmp m), some it, none => match nop.op, nop.dst, nop.guard with
    | .next (.tmp it1) false, some nx, none => match xop.op, xop.dst, xop.guard with
      | .extract (.tmp nx1) 0, some mo, none => match eop.op, eop.dst, eop.guard with
        | .entry (.tmp it2), some pr, none => match P.underlying t with
          | some (.map _ _) => if rngOk m it nx mo pr out nxt it1 it2 nx1 c o then
              (ropsOf P D ops1 0 l1).bind fun r1 => (ropsOf P D ops3 0 l3).bind fun r3 =>
                if nodupN (slotsOf r1.1) && (slotsOf r1.1).all (fun k => Nat.blt k r1.2) && (nodupN (slotsOf r3.1) && (slotsOf r3.1).all (fun k => Nat.blt k r3.2)) then some ⟨r1.2, r1.1, m, it, nx, mo, out, nxt, r3.2, pr, r3.1⟩ else none
            else none
          | _ => none
        | _, _, _ => none
      | _, _, _ => none
    | _, _, _ => none
  | _, _, _ => none
/-- Is it a loop over a map? -/
def rngHdr (P : Program) (D : Opts) (x y : Code) : Option RHdr :=
  match x, y with
  | .region _ ops1 false, .block out (.loop (.seq (.region _ ops2 false) (.seq (.cond (.tmp c) .skip (.exit o)) (.block nxt (.seq (.region _ ops3 false) _))))) =>
    match ops1.toList.getLast?, ops2.toList, ops3.toList with
    | some rop, [nop, xop], eop :: l3 => rngHdr2 P D ops1 ops3 ops1.toList.dropLast l3 rop nop xop eop c out o nxt
    | _, _, _ => none
  | _, _ => none
def rngBody : RCode → Option RCode
  | .block _ (.loop (.seq _ (.seq _ (.block _ (.seq _ x))))) => some x
  | _ => none

def codeR (P : Program) (D : Opts) : Code → Option RCode
  | .skip => some .skip
  | .label _ => some .skip
  | .region _ ops draw => (ropsOf P D ops 0 ops.toList).bind fun (rs, n) =>
    if draw then
      if okAny ops (ordR ops.size (numR (befsR [] ops.toList) 0 rs)) n then some (.any n (ordR ops.size (numR (befsR [] ops.toList) 0 rs))) else none
    else if nodupN (slotsOf rs) && (slotsOf rs).all (fun k => Nat.blt k n) then some (.ops n rs) else none
  | .seq x y => match rngHdr P D x y with
    | some h => (codeR P D y).bind fun ry => (rngBody ry).map fun rb => .rng h rb
    | none => (codeR P D x).bind fun rx => (codeR P D y).map fun ry => .seq rx ry
  | .cond c x y => (codeR P D x).bind fun rx => (codeR P D y).map fun ry => .cond (opd c) rx ry
  | .block id x => (codeR P D x).map fun rx => .block id rx
  | .loop x => (codeR P D x).map .loop
  | .exit id => some (.exit id)
  | .ret => some .ret
  | .scope x => codeR P D x
  | _ => none

inductive RRes where
  | t (n : Nat)
  | l (n : Nat)
  | la (n k : Nat)
  deriving Inhabited

def resR (P : Program) : ResultVar → Option RRes
  | .tmp t => some (.t t)
  | .cell a T => (P.underlying T).bind fun d => if d.isRow then (P.info? T).map fun i => .la a i.size else some (.l a)

structure RFn where
  body : RCode
  ntmps : Nat
  results : List RRes
  deriving Inhabited

def fnR (P : Program) (D : Opts) (f : FuncId) : Option RFn :=
  (P.funcs[f]?).bind fun fn => fn.body.bind fun c => (codeR P D c).bind fun rc => (fn.results.toList.mapM (resR P)).map fun rs => ⟨rc, fn.ntmps, rs⟩

end Go.Eng

/- An abstract machine over plain data, part W: what code does to the machine's state. -/
namespace Go.Eng
open Go.RowKit

/-- The state of a function that runs. -/
structure St where
  T : List A
  H : List O

def evT (T : List A) : Opd → A
  | .t n => T.getD n .u
  | .k a => a
def putT (T : List A) (d : Option Nat) (x : A) : List A :=
  match d with
  | some d => T.set d x
  | none => T

/-- p or q, as b says. -/
structure Br (b : Bool) (p q : Prop) : Prop where
  t : b = true → p
  f : b = false → q

def allStrip (γ : Bool) (ev : Opd → A) : List Opd → List Cnd
  | [] => []
  | x :: xs => stripOk γ (ev x) ++ allStrip γ ev xs
/-- All of them hold; then q. -/
def allP : List Cnd → Prop → Prop
  | [], q => q
  | p :: ps, q => p.holds ∧ allP ps q
def impL (γ : Bool) : List Cnd → List Cnd
  | [] => []
  | p :: ps => .g γ p :: impL γ ps

section
variable (P : Program) (E : Env)

/-- A guard's condition. -/
def guardOf (x : A) (want : Bool) : Option Bool :=
  match x with
  | .c (.bool b) => some (if want then b else E.not b)
  | .wh b' (.c (.bool b)) => some (E.and b' (if want then b else E.not b))
  | _ => none

/-- What a call of f with xs does to the abstract heap H: Q of its result and the heap then. -/
def ACalls (f : FuncId) (xs : List A) (H : List O) (Q : A → List O → Prop) : Prop :=
  ∀ (w0 : Base) (w : World) (G : Gh) (vs : Array Value), HR w0 G H w → vs.size = xs.length → (∀ i (_ : i < xs.length) (_ : i < vs.size), VR G xs[i] vs[i]) →
    Calls P f vs w fun e w' => ∃ r v G' H', e = .returned v ∧ HR w0 G' H' w' ∧ VR G' r v ∧ Gh.Le w0.keeps G G' ∧ (∀ i, G'.al i = true → G.al i = true ∨ H.length ≤ i) ∧ H.length ≤ H'.length ∧ Q r H'

inductive HCall (f : FuncId) (xs : List A) (H : List O) (Q : A → List O → Prop) : Prop where
  | mk (h : hasBody P f = true) (h : ACalls P f xs H Q)
inductive HIsn (xs : List (List C)) (neg : Bool) (Q : A → Prop) : Prop where
  | mk (h : ∀ b : Bool, (b = true → xs = []) → Q (.c (.bool (if neg then !b else b))))

def HOp.wp (ev : Opd → A) (H : List O) (o : HOp) (K : A → List O → Prop) : Prop :=
  match o with
  | .isn kd neg x => match ev x with
    | .c (.sl _ xs) => HIsn xs neg fun v => K v H
    | .gr id => match arrOf H id with
      | some (_, xs) => HIsn xs neg fun v => K v H
      | none => False
    | .own id _ _ => match arrOf H id with
      | some (_, xs) => HIsn xs neg fun v => K v H
      | none => False
    | a => match isNil kd a with
      | some b => K (.c (.bool (if neg then !b else b))) H
      | none => False
  | .call f xs => HCall P f (xs.map ev) H K
  | .callv x xs => match ev x with
    | .fn f cap => HCall P f (xs.map ev ++ cap) H K
    | _ => False

/-- What an operation on values does in s: its conditions, its value, what it writes. -/
def oEff (b : Nat) (o : ROper) (q : VOp) (s : St) : Option Rs :=
  match o.guard with
  | none => some (vE E (evT s.T) s.H b q)
  | some (g, want) => match guardOf E (s.T.getD g .u) want with
    | some γ => match q with
      | .pick c x y => match pickE E (strip (evT s.T c)) (evT s.T x) (evT s.T y) with
        | ⟨p, v, _⟩ => some ⟨stripOk γ (evT s.T c) ++ impL γ p, .wh γ v, []⟩
      | q => match vE E (fun x => strip (evT s.T x)) s.H b q with
        | ⟨p, v, _⟩ => some ⟨allStrip γ (evT s.T) o.uses ++ impL γ p, .wh γ v, []⟩
    | none => none

/-- A call, or a test with an open outcome, under a guard or not. -/
def gwp (o : ROper) (q : HOp) (s : St) (K : A → List O → Prop) : Prop :=
  match o.guard with
  | none => q.wp P (evT s.T) s.H K
  | some (g, want) => match guardOf E (s.T.getD g .u) want with
    | some γ => allP (allStrip γ (evT s.T) o.uses) (Br γ (q.wp P (fun x => strip (evT s.T x)) s.H K) (K (.wh false .u) s.H))
    | none => False

def opsWp (b : Nat) (K : St → Prop) : List ROper → St → Prop
  | [], s => K s
  | o :: os, s => match o.op with
    | .v q => match oEff E b o q s with
      | some ⟨p, v, ws⟩ => allP p (opsWp b K os ⟨putT s.T o.dst v, putW s.H ws⟩)
      | none => False
    | .h q => gwp P E o q s fun v H' => opsWp b K os ⟨putT s.T o.dst v, H'⟩

/-! ### Regions whose order is drawn -/
/-- What is kept of an operation of a region that has been done: its number, its target, the temporaries that it looked at, the objects that it looked at (rl: at no more than their length) and wrote (ww: keeping their length),
whether it may have changed anything. -/
structure Lg where
  i : Nat
  d : Option Nat
  us : List Nat
  rd : List Nat
  rl : List Nat
  w : List Nat
  ww : List Nat
  h : Bool

def disN (a b : List Nat) : Bool := a.all fun x => !memN x b
def dstOk : Option Nat → List Nat → Bool
  | none, _ => true
  | some d, us => !memN d us
def dstNe : Option Nat → Option Nat → Bool
  | some d, some e => !(Nat.beq d e)
  | _, _ => true
/-- Two operations, x listed ahead of y, that may be done in either order. -/
def apart (x y : Lg) : Bool :=
  dstOk x.d y.us && dstOk y.d x.us && dstNe x.d y.d && !x.h &&
  (match y.h with
   | true => x.w.isEmpty && x.ww.isEmpty
   | false => disN x.w (y.rd ++ y.rl) && disN x.ww y.rd && disN (x.w ++ x.ww) (y.w ++ y.ww) && disN y.w (x.rd ++ x.rl) && disN y.ww x.rd)
/-- What those looked at that need not come ahead. -/
def readsOf (bef : List Nat) : List Lg → List Nat
  | [] => []
  | x :: xs => if memN x.i bef then readsOf bef xs else uniN x.rd (uniN x.rl (readsOf bef xs))
def keepL : List Nat → List O → List O → Prop
  | [], _, _ => True
  | b :: bs, H, H' => H'[b]? = H[b]? ∧ keepL bs H H'
/-- These objects are as they were. -/
structure KeepP (l : List Nat) (H H' : List O) (q : Prop) : Prop where
  keep : keepL l H H'
  get : q
def keepW (l : List Nat) (H H' : List O) (q : Prop) : Prop :=
  match l with
  | [] => q
  | b :: bs => KeepP (b :: bs) H H' q
theorem keepW_iff {l : List Nat} {H H' : List O} {q : Prop} : keepW l H H' q ↔ keepL l H H' ∧ q := by
  cases l with
  | nil => exact ⟨fun h => ⟨trivial, h⟩, fun h => h.2⟩
  | cons b bs => exact ⟨fun h => ⟨h.keep, h.get⟩, fun h => ⟨h.1, h.2⟩⟩
theorem keepL_iff {H H' : List O} : ∀ {l : List Nat}, keepL l H H' ↔ ∀ id ∈ l, H'[id]? = H[id]?
  | [] => by simp [keepL]
  | b :: bs => by simp only [keepL, keepL_iff (l := bs), List.forall_mem_cons]
def apartAll (bef : List Nat) (y : Lg) : List Lg → Bool
  | [] => true
  | x :: xs => (memN x.i bef || apart x y) && apartAll bef y xs

mutual
/-- The objects that a value names. -/
def A.ids : A → List Nat
  | .own id _ _ => [id]
  | .gr id => [id]
  | .ptr id _ => [id]
  | .eptr id _ _ => [id]
  | .map id => [id]
  | .wh _ v => v.ids
  | .pin _ v => v.ids
  | .fn _ l => A.idsL l
  | .agg l => A.idsL l
  | .tup l => A.idsL l
  | _ => []
def A.idsL : List A → List Nat
  | [] => []
  | a :: as => a.ids ++ A.idsL as
end
def VOp.opds : VOp → List Opd
  | .mv x => [x]
  | .build _ ps => ps.map fun p => p.2.2
  | .ld x => [x]
  | .lda _ x => [x]
  | .nc x => [x]
  | .bin _ x y => [x, y]
  | .eqb _ x y => [x, y]
  | .eqs _ _ x y => [x, y]
  | .eqn _ _ x => [x]
  | .un _ x => [x]
  | .cv _ x => [x]
  | .fa _ x => [x]
  | .fd _ _ x => [x]
  | .ia _ x i => [x, i]
  | .iaa _ _ x i => [x, i]
  | .ixs x i => [x, i]
  | .sls _ x lo hi => x :: (lo.toList ++ hi.toList)
  | .mkf _ cs => cs
  | .ext x _ => [x]
  | .lenS x => [x]
  | .lenT x => [x]
  | .lenM x => [x]
  | .min x ys => x :: ys
  | .max x ys => x :: ys
  | .lkp _ x k _ => [x, k]
  | .pick c x y => [c, x, y]
  | .lit _ ps => ps
  | .det _ _ xs => xs
  | .detv _ x xs => x :: xs
  | .alloc _ _ _ => []
  | .box _ _ x => [x]
  | .bsl _ _ _ ps => ps
  | .st _ x v => [x, v]
  | .mks _ _ _ _ _ len cap => [len, cap]
  | .mkm _ _ _ _ => []
  | .mup x k v => [x, k, v]
  | .del x k => [x, k]
  | .app _ _ _ _ x y => [x, y]
  | .appN _ _ _ _ _ x y => [x, y]
  | .clr _ _ x => [x]
  | .capN x => [x]
  | .sl3 x lo hi mx => x :: hi :: mx :: lo.toList
  | .slx _ x lo hi => x :: (lo.toList ++ hi.toList)
  | .apx _ _ x y => [x, y]
  | .ixa _ _ _ x i => [x, i]
  | .sst x lo hi => x :: (lo.toList ++ hi.toList)
  | .mkx _ _ _ _ _ len cap => [len, cap]
  | .bad => []
def HOp.opds : HOp → List Opd
  | .call _ xs => xs
  | .callv x xs => x :: xs
  | .isn _ _ x => [x]
def tmpsOf : List Opd → List Nat
  | [] => []
  | .t n :: xs => n :: tmpsOf xs
  | .k _ :: xs => tmpsOf xs
def guardT : Option (Nat × Bool) → List Nat
  | some (g, _) => [g]
  | none => []
/-- It looks at no more of an array than its length. -/
def VOp.lenOnly : VOp → Bool
  | .ia .. => true
  | .lenS .. => true
  | .sls .. => true
  | .sl3 .. => true
  | _ => false
/-- It looks at objects. -/
def VOp.reads : VOp → Bool
  | .ld .. => true
  | .lda .. => true
  | .ia .. => true
  | .sls .. => true
  | .sl3 .. => true
  | .slx .. => true
  | .apx .. => true
  | .lenS .. => true
  | .lenM .. => true
  | .lkp .. => true
  | .lit .. => true
  | .det .. => true
  | .detv .. => true
  | .bsl .. => true
  | .st .. => true
  | .mup .. => true
  | .del .. => true
  | .app .. => true
  | .clr .. => true
  | _ => false
/-- The objects that the variables ids hold. -/
def boxIds (H : List O) : List Nat → List Nat
  | [] => []
  | id :: ids => (match H[id]? with
    | some (.box _ cs) => A.idsL cs
    | _ => []) ++ boxIds H ids
def VOp.deep : VOp → Bool
  | .det .. => true
  | .detv .. => true
  | _ => false
def seenL (H : List O) (deep : Bool) (ids : List Nat) : List Nat := if deep then ids ++ boxIds H ids else ids
def VOp.seen (T : List A) (H : List O) (q : VOp) : List Nat := if q.reads then seenL H q.deep (A.idsL (q.opds.map (evT T))) else []
/-- A store that changes cells of an array, and nothing else. -/
def VOp.soft (T : List A) (ws : List (Nat × O)) : VOp → Bool
  | .st _ x _ => match evT T x, ws with
    | .eptr _ _ _, [_] => true
    | _, _ => false
  | _ => false
def lgV (i : Nat) (o : ROper) (q : VOp) (T : List A) (H : List O) (ws : List (Nat × O)) : Lg :=
  ⟨i, o.dst, guardT o.guard ++ (tmpsOf o.uses ++ tmpsOf q.opds), if q.lenOnly then [] else q.seen T H, if q.lenOnly then q.seen T H else [],
    if q.soft T ws then [] else ws.map (·.1), if q.soft T ws then ws.map (·.1) else [], false⟩
def lgH (i : Nat) (o : ROper) (q : HOp) : Lg := ⟨i, o.dst, guardT o.guard ++ (tmpsOf o.uses ++ tmpsOf q.opds), [], [], [], [], true⟩

/-- A region whose order is drawn, in one order: those done ahead of an operation that need not have been are apart from it. -/
def anyWp (b : Nat) (K : St → Prop) : List Lg → List (Nat × List Nat × ROper) → St → Prop
  | _, [], s => K s
  | lg, (i, bef, o) :: os, s => match o.op with
    | .v q => match oEff E b o q s with
      | some ⟨p, v, ws⟩ => match apartAll bef (lgV i o q s.T s.H ws) lg with
        | true => allP p (anyWp b K (lgV i o q s.T s.H ws :: lg) os ⟨putT s.T o.dst v, putW s.H ws⟩)
        | false => False
      | none => False
    | .h q => match apartAll bef (lgH i o q) lg with
      | true => gwp P E o q s fun v H' => keepW (readsOf bef lg) s.H H' (anyWp b K (lgH i o q :: lg) os ⟨putT s.T o.dst v, H'⟩)
      | false => False

/-- What is known behind code: for each exit a state. -/
structure SR (w0 : Base) (n0 : Nat) (G0 G : Gh) (s : St) (a : Act) (w : World) : Prop where
  size : a.tmps.size = s.T.length
  val : ∀ t (h1 : t < s.T.length) (h2 : t < a.tmps.size), VR G s.T[t] a.tmps[t]
  hr : HR w0 G s.H w
  df : a.defers = w0.df
  le : Gh.Le w0.keeps G0 G
  al0 : ∀ id, G0.al id = true → id < n0
  fr : ∀ id, G.al id = true → G0.al id = true ∨ n0 ≤ id
  n0 : n0 ≤ s.H.length

/-- What s is known to be may be told as s', too. -/
def GSt (n0 : Nat) (s s' : St) : Prop := ∀ w0 G0 G a w, SR w0 n0 G0 G s a w → ∃ G', SR w0 n0 G0 G' s' a w

/-- A loop that ends within k rounds. -/
def LoopN (n0 : Nat) (b : (Exit → St → Prop) → St → Prop) (R : Exit → St → Prop) : Nat → St → Prop
  | 0, _ => False
  | k + 1, s => ∃ s1, GSt n0 s s1 ∧ b (fun e s' => match e with
      | .normal => LoopN n0 b R k s'
      | e => R e s') s1
inductive LoopW (n0 : Nat) (b : (Exit → St → Prop) → St → Prop) (R : Exit → St → Prop) (s : St) : Prop where
  | mk (k : Nat) (h : LoopN n0 b R k s)

/-- What temporary m of s holds: is it a map of the call's own that must be locked? its content. -/
def mapSt (s : St) (m : Nat) : Option (Bool × IntKind × Bool × List LK × List (Int × List C)) :=
  match s.T.getD m .u with
  | .c (.mp kk row lay es) => some (false, kk, row, lay, es)
  | .nm => some (false, .i64, true, [], [])
  | .map id => match s.H[id]? with
    | some (.fmp kk row lay es) => some (false, kk, row, lay, es)
    | some (.mp kk row lay es) => some (true, kk, row, lay, es)
    | _ => none
  | _ => none
def lockH (H : List O) : A → List O
  | .map id => H.set id .dead
  | _ => H
/-- The state at the first step: the iterator's temporary is v, a locked map's vm. -/
def rngIn (h : RHdr) (lock : Bool) (v vm : Value) (s : St) : St :=
  match lock with
  | true => ⟨(((s.T.set h.it (.pin v .u)).set h.nx .u).set h.mo .u).set h.m (.pin vm (s.T.getD h.m .u)), lockH s.H (s.T.getD h.m .u)⟩
  | false => ⟨((s.T.set h.it (.pin v .u)).set h.nx .u).set h.mo .u, s.H⟩
/-- Behind the last entry: a locked map is given back. -/
def rngFin (h : RHdr) (lock : Bool) (vm : Value) (o : O) (K : St → Prop) (s : St) : Prop :=
  match lock with
  | true => match s.T.getD h.m .u with
    | .pin vm' (.map id) => vm' = vm ∧ match s.H[id]? with
      | some .dead => K ⟨s.T, s.H.set id o⟩
      | _ => False
    | _ => False
  | false => K s
/-- At each step: the iterator's temporary is v; the step's own are not known. -/
structure RngHd (h : RHdr) (v : Value) (s : St) : Prop where
  it : s.T[h.it]? = some (.pin v .u)
  nx : s.T[h.nx]? = some .u
  mo : s.T[h.mo]? = some .u
/-- The entries that are left, in any order. -/
def RngN (n0 : Nat) (hd : St → Prop) (rnd : Int × List C → (St → Prop) → St → Prop) (fin : St → Prop) : Nat → List (Int × List C) → St → Prop
  | 0, _, _ => False
  | k + 1, left, s => ∃ s1, GSt n0 s s1 ∧ hd s1 ∧ (left = [] → fin s1) ∧ ∀ i (hi : i < left.length), rnd left[i] (fun s' => RngN n0 hd rnd fin k (left.eraseIdx i) s') s1
inductive RngW (n0 : Nat) (hd : St → Prop) (rnd : Int × List C → (St → Prop) → St → Prop) (fin : St → Prop) (left : List (Int × List C)) (s : St) : Prop where
  | mk (k : Nat) (h : RngN n0 hd rnd fin k left s)
/-- One entry. -/
def rngRnd (h : RHdr) (kk : IntKind) (row : Bool) (lay : List LK) (body : (Exit → St → Prop) → St → Prop) (R : Exit → St → Prop) (e : Int × List C) (K : St → Prop) (s : St) : Prop :=
  opsWp P E s.H.length (fun s2 => body (fun ex s' => match ex with
    | .normal => K s'
    | .exit i => if Nat.beq i h.nxt then K s' else if Nat.beq i h.out then R .normal s' else R (.exit i) s'
    | ex => R ex s') s2) h.os2 ⟨s.T.set h.pr (.tup [.c (.int kk e.1), mvA E row lay fun j => E.cell [e.2] 0 j]), s.H ++ List.replicate h.n2 .dead⟩
def rngWp (n0 : Nat) (h : RHdr) (body : (Exit → St → Prop) → St → Prop) (R : Exit → St → Prop) (s : St) : Prop :=
  opsWp P E s.H.length (fun s1 => match mapSt s1 h.m with
    | some (lock, kk, row, lay, es) => ∀ v vm : Value, RngW n0 (RngHd h v) (rngRnd P E h kk row lay body R) (rngFin h lock vm (.mp kk row lay es) (R .normal)) es (rngIn h lock v vm s1)
    | none => False) h.os ⟨s.T, s.H ++ List.replicate h.n .dead⟩

def RCode.wp (n0 : Nat) : RCode → (Exit → St → Prop) → St → Prop
  | .skip, R, s => R .normal s
  | .ops n os, R, s => opsWp P E s.H.length (R .normal) os ⟨s.T, s.H ++ List.replicate n .dead⟩
  | .any n os, R, s => anyWp P E s.H.length (R .normal) [] os ⟨s.T, s.H ++ List.replicate n .dead⟩
  | .seq x y, R, s => RCode.wp n0 x (fun e s' => match e with
      | .normal => RCode.wp n0 y R s'
      | e => R e s') s
  | .cond c x y, R, s => match evT s.T c with
    | .c (.bool b) => Br b (RCode.wp n0 x R s) (RCode.wp n0 y R s)
    | _ => False
  | .block id x, R, s => RCode.wp n0 x (fun e s' => match e with
      | .exit i => if Nat.beq i id then R .normal s' else R (.exit i) s'
      | e => R e s') s
  | .loop x, R, s => LoopW n0 (RCode.wp n0 x) R s
  | .exit id, R, s => R (.exit id) s
  | .ret, R, s => R .ret s
  | .rng h x, R, s => rngWp P E n0 h (RCode.wp n0 x) R s

def resC (s : St) (r : RRes) : Rs :=
  match r with
  | .t n => .q [] (s.T.getD n .u)
  | .l n => ldE E s.H (s.T.getD n .u)
  | .la n k => ldaE E s.H k (s.T.getD n .u)

def resAll (s : St) : List RRes → (List A → Prop) → Prop
  | [], K => K []
  | r :: rs, K => match resC E s r with
    | ⟨p, v, _⟩ => allP p (resAll s rs fun vs => K (v :: vs))

/-- A result and the heap may be told as others, too. -/
def GFin (n0 : Nat) (r : A) (H : List O) (r' : A) (H' : List O) : Prop :=
  ∀ w0 G0 G w v, HR w0 G H w → VR G r v → (∀ id, G0.al id = true → id < n0) → Gh.Le w0.keeps G0 G → (∀ id, G.al id = true → G0.al id = true ∨ n0 ≤ id) → n0 ≤ H.length →
    ∃ G', HR w0 G' H' w ∧ VR G' r' v ∧ Gh.Le w0.keeps G0 G' ∧ (∀ id, G'.al id = true → G0.al id = true ∨ n0 ≤ id) ∧ n0 ≤ H'.length

inductive Fin (n0 : Nat) (Q : A → List O → Prop) (r : A) (H : List O) : Prop where
  | mk (r' : A) (H' : List O) (h : GFin n0 r H r' H') (hq : Q r' H')

def finR (n0 : Nat) (rs : List RRes) (Q : A → List O → Prop) (e : Exit) (s : St) : Prop :=
  match e with
  | .normal => resAll E s rs fun vs => Fin n0 Q (resVal vs) s.H
  | .ret => resAll E s rs fun vs => Fin n0 Q (resVal vs) s.H
  | _ => False
end
end Go.Eng

/- An abstract machine over plain data, part D: the quiet operations are sound. -/
namespace Go.Eng
open Go.RowKit

theorem VR_toA1 (G : Gh) (v : Value) : VR G (toA1 v) v := by
  unfold toA1
  split
  · exact .c (.bool _)
  · exact .c (.int _ _)
  · exact .c (.str _)
  · exact .c .nil
  · exact .np
  · exact .nm
  · exact .nf
  · exact .u _

theorem VR_toA (G : Gh) (v : Value) : VR G (toA v) v := by
  unfold toA
  split
  · rename_i vs
    split
    · rename_i hone
      refine .agg _ _ (by simp) (fun i h => Array.all_eq_true_iff_forall_mem.1 hone _ (Array.getElem_mem h)) fun i h1 h2 => ?_
      simp only [List.getElem_map, Array.getElem_toList]
      exact VR_toA1 G _
    · exact .u _
  · rename_i vs
    split
    · rename_i h
      exact .tup _ _ (by simpa using h) fun i h1 => by simp at h1
    · exact .u _
  · exact VR_toA1 G v

/-! ### Inversion -/
section inv
variable {G : Gh} {v : Value}
theorem VR.int {k : IntKind} {i : Int} (h : VR G (.c (.int k i)) v) : v = .int k i := by cases h with | c h => cases h; rfl
theorem VR.bool {b : Bool} (h : VR G (.c (.bool b)) v) : v = .bool b := by cases h with | c h => cases h; rfl
theorem VR.str {s : ByteArray} (h : VR G (.c (.str s)) v) : v = .string s := by cases h with | c h => cases h; rfl
theorem VR.nil (h : VR G (.c .nil) v) : v = .slice none 0 0 := by cases h with | c h => cases h; rfl
theorem VR.el_inv {lay : List LK} {xs : List (List C)} {i : Int} {off : Nat} (h : VR G (.el lay xs i off) v) : ∃ b o, ∃ vs : Nat → Value, v = .pointer (some ⟨b, o + off, none⟩) ∧ 0 ≤ i ∧ i < xs.length ∧
    (∀ j, j < lay.length → G.F b (o + j) = some (vs j)) ∧ ∀ j, j < lay.length → CR G.F (cellC lay xs i.toNat j) (vs j) := by
  cases h with | el _ _ _ _ b o vs h0 hi hF hv => exact ⟨b, o, vs, rfl, h0, hi, hF, hv⟩
theorem VR.ptr_inv {id off : Nat} (h : VR G (.ptr id off) v) : G.al id = true ∧ G.ph id = false ∧ v = .pointer (some ⟨G.blk id, off, none⟩) := by
  cases h with | ptr _ _ hid hp => exact ⟨hid, hp, rfl⟩
theorem VR.eptr_inv {id : Nat} {i : Int} {off : Nat} (h : VR G (.eptr id i off) v) : G.al id = true ∧ G.ph id = false ∧ 0 ≤ i ∧ i < G.cnt id ∧ v = .pointer (some ⟨G.blk id, i.toNat * G.esz id + off, none⟩) := by
  cases h with | eptr _ _ _ hid hp h0 h1 => exact ⟨hid, hp, h0, h1, rfl⟩
theorem VR.np_inv (h : VR G .np v) : v = .pointer none := by cases h; rfl
theorem VR.nm_inv (h : VR G .nm v) : v = .map none := by cases h; rfl
theorem VR.nf_inv (h : VR G .nf v) : v = .nilFunc := by cases h; rfl
theorem VR.map_inv {id : Nat} (h : VR G (.map id) v) : G.al id = true ∧ G.ph id = false ∧ v = .map (some (G.blk id)) := by cases h with | map _ hid hp => exact ⟨hid, hp, rfl⟩
theorem VR.agg_inv {l : List A} (h : VR G (.agg l) v) : ∃ vs : Array Value, v = .agg vs ∧ vs.size = l.length ∧ (∀ i (h : i < vs.size), vs[i].oneCell' = true) ∧ ∀ i (_ : i < l.length) (_ : i < vs.size), VR G l[i] vs[i] := by
  cases h with | agg _ vs hl h1 h => exact ⟨vs, rfl, hl, h1, h⟩
theorem VR.tup_inv {l : List A} (h : VR G (.tup l) v) : ∃ vs : Array Value, v = .tuple vs ∧ vs.size = l.length ∧ ∀ i (_ : i < l.length) (_ : i < vs.size), VR G l[i] vs[i] := by
  cases h with | tup _ vs hl h => exact ⟨vs, rfl, hl, h⟩
theorem VR.fn_inv {f : FuncId} {l : List A} (h : VR G (.fn f l) v) : ∃ vs : Array Value, v = .func (.func f) #[] vs ∧ vs.size = l.length ∧ ∀ i (_ : i < l.length) (_ : i < vs.size), VR G l[i] vs[i] := by
  cases h with | fn _ _ vs hl h => exact ⟨vs, rfl, hl, h⟩
theorem VR.own_inv' {id : Nat} {off len : Int} (h : VR G (.own id off len) v) : (∃ cap ad, v = .slice (some ad) len.toNat cap ∧ G.al id = true ∧ G.ph id = false ∧ 0 ≤ off ∧ 0 ≤ len ∧ off.toNat + cap = G.room id ∧ off + len ≤ G.cnt id ∧ len.toNat ≤ cap ∧
    (cap ≠ 0 → ad = ⟨G.blk id, off.toNat * G.esz id, none⟩)) ∨ (G.al id = true ∧ G.ph id = true ∧ G.cnt id = 0 ∧ 0 ≤ off ∧ len = 0 ∧ v = .slice none 0 0) := by
  cases h with
  | own _ _ _ cap ad hid hp h0 h1 hcap hcnt hlen had => exact .inl ⟨cap, ad, rfl, hid, hp, h0, h1, hcap, hcnt, hlen, had⟩
  | ownn _ _ _ hid hp hc h0 h1 => exact .inr ⟨hid, hp, hc, h0, h1, rfl⟩
theorem VR.gr_inv {id : Nat} (h : VR G (.gr id) v) : G.al id = true ∧ ((G.ph id = true ∧ G.cnt id = 0 ∧ v = .slice none 0 0) ∨
    (G.ph id = false ∧ ∃ ad, v = .slice (some ad) (G.cnt id) (G.room id) ∧ G.cnt id ≤ G.room id ∧ (G.room id ≠ 0 → ad = ⟨G.blk id, 0, none⟩))) := by
  cases h with
  | gr _ cap ad hid hp hcap hlen had => subst hcap; exact ⟨hid, .inr ⟨hp, ad, rfl, hlen, had⟩⟩
  | grn _ hid hp hc => exact ⟨hid, .inl ⟨hp, hc, rfl⟩⟩
theorem VR.sl_inv {lay : List LK} {xs : List (List C)} (h : VR G (.c (.sl lay xs)) v) : ∃ a cap b o, ∃ vs : Nat → Nat → Value, v = .slice a xs.length cap ∧ xs.length ≤ cap ∧ (xs ≠ [] → a = some ⟨b, o, none⟩) ∧
    (∀ i j, i < xs.length → j < lay.length → G.F b (o + (i * lay.length + j)) = some (vs i j)) ∧
    ∀ i j, i < xs.length → j < lay.length → CR G.F (cellC lay xs i j) (vs i j) := by
  cases h with | c h => cases h with | sl _ _ a cap b o vs hcap ha hF hv => exact ⟨a, cap, b, o, vs, rfl, hcap, ha, hF, hv⟩
end inv

/-- All of them hold. -/
def AllP (l : List Cnd) : Prop := ∀ p ∈ l, p.holds
@[simp] theorem AllP_nil : AllP [] ↔ True := by simp [AllP]
@[simp] theorem AllP_cons (p : Cnd) (l : List Cnd) : AllP (p :: l) ↔ p.holds ∧ AllP l := List.forall_mem_cons
@[simp] theorem AllP_append (l l' : List Cnd) : AllP (l ++ l') ↔ AllP l ∧ AllP l' := List.forall_mem_append
attribute [simp] Cnd.holds
theorem no_stuck (h : AllP stuck.p) : False := by simp [stuck] at h
theorem chk_p {b : Bool} {r : Rs} (h : AllP (chk b r).p) : b = true ∧ AllP r.p := by
  cases b with
  | true => exact ⟨rfl, h⟩
  | false => exact (no_stuck h).elim
theorem chk_true {b : Bool} {r : Rs} (h : b = true) : chk b r = r := by subst h; rfl

/-- What a quiet operation yields in w. -/
def Yl (P : Program) (G : Gh) (ρ : Operand → Value) (o : Oper) (w : World) (r : Rs) : Prop :=
  r.ws = [] ∧ ∃ val, (execOp ρ o).run P w = .ok (.value val) w ∧ VR G r.v val

section ops
variable {P : Program} {w0 : Base} {w : World} {G : Gh} {H : List O} {ρ : Operand → Value} {rs : FuncId → List A → Nat → C} {pk : FuncId → List (Bool × List LK) → List A → Prop} {o : Oper}

theorem Yl.no {ρ : Operand → Value} (h : AllP stuck.p) : Yl P G ρ o w stuck := (no_stuck h).elim

theorem run_equalIn_bool' (w : World) (n : Nat) (t : TypeId) (a b : Bool) (h : P.underlying t = some .bool) : (Op.equalIn (n + 1) t (.bool a) (.bool b)).run P w = .ok (a == b) w := by
  simp [Op.equalIn, run_underlying h]

theorem bin_sound {op : BinOp} {xT yT : TypeId} {a b : A} {ox oy : Operand} (ho : o.op = .binOp op xT ox oy yT)
    (hx : VR G a (ρ ox)) (hy : VR G b (ρ oy)) (h : AllP (binE (baseE rs pk) op a b).p) : Yl P G ρ o w (binE (baseE rs pk) op a b) := by
  revert h
  unfold binE
  split
  · rename_i k i k' j
    have e1 := hx.int
    have e2 := hy.int
    split <;> intro h <;> first
      | exact Yl.no h
      | (rename_i hk
         have hk := eq_of_beq hk
         subst hk
         refine ⟨rfl, ?_⟩
         unfold execOp
         simp only [ho, e1, e2]
         simp only [Rs.q, baseE, AllP_nil, AllP_cons, Cnd.holds] at h
         first
           | refine ⟨_, ?_, VR.c (CR.int k _)⟩
           | refine ⟨_, ?_, VR.c (CR.bool _)⟩
         first
           | (simp [eqGuard, binOp, Op.intArith, Op.intCmp, baseE]; done)
           | (simp [eqGuard, binOp, Op.intArith, Op.intCmp, baseE, bne]; done)
           | (simp [eqGuard, binOp, Op.intBits, baseE]; done)
           | (have h0 : ¬ j = 0 := by simpa using h
              simp [eqGuard, binOp, Op.intDiv, baseE, h0]; done))
      | (refine ⟨rfl, ?_⟩
         unfold execOp
         simp only [ho, e1, e2]
         simp [Rs.q, baseE] at h
         refine ⟨_, ?_, .c (.int _ _)⟩
         have hk' : ¬ j < 0 := by omega
         simp [eqGuard, binOp, Op.shift, hk', baseE]
         done)
  · rename_i s t
    have e1 := hx.str
    have e2 := hy.str
    split <;> intro h <;> first
      | exact Yl.no h
      | (refine ⟨rfl, ?_⟩
         unfold execOp
         simp only [ho, e1, e2]
         refine ⟨_, ?_, VR.c (CR.bool _)⟩
         simp [eqGuard, binOp, Op.stringOp, baseE]
         done)
      | (refine ⟨rfl, ?_⟩
         unfold execOp
         simp only [ho, e1, e2]
         refine ⟨_, ?_, VR.c (CR.str _)⟩
         simp [Rs.q, baseE] at h
         have hk' : ¬ (((s.size + t.size : Nat) : Int) > IntKind.i64.max) := by
           have : IntKind.i64.max = 9223372036854775807 := by decide
           omega
         simp at hk'
         simp [eqGuard, binOp, Op.stringOp, baseE]
         omega)
  · exact Yl.no

theorem mv_sound {x : Operand} {a : A} (ho : o.op = .move x ∨ o.op = .assign x) (hx : VR G a (ρ x)) : Yl P G ρ o w (.q [] a) :=
  ⟨rfl, _, by rcases ho with ho | ho <;> simp [execOp, ho], hx⟩

theorem run_loadVar_one {t : TypeId} {ad : Addr} {v : Value} {d : TypeDesc} (hu : P.underlying t = some d) (hd : d.isRow = false) (hc : w.cell? ad = some v) :
    (loadVar t ad).run P w = .ok v w := by
  have hagg : (isAgg t).run P w = .ok false w := by
    unfold isAgg
    rw [Sem.run_bind, run_underlying hu w]
    cases d <;> simp_all
  simp [loadVar, Sem.run_bind, hagg, hc]

theorem cell_box {b : Nat} {vs : Array Value} {T : TypeId} {fr : Nat × Nat} (h : w.heap[b]? = some (.cells vs T fr)) (j : Nat) : w.cell? ⟨b, j, none⟩ = vs[j]? :=
  cell_of_row w b j vs T fr h

theorem add_addr (b o k : Nat) : (⟨b, o, none⟩ : Addr).add k = ⟨b, o + k, none⟩ := Addr.add_mid b o k

theorem fixE_base (k : LK) (c : C) : fixE (baseE rs pk) k c = fixC k c := by cases k <;> rfl
theorem rd_base (lay : List LK) (xs : List (List C)) (i : Int) (off : Nat) : rd (baseE rs pk) lay xs i off = cellC lay xs i.toNat off := by
  unfold rd; rw [fixE_base]; rfl
theorem rds_base (lay : List LK) (xs : List (List C)) (i : Int) (n : Nat) : ∀ off, rds (baseE rs pk) lay xs i off n = (List.range' off n).map fun j => .c (cellC lay xs i.toNat j) := by
  induction n with
  | zero => intro off; rfl
  | succ n ih => intro off; simp [rds, ih, rd_base, List.range'_succ]

/-- A cell that an address names holds this. -/
def Cells (G : Gh) (w : World) (b o n : Nat) (f : Nat → A) : Prop := ∀ j, j < n → ∃ v, w.cell? ⟨b, o + j, none⟩ = some v ∧ VR G (f j) v ∧ v.oneCell' = true

theorem el_cells {lay : List LK} {xs : List (List C)} {i : Int} {off : Nat} {v : Value} (hH : HR w0 G H w) (h : VR G (.el lay xs i off) v) :
    ∃ b o, v = .pointer (some ⟨b, o + off, none⟩) ∧ Cells G w b o lay.length fun j => .c (cellC lay xs i.toNat j) := by
  obtain ⟨b, o, vs, e, _, _, hF, hv⟩ := h.el_inv
  exact ⟨b, o, e, fun j hj => ⟨vs j, (hH.fz _ _ _ (hF j hj)).cell (hv j hj).one, .c (hv j hj), (hv j hj).one⟩⟩

theorem row_lt {i n k j : Nat} (hi : i < n) (hj : j < k) : i * k + j < n * k := by
  have : (i + 1) * k ≤ n * k := Nat.mul_le_mul_right _ hi
  rw [Nat.add_mul, Nat.one_mul] at this; omega

theorem arr_cells {id : Nat} {lay : List LK} {xs : List (List C)} (hH : HR w0 G H w) (ha : arrOf H id = some (lay, xs)) (hp : G.ph id = false) :
    G.cnt id = xs.length ∧ G.esz id = lay.length ∧ ∀ i j, i < xs.length → j < lay.length → ∃ v, w.cell? ⟨G.blk id, i * lay.length + j, none⟩ = some v ∧ CR G.F (cellC lay xs i j) v := by
  unfold arrOf at ha
  split at ha
  · rename_i T lay' xs' hid
    cases ha
    obtain ⟨_, hc, hz, hR, _⟩ := hH.obj id _ hid
    obtain ⟨vs, hb, hs, hroom, hv⟩ := hR hp
    refine ⟨hc, hz, fun i j hi hj => ?_⟩
    obtain ⟨v, e, hc⟩ := hv i j hi hj
    exact ⟨v, by rw [cell_box hb]; exact e, hc⟩
  · rename_i lay' xs' hid
    cases ha
    obtain ⟨_, hc, hz, hR, _⟩ := hH.obj id _ hid
    refine ⟨hc, hz, fun i j hi hj => ?_⟩
    obtain ⟨v, e, hc⟩ := hR hp i j hi hj
    exact ⟨v, (hH.fz _ _ _ e).cell hc.one, hc⟩
  · cases ha

theorem arr_len {id : Nat} {lay : List LK} {xs : List (List C)} (hH : HR w0 G H w) (ha : arrOf H id = some (lay, xs)) : G.cnt id = xs.length ∧ G.esz id = lay.length := by
  unfold arrOf at ha
  split at ha
  · rename_i hid; cases ha; obtain ⟨_, hc, hz, _⟩ := hH.obj id _ hid; exact ⟨hc, hz⟩
  · rename_i hid; cases ha; obtain ⟨_, hc, hz, _⟩ := hH.obj id _ hid; exact ⟨hc, hz⟩
  · cases ha

theorem eptr_cells {id : Nat} {lay : List LK} {xs : List (List C)} {i : Int} {off : Nat} {v : Value} (hH : HR w0 G H w) (ha : arrOf H id = some (lay, xs)) (h : VR G (.eptr id i off) v) :
    ∃ b o, v = .pointer (some ⟨b, o + off, none⟩) ∧ Cells G w b o lay.length fun j => .c (cellC lay xs i.toNat j) := by
  obtain ⟨_, hp, h0, h1, e⟩ := h.eptr_inv
  obtain ⟨hc, hz, hv⟩ := arr_cells hH ha hp
  refine ⟨G.blk id, i.toNat * lay.length, by rw [e, hz], fun j hj => ?_⟩
  obtain ⟨v, e, hcr⟩ := hv i.toNat j (by omega) hj
  exact ⟨v, e, .c hcr, hcr.one⟩

theorem box_cells {id off : Nat} {T : TypeId} {cs : List A} {v : Value} (hH : HR w0 G H w) (hid : H[id]? = some (.box T cs)) (h : VR G (.ptr id off) v) :
    ∃ b, v = .pointer (some ⟨b, 0 + off, none⟩) ∧ Cells G w b 0 cs.length fun j => cs.getD j .u := by
  obtain ⟨_, _, e⟩ := h.ptr_inv
  obtain ⟨_, _, _, _, vs, hb, hs, hv⟩ := hH.obj id _ hid
  refine ⟨G.blk id, by rw [e, Nat.zero_add], fun j hj => ⟨vs[j]'(by omega), by rw [cell_box hb, Nat.zero_add]; simp [show j < vs.size by omega], ?_, (hv j hj (by omega)).2⟩⟩
  show VR G (cs.getD j .u) _
  rw [List.getD_eq_getElem?_getD, List.getElem?_eq_getElem hj]
  exact (hv j hj (by omega)).1

theorem frz_cells {id off : Nat} {lay : List LK} {x : List C} {xs : List (List C)} {v : Value} (hH : HR w0 G H w) (hid : H[id]? = some (.frz lay (x :: xs))) (h : VR G (.ptr id off) v) :
    ∃ b, v = .pointer (some ⟨b, 0 + off, none⟩) ∧ Cells G w b 0 lay.length fun j => .c (cellC lay (x :: xs) 0 j) := by
  obtain ⟨_, hp, e⟩ := h.ptr_inv
  obtain ⟨_, _, hv⟩ := arr_cells (xs := x :: xs) (lay := lay) hH (by simp [arrOf, hid]) hp
  refine ⟨G.blk id, by rw [e, Nat.zero_add], fun j hj => ?_⟩
  obtain ⟨v, e, hcr⟩ := hv 0 j (by simp) hj
  exact ⟨v, by simpa using e, .c hcr, hcr.one⟩

theorem ld_cells {x : Operand} {t : TypeId} {d : TypeDesc} (ho : o.op = .load t x) (hu : P.underlying t = some d) (hd : d.isRow = false) {b q off n : Nat} {f : Nat → A}
    (e : ρ x = .pointer (some ⟨b, q + off, none⟩)) (hc : Cells G w b q n f) (hoff : off < n) : Yl P G ρ o w (.q [] (f off)) := by
  obtain ⟨v, hv, hr, _⟩ := hc off hoff
  refine ⟨rfl, v, ?_, hr⟩
  simp [execOp, ho, e, Instr.loadAt, Instr.sureAddr, run_loadVar_one hu hd hv]

theorem ld_sound {x : Operand} {t : TypeId} {d : TypeDesc} {a : A} (ho : o.op = .load t x) (hu : P.underlying t = some d) (hd : d.isRow = false) (hH : HR w0 G H w)
    (hx : VR G a (ρ x)) (h : AllP (ldE (baseE rs pk) H a).p) : Yl P G ρ o w (ldE (baseE rs pk) H a) := by
  revert h
  unfold ldE
  split
  · intro h
    obtain ⟨hb, _⟩ := chk_p h
    rw [chk_true hb, rd_base]
    obtain ⟨b, q, e, hc⟩ := el_cells hH hx
    exact ld_cells ho hu hd e hc (by simpa [Nat.blt_eq] using hb)
  · split
    · rename_i hid
      obtain ⟨b, e, hc⟩ := box_cells hH hid hx
      split
      · rename_i v hv
        intro _
        have := ld_cells ho hu hd e hc (List.getElem?_eq_some_iff.1 hv).1
        rw [List.getD_eq_getElem?_getD, hv] at this
        exact this
      · exact Yl.no
    · rename_i hid
      intro h
      obtain ⟨hb, _⟩ := chk_p h
      rw [chk_true hb, rd_base]
      obtain ⟨b, e, hc⟩ := frz_cells hH hid hx
      exact ld_cells ho hu hd e hc (by simpa [Nat.blt_eq] using hb)
    · exact Yl.no
  · split
    · rename_i ha
      intro h
      obtain ⟨hb, _⟩ := chk_p h
      rw [chk_true hb, rd_base]
      obtain ⟨b, q, e, hc⟩ := eptr_cells hH ha hx
      exact ld_cells ho hu hd e hc (by simpa [Nat.blt_eq] using hb)
    · exact Yl.no
  · exact Yl.no

theorem run_loadVar_agg {t : TypeId} {b o n : Nat} {cs : List Value} {d : TypeDesc} (hu : P.underlying t = some d) (hd : d.isRow = true) (hi : (P.info? t).map (·.size) = some n)
    (hn : cs.length = n) (hc : ∀ j (h : j < cs.length), w.cell? ⟨b, o + j, none⟩ = some cs[j]) : (loadVar t ⟨b, o, none⟩).run P w = .ok (.agg cs.toArray) w :=
  run_loadVar_mid w b o t cs d (fun j v hv => by obtain ⟨h, rfl⟩ := List.getElem?_eq_some_iff.1 hv; exact hc j h) hu hd (by rw [hi, hn])

theorem lda_cells {x : Operand} {t : TypeId} {d : TypeDesc} {k : Nat} (ho : o.op = .load t x) (hu : P.underlying t = some d) (hd : d.isRow = true) (hi : (P.info? t).map (·.size) = some k) {b q off n : Nat} {f : Nat → A}
    (e : ρ x = .pointer (some ⟨b, q + off, none⟩)) (hc : Cells G w b q n f) (hoff : off + k ≤ n) {l : List A} (hl : l = (List.range' off k).map f) : Yl P G ρ o w (.q [] (.agg l)) := by
  subst hl
  have hch : ∃ g : Nat → Value, ∀ j, j < n → w.cell? ⟨b, q + j, none⟩ = some (g j) ∧ VR G (f j) (g j) ∧ (g j).oneCell' = true := by
    refine ⟨fun j => if h : j < n then (hc j h).choose else default, fun j hj => ?_⟩
    simp only [dif_pos hj]
    exact (hc j hj).choose_spec
  obtain ⟨g, hg⟩ := hch
  have hrun := run_loadVar_agg (w := w) (b := b) (o := q + off) (cs := (List.range' off k).map g) hu hd hi (by simp) (fun j hj => by
    simp at hj ⊢; rw [Nat.add_assoc]; exact (hg (off + j) (by omega)).1)
  refine ⟨rfl, .agg ((List.range' off k).map g).toArray, by simp only [execOp, ho, e, Instr.loadAt, Instr.sureAddr, Sem.run_bind, Sem.run_pure, Result.andThen_ok, hrun], ?_⟩
  refine .agg _ _ (by simp) (fun i h2 => by simp at h2 ⊢; exact (hg _ (by omega)).2.2) fun i h1 h2 => ?_
  simp at h1 h2 ⊢
  exact (hg _ (by omega)).2.1

theorem lda_sound {x : Operand} {t : TypeId} {d : TypeDesc} {a : A} {n : Nat} (ho : o.op = .load t x) (hu : P.underlying t = some d) (hd : d.isRow = true)
    (hi : (P.info? t).map (·.size) = some n) (hH : HR w0 G H w)
    (hx : VR G a (ρ x)) (h : AllP (ldaE (baseE rs pk) H n a).p) : Yl P G ρ o w (ldaE (baseE rs pk) H n a) := by
  revert h
  unfold ldaE
  split
  · intro h
    obtain ⟨hb, _⟩ := chk_p h
    rw [chk_true hb]
    obtain ⟨b, q, e, hc⟩ := el_cells hH hx
    exact lda_cells ho hu hd hi e hc (by simpa [Nat.ble_eq] using hb) (rds_base _ _ _ _ _)
  · split
    · rename_i id off _ T cs hid
      intro h
      obtain ⟨hb, _⟩ := chk_p h
      rw [chk_true hb]
      obtain ⟨b, e, hc⟩ := box_cells hH hid hx
      have hb' : off + n ≤ cs.length := by simpa [Nat.ble_eq] using hb
      refine lda_cells ho hu hd hi e hc hb' ?_
      apply List.ext_getElem (by simp; omega)
      intro i h1 h2
      simp at h1 h2 ⊢
      rw [List.getElem?_eq_getElem (by omega)]; rfl
    · rename_i hid
      intro h
      obtain ⟨hb, _⟩ := chk_p h
      rw [chk_true hb]
      obtain ⟨b, e, hc⟩ := frz_cells hH hid hx
      exact lda_cells ho hu hd hi e hc (by simpa [Nat.ble_eq] using hb) (rds_base _ _ _ _ _)
    · exact Yl.no
  · split
    · rename_i ha
      intro h
      obtain ⟨hb, _⟩ := chk_p h
      rw [chk_true hb]
      obtain ⟨b, q, e, hc⟩ := eptr_cells hH ha hx
      exact lda_cells ho hu hd hi e hc (by simpa [Nat.ble_eq] using hb) (rds_base _ _ _ _ _)
    · exact Yl.no
  · exact Yl.no

end ops
end Go.Eng

/- An abstract machine over plain data, part E: more quiet operations are sound. -/
namespace Go.Eng
open Go.RowKit
section ops
variable {P : Program} {w0 : Base} {w : World} {G : Gh} {H : List O} {ρ : Operand → Value} {rs : FuncId → List A → Nat → C} {pk : FuncId → List (Bool × List LK) → List A → Prop} {o : Oper}

theorem nc_sound {x : Operand} {a : A} (ho : o.op = .nilCheck x) (hx : VR G a (ρ x)) (h : AllP (match a with
    | .el lay xs i off => Rs.q [] (.el lay xs i off)
    | .ptr id off => .q [] (.ptr id off)
    | .eptr id i off => .q [] (.eptr id i off)
    | .fn f cap => .q [] (.fn f cap)
    | _ => stuck).p) : Yl P G ρ o w (match a with
    | .el lay xs i off => .q [] (.el lay xs i off)
    | .ptr id off => .q [] (.ptr id off)
    | .eptr id i off => .q [] (.eptr id i off)
    | .fn f cap => .q [] (.fn f cap)
    | _ => stuck) := by
  revert h
  split
  · intro _
    obtain ⟨b, off, _, e, _⟩ := hx.el_inv
    exact ⟨rfl, ρ x, by simp [execOp, ho, e], hx⟩
  · intro _
    obtain ⟨_, _, e⟩ := hx.ptr_inv
    exact ⟨rfl, ρ x, by simp [execOp, ho, e], hx⟩
  · intro _
    obtain ⟨_, _, _, _, e⟩ := hx.eptr_inv
    exact ⟨rfl, ρ x, by simp [execOp, ho, e], hx⟩
  · intro _
    obtain ⟨vs, e, _, _⟩ := hx.fn_inv
    exact ⟨rfl, ρ x, by simp [execOp, ho, e], hx⟩
  · exact Yl.no

theorem fa_sound {x : Operand} {s : TypeId} {fs : Array Field} {i : Nat} {f : Field} {fi : TypeInfo} {a : A} (ho : o.op = .fieldAddr s x i) (hu : P.underlying s = some (.struct fs))
    (hf : fs[i]? = some f) (hinf : P.info? f.type = some fi) (h0 : fi.size ≠ 0) (hx : VR G a (ρ x)) (h : AllP (faE f.offset a).p) : Yl P G ρ o w (faE f.offset a) := by
  have hrun : ∀ b off, (Instr.fieldAt s (.pointer (some ⟨b, off, none⟩)) i).run P w = .ok (.pointer (some ⟨b, off + f.offset, none⟩)) w := by
    intro b off
    simp [Instr.fieldAt, run_underlying hu, hf, Instr.sureAddr, fieldPlace, sizeOf, typeInfo, hinf, h0, add_addr]
  revert h
  unfold faE
  split
  · intro _
    obtain ⟨b, off, vs, e, h0, h1, hF, hr⟩ := hx.el_inv
    refine ⟨rfl, _, by simp only [execOp, ho, e, Sem.run_bind, hrun, Result.andThen_ok, Sem.run_pure]; rfl, ?_⟩
    rw [Nat.add_assoc]
    exact .el _ _ _ _ b off vs h0 h1 hF hr
  · intro _
    obtain ⟨hid, hp, e⟩ := hx.ptr_inv
    exact ⟨rfl, _, by simp only [execOp, ho, e, Sem.run_bind, hrun, Result.andThen_ok, Sem.run_pure], .ptr _ _ hid hp⟩
  · intro _
    obtain ⟨hid, hp, h0, h1, e⟩ := hx.eptr_inv
    refine ⟨rfl, _, by simp only [execOp, ho, e, Sem.run_bind, hrun, Result.andThen_ok, Sem.run_pure]; rfl, ?_⟩
    rw [Nat.add_assoc]; exact .eptr _ _ _ hid hp h0 h1
  · exact Yl.no

theorem fd1_sound {x : Operand} {s : TypeId} {fs : Array Field} {i : Nat} {f : Field} {d : TypeDesc} {a : A} (ho : o.op = .field s x i) (hu : P.underlying s = some (.struct fs))
    (hf : fs[i]? = some f) (hd : P.underlying f.type = some d) (hr : d.isRow = false)
    (hx : VR G a (ρ x)) (h : AllP (match a with | .agg l => (match l[f.offset]? with | some a => Rs.q [] a | none => stuck) | _ => stuck).p) :
    Yl P G ρ o w (match a with | .agg l => (match l[f.offset]? with | some a => Rs.q [] a | none => stuck) | _ => stuck) := by
  revert h
  split
  · split
    · rename_i l _ v hv
      intro _
      obtain ⟨hlt, rfl⟩ := List.getElem?_eq_some_iff.1 hv
      obtain ⟨vs, e, hl, hone, hvv⟩ := hx.agg_inv
      have hlt2 : f.offset < vs.size := by omega
      have hagg : (isAgg f.type).run P w = .ok false w := by
        unfold isAgg
        rw [Sem.run_bind, run_underlying hd w]
        cases d <;> simp_all
      refine ⟨rfl, vs[f.offset], ?_, hvv _ hlt hlt2⟩
      simp [execOp, ho, e, Instr.field, run_underlying hu, hf, asAgg, part, hagg, hlt2]
    · exact Yl.no
  · exact Yl.no

theorem fdn_sound {x : Operand} {s : TypeId} {fs : Array Field} {i : Nat} {f : Field} {fi : TypeInfo} {d : TypeDesc} {a : A} (ho : o.op = .field s x i) (hu : P.underlying s = some (.struct fs))
    (hf : fs[i]? = some f) (hd : P.underlying f.type = some d) (hr : d.isRow = true) (hinf : P.info? f.type = some fi)
    (hx : VR G a (ρ x)) (h : AllP (match a with | .agg l => chk (Nat.ble (f.offset + fi.size) l.length) (.q [] (.agg ((l.drop f.offset).take fi.size))) | _ => stuck).p) :
    Yl P G ρ o w (match a with | .agg l => chk (Nat.ble (f.offset + fi.size) l.length) (.q [] (.agg ((l.drop f.offset).take fi.size))) | _ => stuck) := by
  revert h
  split
  · rename_i l
    intro h
    obtain ⟨hb, _⟩ := chk_p h
    rw [chk_true hb]
    have hlt : f.offset + fi.size ≤ l.length := by simpa [Nat.ble_eq] using hb
    obtain ⟨vs, e, hl, hone, hv⟩ := hx.agg_inv
    have hagg : (isAgg f.type).run P w = .ok true w := by
      unfold isAgg
      rw [Sem.run_bind, run_underlying hd w]
      cases d <;> simp_all
    refine ⟨rfl, .agg (vs.extract f.offset (f.offset + fi.size)), ?_, ?_⟩
    · simp [execOp, ho, e, Instr.field, run_underlying hu, hf, asAgg, part, hagg, sizeOf, typeInfo, hinf]
    · refine .agg _ _ (by simp; omega) (fun k h2 => by simp at h2 ⊢; exact hone _ (by omega)) fun k h1 h2 => ?_
      simp at h1 h2 ⊢
      exact hv _ (by omega) (by omega)
  · exact Yl.no

theorem ia_sound {x i : Operand} {t e : TypeId} {ei : TypeInfo} {a b : A} (ho : o.op = .indexAddr t x i) (hu : P.underlying t = some (.slice e)) (hinf : P.info? e = some ei)
    (hH : HR w0 G H w) (hx : VR G a (ρ x)) (hi : VR G b (ρ i)) (h : AllP (iaE (baseE rs pk) H ei.size a b).p) : Yl P G ρ o w (iaE (baseE rs pk) H ei.size a b) := by
  revert h
  unfold iaE
  split
  · rename_i lay xs k j
    intro h
    obtain ⟨hz, h⟩ := chk_p h
    rw [chk_true hz]
    have hz : lay.length = ei.size := by simpa [Nat.beq_eq] using hz
    simp [Rs.q, baseE] at h
    obtain ⟨h0, h1⟩ := h
    obtain ⟨A, cap, b, off, vs, e1, hcap, ha, hF, hr⟩ := hx.sl_inv
    have e2 := hi.int
    have hlt : j.toNat < xs.length := by omega
    have hne : xs ≠ [] := by intro e; simp [e] at hlt
    have hA := ha hne
    subst hA
    refine ⟨rfl, .pointer (some ⟨b, off + j.toNat * ei.size + 0, none⟩), ?_, ?_⟩
    · simp [execOp, ho, e1, e2, Instr.indexAt, asIntOf, run_underlying hu, h0, h1, sizeOf, typeInfo, hinf, add_addr]
    · refine .el _ _ _ 0 b _ (fun q => vs j.toNat q) h0 h1 (fun q hq => ?_) (fun q hq => hr _ _ hlt hq)
      rw [← hz, Nat.add_assoc]; exact hF _ _ hlt hq
  · rename_i id k j
    split
    · rename_i lay xs ha
      intro h
      obtain ⟨hz, h⟩ := chk_p h
      rw [chk_true hz]
      have hz : lay.length = ei.size := by simpa [Nat.beq_eq] using hz
      simp [Rs.q, baseE] at h
      obtain ⟨h0, h1⟩ := h
      obtain ⟨hc, hsz⟩ := arr_len hH ha
      have e2 := hi.int
      obtain ⟨hid, ⟨hp, hcn, _⟩ | ⟨hp, ad, e1, hlen, had⟩⟩ := hx.gr_inv
      · omega
      · have hA := had (by omega)
        subst hA
        refine ⟨rfl, .pointer (some ⟨G.blk id, j.toNat * G.esz id + 0, none⟩), ?_, .eptr _ _ _ hid hp h0 (by omega)⟩
        have h1' : j < G.cnt id := by omega
        simp [execOp, ho, e1, e2, Instr.indexAt, asIntOf, run_underlying hu, h0, h1', sizeOf, typeInfo, hinf, add_addr, hsz, hz]
    · exact Yl.no
  · rename_i id off len k j
    split
    · rename_i lay xs ha
      intro h
      obtain ⟨hz, h⟩ := chk_p h
      rw [chk_true hz]
      have hz : lay.length = ei.size := by simpa [Nat.beq_eq] using hz
      simp [Rs.q, baseE] at h
      obtain ⟨h0, h1⟩ := h
      obtain ⟨hc, hsz⟩ := arr_len hH ha
      have e2 := hi.int
      obtain ⟨cap, ad, e1, hid, hp, g0, g1, hcap, hcnt, hlen, had⟩ | ⟨_, _, _, _, g1, _⟩ := hx.own_inv'
      rotate_left
      · omega
      have hA := had (by omega)
      subst hA
      refine ⟨rfl, .pointer (some ⟨G.blk id, (off + j).toNat * G.esz id + 0, none⟩), ?_, .eptr _ _ _ hid hp (show (0 : Int) ≤ off + j by omega) (show off + j < _ by omega)⟩
      have e3 : (off + j).toNat = off.toNat + j.toNat := by omega
      have h1' : j < len.toNat := by omega
      simp [execOp, ho, e1, e2, Instr.indexAt, asIntOf, run_underlying hu, h0, sizeOf, typeInfo, hinf, add_addr, hsz, hz, e3, Nat.add_mul]
      omega
    · exact Yl.no
  · exact Yl.no

theorem elRow_len {E : Env} {lay : List LK} {xs : List (List C)} {i : Int} : ∀ (n off : Nat), (elRow E lay xs i off n).length = n
  | 0, _ => rfl
  | n + 1, off => by simp [elRow, elRow_len n]
theorem elRow_get {E : Env} {lay : List LK} {xs : List (List C)} {i : Int} : ∀ (n off q : Nat), q < n → (elRow E lay xs i off n).getD q .nil = rd E lay xs i (off + q)
  | 0, _, _, h => by omega
  | n + 1, off, 0, _ => rfl
  | n + 1, off, q + 1, h => by
    have := elRow_get (E := E) (lay := lay) (xs := xs) (i := i) n (off + 1) q (by omega)
    rw [show off + (q + 1) = off + 1 + q by omega, ← this]; rfl
theorem elRows_len {E : Env} {lay : List LK} {xs : List (List C)} {i : Int} {sz : Nat} : ∀ (n off : Nat), (elRows E lay xs i off sz n).length = n
  | 0, _ => rfl
  | n + 1, off => by simp [elRows, elRows_len n]
theorem elRows_get {E : Env} {lay : List LK} {xs : List (List C)} {i : Int} {sz : Nat} : ∀ (n off q : Nat), q < n → (elRows E lay xs i off sz n).getD q [] = elRow E lay xs i (off + q * sz) sz
  | 0, _, _, h => by omega
  | n + 1, off, 0, _ => by simp [elRows]
  | n + 1, off, q + 1, h => by
    have := elRows_get (E := E) (lay := lay) (xs := xs) (i := i) (sz := sz) n (off + sz) q (by omega)
    rw [show off + (q + 1) * sz = off + sz + q * sz by rw [Nat.add_mul]; omega, ← this]; rfl
theorem samek_get {lay : List LK} {off sz : Nat} : ∀ {n q : Nat}, samek lay off sz n = true → q < n → (lay.drop (off + q * sz)).take sz = (lay.drop off).take sz
  | 0, _, _, h => by omega
  | n + 1, q, hs, h => by
    simp only [samek, Bool.and_eq_true] at hs
    by_cases e : q = n
    · subst e; exact LK.beqs_eq _ _ hs.2
    · exact samek_get hs.1 (by omega)
theorem fixC_idem (k : LK) (c : C) : fixC k (fixC k c) = fixC k c := by cases k <;> rfl
theorem iaa_sound {x i : Operand} {t e : TypeId} {len : Nat} {ei : TypeInfo} {a b : A} (ho : o.op = .indexAddr t x i) (hu : P.underlying t = some (.array len e)) (hinf : P.info? e = some ei)
    (hx : VR G a (ρ x)) (hi : VR G b (ρ i)) (h : AllP (iaaE (baseE rs pk) len ei.size a b).p) : Yl P G ρ o w (iaaE (baseE rs pk) len ei.size a b) := by
  revert h
  unfold iaaE
  split
  · rename_i id off k j
    intro h
    simp [Rs.q, baseE] at h
    obtain ⟨h0, h1⟩ := h
    obtain ⟨hid, hp, e1⟩ := hx.ptr_inv
    have e2 := hi.int
    refine ⟨rfl, .pointer (some ⟨G.blk id, off + j.toNat * ei.size, none⟩), ?_, .ptr _ _ hid hp⟩
    simp [execOp, ho, e1, e2, Instr.indexAt, Instr.sureAddr, asIntOf, run_underlying hu, h0, h1, sizeOf, typeInfo, hinf, add_addr]
  · rename_i lay xs i0 off k j
    intro h
    obtain ⟨hz, h⟩ := chk_p h
    rw [chk_true hz]
    simp only [Bool.and_eq_true, Nat.ble_eq] at hz
    simp [Rs.q, baseE] at h
    obtain ⟨h0, h1⟩ := h
    obtain ⟨b, q, vs, e1, g0, g1, hF, hv⟩ := hx.el_inv
    have e2 := hi.int
    obtain ⟨n, rfl⟩ := Int.eq_ofNat_of_zero_le h0
    have hn : n < len := by omega
    have hle : n * ei.size + ei.size ≤ len * ei.size := by
      have : (n + 1) * ei.size ≤ len * ei.size := Nat.mul_le_mul_right _ hn
      rwa [Nat.add_mul, Nat.one_mul] at this
    have hl1 : ((lay.drop off).take ei.size).length = ei.size := by simp; omega
    refine ⟨rfl, .pointer (some ⟨b, q + off + n * ei.size, none⟩), ?_, ?_⟩
    · simp [execOp, ho, e1, e2, Instr.indexAt, Instr.sureAddr, asIntOf, run_underlying hu, hn, sizeOf, typeInfo, hinf, add_addr]
    · refine .el _ _ _ 0 b (q + off + n * ei.size) (fun r => vs (off + n * ei.size + r)) h0 (by rw [elRows_len]; omega) (fun r hr => ?_) (fun r hr => ?_)
      · rw [hl1] at hr
        have := hF (off + n * ei.size + r) (by omega)
        rwa [show q + off + n * ei.size + r = q + (off + n * ei.size + r) by omega]
      · rw [hl1] at hr
        have hcr := hv (off + n * ei.size + r) (by omega)
        have hs := samek_get hz.2 hn
        have hk : ((lay.drop off).take ei.size).getD r .bool = lay.getD (off + n * ei.size + r) .bool := by
          rw [← hs]
          simp [List.getD, hr, List.getElem?_take]
        unfold cellC
        rw [hk, Int.toNat_natCast]
        unfold cellAt
        rw [elRows_get _ _ _ hn, elRow_get _ _ _ hr, rd_base]
        unfold cellC
        rw [fixC_idem]
        exact hcr
  · exact Yl.no

theorem ixs_sound {x i : Operand} {t : TypeId} {a b : A} (ho : o.op = .index t x i) (hu : P.underlying t = some .string)
    (hx : VR G a (ρ x)) (hi : VR G b (ρ i))
    (h : AllP (match a, b with
      | .c (.str s), .c (.int _ j) => Rs.q [.b ((baseE rs pk).le 0 j), .b ((baseE rs pk).lt j ((baseE rs pk).slen s))] (.c (.int .u8 ((baseE rs pk).sget s j)))
      | _, _ => stuck).p) : Yl P G ρ o w (match a, b with
      | .c (.str s), .c (.int _ j) => .q [.b ((baseE rs pk).le 0 j), .b ((baseE rs pk).lt j ((baseE rs pk).slen s))] (.c (.int .u8 ((baseE rs pk).sget s j)))
      | _, _ => stuck) := by
  revert h
  split
  · rename_i s k j
    intro h
    simp [Rs.q, baseE] at h
    obtain ⟨h0, h1⟩ := h
    have e1 := hx.str
    have e2 := hi.int
    have hlt : j.toNat < s.size := by omega
    refine ⟨rfl, _, ?_, .c (.int _ _)⟩
    have hlt' : j.toNat < s.data.size := hlt
    simp [execOp, ho, e1, e2, Instr.index, asIntOf, run_underlying hu, h0, hlt, hlt', List.getD, baseE]
    rfl
  · exact Yl.no

theorem mkf_sound {f : FuncId} {cs : Array Operand} {ev : Opd → A} (ho : o.op = .makeFunc (.func f) #[] cs)
    (hx : ∀ x ∈ cs, VR G (ev (opd x)) (ρ x)) : Yl P G ρ o w (.q [] (.fn f ((cs.toList.map opd).map ev))) := by
  refine ⟨rfl, .func (.func f) #[] (cs.map ρ), by simp [execOp, ho, Instr.makeFunc], ?_⟩
  refine .fn _ _ _ (by simp) fun i h1 h2 => ?_
  simp at h1 h2 ⊢
  exact hx _ (Array.getElem_mem h2)

theorem ext_sound {x : Operand} {i : Nat} {a : A} (ho : o.op = .extract x i) (hx : VR G a (ρ x))
    (h : AllP (match a with | .tup l => (match l[i]? with | some a => Rs.q [] a | none => stuck) | _ => stuck).p) : Yl P G ρ o w (match a with | .tup l => (match l[i]? with | some a => .q [] a | none => stuck) | _ => stuck) := by
  revert h
  split
  · split
    · rename_i l _ v hv
      intro _
      obtain ⟨hlt, rfl⟩ := List.getElem?_eq_some_iff.1 hv
      obtain ⟨vs, e, hl, hvv⟩ := hx.tup_inv
      have hlt2 : i < vs.size := by omega
      exact ⟨rfl, vs[i], by simp [execOp, ho, e, Instr.extract, hlt2], hvv _ hlt hlt2⟩
    · exact Yl.no
  · exact Yl.no

theorem un_sound {op : UnOp} {t : TypeId} {x : Operand} {a : A} (ho : o.op = .unOp op t x) (hx : VR G a (ρ x))
    (h : AllP (match op, a with
    | .not, .c (.bool b) => Rs.q [] (.c (.bool ((baseE rs pk).not b)))
    | .neg, .c (.int k n) => .q [] (.c (.int k ((baseE rs pk).neg k n)))
    | _, _ => stuck).p) : Yl P G ρ o w (match op, a with
    | .not, .c (.bool b) => .q [] (.c (.bool ((baseE rs pk).not b)))
    | .neg, .c (.int k n) => .q [] (.c (.int k ((baseE rs pk).neg k n)))
    | _, _ => stuck) := by
  revert h
  split
  · intro _
    refine ⟨rfl, _, ?_, .c (.bool _)⟩
    have e := hx.bool
    simp [execOp, ho, e, Op.unary, baseE]
  · intro _
    refine ⟨rfl, _, ?_, .c (.int _ _)⟩
    have e := hx.int
    simp [execOp, ho, e, Op.unary, Op.intArith, baseE]
  · exact Yl.no

theorem cv_sound {t u : TypeId} {k : IntKind} {x : Operand} {a : A} {d : TypeDesc} (ho : o.op = .convert t u x) (ht : P.underlying t = some d) (hu : P.underlying u = some (.int k)) (hx : VR G a (ρ x))
    (h : AllP (match a with | .c (.int _ n) => Rs.q [] (.c (.int k ((baseE rs pk).wrap k n))) | _ => stuck).p) : Yl P G ρ o w (match a with | .c (.int _ n) => .q [] (.c (.int k ((baseE rs pk).wrap k n))) | _ => stuck) := by
  revert h
  split
  · intro _
    refine ⟨rfl, _, ?_, .c (.int _ _)⟩
    have e := hx.int
    simp [execOp, ho, e, convert, run_underlying ht, run_underlying hu, Conv.intToInt, baseE]
  · exact Yl.no

theorem eqb_sound {op : BinOp} {neg : Bool} (hop : op = if neg then .neq else .eql) {t yT : TypeId} {x y : Operand} {a b : A} (ho : o.op = .binOp op t x y yT) (ht : P.underlying t = some .bool)
    (hx : VR G a (ρ x)) (hy : VR G b (ρ y))
    (h : AllP (match a, b with
    | .c (.bool a), .c (.bool b) => Rs.q [] (.c (.bool (if neg then (baseE rs pk).not ((baseE rs pk).beq a b) else (baseE rs pk).beq a b)))
    | _, _ => stuck).p) : Yl P G ρ o w (match a, b with
    | .c (.bool a), .c (.bool b) => .q [] (.c (.bool (if neg then (baseE rs pk).not ((baseE rs pk).beq a b) else (baseE rs pk).beq a b)))
    | _, _ => stuck) := by
  revert h
  split
  · rename_i p q
    intro _
    refine ⟨rfl, _, ?_, .c (.bool _)⟩
    have e1 := hx.bool
    have e2 := hy.bool
    have hq := run_equalIn_bool' w 9999 t p q ht
    subst hop
    cases neg <;> simp [execOp, ho, e1, e2, eqGuard, binOp, Op.equal, Op.maxDepth, hq, baseE]
  · exact Yl.no

theorem bnd_int {ev : Opd → A} {d : Int} {x : Operand} {j : Int} (hx : VR G (ev (opd x)) (ρ x)) (h : bnd ev d (some (opd x)) = some j) : ∃ k, ρ x = .int k j := by
  simp only [bnd] at h
  split at h
  · rename_i k j' e
    cases h
    rw [e] at hx
    exact ⟨_, hx.int⟩
  · cases h

theorem run_sliceBound {v : Value} {k : IntKind} {j : Int} {y : Nat} {code : BoundsCode} (hv : v = .int k j) (h0 : 0 ≤ j) (h1 : j ≤ y) : (Instr.sliceBound v y code).run P w = .ok j.toNat w := by
  subst hv
  simp [Instr.sliceBound, asIntOf, h0, h1]

/-- The bounds of a slice expression, once they are known to be in order. -/
theorem run_sliceBounds {isS : Bool} {len cap : Nat} {ev : Opd → A} {lo hi : Option Operand} {l h : Int} (hcap : len ≤ cap)
    (hlo : ∀ x, lo = some x → VR G (ev (opd x)) (ρ x)) (hhi : ∀ x, hi = some x → VR G (ev (opd x)) (ρ x))
    (el : bnd ev 0 (lo.map opd) = some l) (eh : bnd ev len (hi.map opd) = some h)
    (h0 : 0 ≤ l) (h1 : l ≤ h) (h2 : h ≤ len) :
    (Instr.sliceBounds isS len cap (lo.map ρ) (hi.map ρ) none).run P w = .ok (l.toNat, h.toNat, cap) w := by
  unfold Instr.sliceBounds
  have hl' : l ≤ cap := by omega
  cases hi with
  | none =>
    simp [bnd] at eh
    cases lo with
    | none => simp [bnd] at el; subst el; subst eh; simp
    | some x =>
      obtain ⟨k, e⟩ := bnd_int (hlo x rfl) el
      subst eh
      simp [run_sliceBound e h0 h1]
  | some y =>
    obtain ⟨ky, ey⟩ := bnd_int (hhi y rfl) eh
    have hb := run_sliceBound (P := P) (w := w) (y := cap) (code := if isS then .sliceAcap else .sliceAlen) ey (by omega) (by omega)
    cases lo with
    | none => simp [bnd] at el; subst el; simp [hb]
    | some x =>
      obtain ⟨k, e⟩ := bnd_int (hlo x rfl) el
      have hb2 := run_sliceBound (P := P) (w := w) (y := h.toNat) (code := .sliceB) e h0 (by omega)
      simp [hb, hb2]

theorem cellAt_cut (xs : List (List C)) (l h i j : Nat) (hi : i < h - l) : cellAt ((xs.take h).drop l) i j = cellAt xs (l + i) j := by
  unfold cellAt
  simp only [List.getD_eq_getElem?_getD, List.getElem?_drop, List.getElem?_take]
  rw [if_pos (by omega)]

theorem cellC_cut (lay : List LK) (xs : List (List C)) (l h i j : Nat) (hi : i < h - l) : cellC lay ((xs.take h).drop l) i j = cellC lay xs (l + i) j := by
  unfold cellC; rw [cellAt_cut _ _ _ _ _ hi]

theorem sls_sound {x : Operand} {lo hi : Option Operand} {t e : TypeId} {ei : TypeInfo} {a : A} {ev : Opd → A} (ho : o.op = .slice t x lo hi none) (hu : P.underlying t = some (.slice e))
    (hinf : P.info? e = some ei) (hH : HR w0 G H w) (hx : VR G a (ρ x))
    (hlo : ∀ x, lo = some x → VR G (ev (opd x)) (ρ x)) (hhi : ∀ x, hi = some x → VR G (ev (opd x)) (ρ x))
    (h : AllP (slsE (baseE rs pk) ev H ei.size a (lo.map opd) (hi.map opd)).p) : Yl P G ρ o w (slsE (baseE rs pk) ev H ei.size a (lo.map opd) (hi.map opd)) := by
  have hnull : ∀ v : Value, (Instr.sliceAt t v (lo.map ρ) (hi.map ρ) none).run P w = (Instr.slice t v (lo.map ρ) (hi.map ρ) none).run P w := by
    intro v
    simp [Instr.sliceAt, run_underlying hu]
  revert h
  unfold slsE
  split
  · split
    · rename_i l hh el eh
      intro h
      simp [Rs.q, baseE] at h
      obtain ⟨rfl, rfl⟩ := h
      have e1 := hx.nil
      have hb := run_sliceBounds (P := P) (w := w) (isS := true) (len := 0) (cap := 0) (Nat.le_refl _) hlo hhi el eh (by omega) (by omega) (by omega)
      refine ⟨rfl, .slice none 0 0, ?_, .c .nil⟩
      simp only [execOp, ho, e1, Sem.run_bind, Option.map_none, hnull]
      simp [Instr.slice, run_underlying hu, hb, sizeOf, typeInfo, hinf]
    · exact Yl.no
  · rename_i lay xs
    split
    · rename_i l hh el eh
      intro h
      obtain ⟨hz, h⟩ := chk_p h
      rw [chk_true hz]
      have hz : lay.length = ei.size := by simpa [Nat.beq_eq] using hz
      simp [Rs.q, baseE] at h
      obtain ⟨h0, h1, h2⟩ := h
      obtain ⟨A, cap, b, off, vs, e1, hcap, ha, hF, hr⟩ := hx.sl_inv
      have hb := run_sliceBounds (P := P) (w := w) (isS := true) hcap hlo hhi el eh h0 h1 h2
      have hlen : ((xs.take hh.toNat).drop l.toNat).length = hh.toNat - l.toNat := by simp; omega
      refine ⟨rfl, .slice (if cap = l.toNat then A else A.map (·.add (l.toNat * ei.size))) (hh.toNat - l.toNat) (cap - l.toNat), ?_, ?_⟩
      · simp only [execOp, ho, e1, Sem.run_bind, Option.map_none, hnull]
        simp [Instr.slice, run_underlying hu, hb, sizeOf, typeInfo, hinf]
      · show VR G (.c (.sl lay ((xs.take hh.toNat).drop l.toNat))) _
        rw [← hlen]
        refine .c (.sl lay _ _ _ b (off + l.toNat * ei.size) (fun i j => vs (l.toNat + i) j) (by rw [hlen]; omega) (fun hne => ?_) (fun i j hi hj => ?_) (fun i j hi hj => ?_))
        · have hpos : 0 < hh.toNat - l.toNat := by
            rw [← hlen]; exact List.length_pos_iff.2 hne
          have hne' : xs ≠ [] := by intro e; subst e; simp at hlen; omega
          have hA := ha hne'
          subst hA
          have hm : cap ≠ l.toNat := by omega
          rw [if_neg hm]
          simp [add_addr]
        · rw [hlen] at hi
          have := hF (l.toNat + i) j (by omega) hj
          rw [Nat.add_mul] at this
          rw [← this, ← hz]; congr 1; omega
        · rw [hlen] at hi
          have := hr (l.toNat + i) j (by omega) hj
          rw [← cellC_cut lay xs l.toNat hh.toNat i j hi] at this
          exact this
    · exact Yl.no
  · rename_i id
    split
    · rename_i lay xs ha
      split
      · rename_i l hh el eh
        intro h
        obtain ⟨hz, h⟩ := chk_p h
        rw [chk_true hz]
        have hz : lay.length = ei.size := by simpa [Nat.beq_eq] using hz
        simp [Rs.q, baseE] at h
        obtain ⟨h0, h1, h2⟩ := h
        obtain ⟨hc, hsz⟩ := arr_len hH ha
        obtain ⟨hid, ⟨hp, hcn, e1⟩ | ⟨hp, ad, e1, hlen, had⟩⟩ := hx.gr_inv
        · rw [hcn] at hc
          have hb := run_sliceBounds (P := P) (w := w) (isS := true) (len := 0) (cap := 0) (Nat.le_refl _) hlo hhi el (by rw [hc]; exact eh) h0 h1 (by omega)
          refine ⟨rfl, .slice none 0 0, ?_, ?_⟩
          · simp only [execOp, ho, e1, Sem.run_bind, Option.map_none, hnull]
            have e2 : hh.toNat = 0 := by omega
            simp [Instr.slice, run_underlying hu, hb, sizeOf, typeInfo, hinf, e2]
          · exact .ownn id _ _ hid hp hcn (show (0 : Int) ≤ l by omega) (by show hh - l = 0; omega)
        · have hb := run_sliceBounds (P := P) (w := w) (isS := true) (len := G.cnt id) (cap := G.room id) hlen hlo hhi el (by rw [hc]; exact eh) h0 h1 (by omega)
          refine ⟨rfl, .slice (if G.room id = l.toNat then some ad else some (ad.add (l.toNat * ei.size))) (hh - l).toNat (G.room id - l.toNat), ?_, ?_⟩
          · simp only [execOp, ho, e1, Sem.run_bind, Option.map_none, hnull]
            simp [Instr.slice, run_underlying hu, hb, sizeOf, typeInfo, hinf]
            omega
          · split
            · exact .own id _ _ _ _ hid hp h0 (show (0 : Int) ≤ hh - l by omega) (by omega) (show l + (hh - l) ≤ _ by omega) (show (hh - l).toNat ≤ _ by omega) (fun hc => by omega)
            · refine .own id _ _ _ _ hid hp h0 (show (0 : Int) ≤ hh - l by omega) (by omega) (show l + (hh - l) ≤ _ by omega) (show (hh - l).toNat ≤ _ by omega) (fun hc => ?_)
              rw [had (by omega), add_addr, hsz, hz, Nat.zero_add]
      · exact Yl.no
    · exact Yl.no
  · rename_i id off len
    split
    · rename_i lay xs ha
      split
      · rename_i l hh el eh
        intro h
        obtain ⟨hz, h⟩ := chk_p h
        rw [chk_true hz]
        have hz : lay.length = ei.size := by simpa [Nat.beq_eq] using hz
        simp [Rs.q, baseE] at h
        obtain ⟨h0, h1, h2⟩ := h
        obtain ⟨hc, hsz⟩ := arr_len hH ha
        rcases hx.own_inv' with ⟨cap, ad, e1, hid, hp, g0, g1, hcap, hcnt, hlen, had⟩ | ⟨hid, hp, hcn, g0, g1, e1⟩
        · have hb := run_sliceBounds (P := P) (w := w) (isS := true) (len := len.toNat) (cap := cap) hlen hlo hhi el (by rw [show ((len.toNat : Nat) : Int) = len by omega]; exact eh) h0 h1 (by omega)
          refine ⟨rfl, .slice (if cap = l.toNat then some ad else some (ad.add (l.toNat * ei.size))) (hh - l).toNat (cap - l.toNat), ?_, ?_⟩
          · simp only [execOp, ho, e1, Sem.run_bind, Option.map_none, hnull]
            simp [Instr.slice, run_underlying hu, hb, sizeOf, typeInfo, hinf]
            omega
          · have e3 : (off + l).toNat = off.toNat + l.toNat := by omega
            split
            · exact .own id _ _ _ _ hid hp (show (0 : Int) ≤ off + l by omega) (show (0 : Int) ≤ hh - l by omega) (by show (off + l).toNat + _ = _; omega) (show (off + l) + (hh - l) ≤ _ by omega) (show (hh - l).toNat ≤ _ by omega) (fun hc => by omega)
            · refine .own id _ _ _ _ hid hp (show (0 : Int) ≤ off + l by omega) (show (0 : Int) ≤ hh - l by omega) (by show (off + l).toNat + _ = _; omega) (show (off + l) + (hh - l) ≤ _ by omega) (show (hh - l).toNat ≤ _ by omega) (fun hc => ?_)
              show ad.add _ = ⟨_, (off + l).toNat * _, none⟩
              rw [had (by omega), add_addr, hsz, hz, e3, Nat.add_mul]
        · subst g1
          have hb := run_sliceBounds (P := P) (w := w) (isS := true) (len := 0) (cap := 0) (Nat.le_refl _) hlo hhi el eh h0 h1 (by omega)
          refine ⟨rfl, .slice none 0 0, ?_, ?_⟩
          · simp only [execOp, ho, e1, Sem.run_bind, Option.map_none, hnull]
            have e2 : hh.toNat = 0 := by omega
            simp [Instr.slice, run_underlying hu, hb, sizeOf, typeInfo, hinf, e2]
          · exact .ownn id _ _ hid hp hcn (show (0 : Int) ≤ off + l by omega) (by show hh - l = 0; omega)
      · exact Yl.no
    · exact Yl.no
  · exact Yl.no
end ops
end Go.Eng

/- An abstract machine over plain data, part F: lengths, maps, structs, comparison: sound. -/
namespace Go.Eng
open Go.RowKit
section ops
variable {P : Program} {w0 : Base} {w : World} {G : Gh} {H : List O} {ρ : Operand → Value} {rs : FuncId → List A → Nat → C} {pk : FuncId → List (Bool × List LK) → List A → Prop} {o : Oper}

theorem lenS_sound {x : Operand} {t e : TypeId} {a : A} (ho : o.op = .call ⟨.builtin .len, #[x], #[t]⟩) (hu : P.underlying t = some (.slice e)) (hH : HR w0 G H w) (hx : VR G a (ρ x)) {r : Rs}
    (hr : r = match (generalizing := false) a with
    | .c (.sl _ xs) => .q [] (.c (.int .i64 ((baseE rs pk).len xs)))
    | .c .nil => .q [] (.c (.int .i64 0))
    | .own _ _ len => .q [] (.c (.int .i64 len))
    | .gr id => match arrOf H id with
      | some (_, xs) => .q [] (.c (.int .i64 ((baseE rs pk).len xs)))
      | none => stuck
    | _ => stuck) (h : AllP r.p) : Yl P G ρ o w r := by
  subst hr
  revert h hx
  split
  · intro hx _
    refine ⟨rfl, _, ?_, .c (.int _ _)⟩
    obtain ⟨A, cap, b, off, vs, e1, _⟩ := hx.sl_inv
    simp [execOp, ho, e1, resolve, invoke, builtin, Builtin.len_, run_underlying hu, goInt, baseE]
  · intro hx _
    refine ⟨rfl, _, ?_, .c (.int _ _)⟩
    have e1 := hx.nil
    simp [execOp, ho, e1, resolve, invoke, builtin, Builtin.len_, run_underlying hu, goInt]
  · intro hx _
    refine ⟨rfl, _, ?_, .c (.int _ _)⟩
    rcases hx.own_inv' with ⟨cap, ad, e1, _, _, _, h1, _⟩ | ⟨_, _, _, _, h1, e1⟩
    · have : ((_ : Int).toNat : Int) = _ := Int.toNat_of_nonneg h1
      simp [execOp, ho, e1, resolve, invoke, builtin, Builtin.len_, run_underlying hu, goInt, this]
    · subst h1
      simp [execOp, ho, e1, resolve, invoke, builtin, Builtin.len_, run_underlying hu, goInt]
  · split
    · rename_i lay xs ha
      intro hx _
      refine ⟨rfl, _, ?_, .c (.int _ _)⟩
      obtain ⟨hc, _⟩ := arr_len hH ha
      obtain ⟨hid, ⟨hp, hcn, e1⟩ | ⟨hp, ad, e1, hlen, had⟩⟩ := hx.gr_inv
      · have : (0 : Int) = (baseE rs pk).len xs := by show (0 : Int) = (xs.length : Int); rw [← hc, hcn]; rfl
        simp [execOp, ho, e1, resolve, invoke, builtin, Builtin.len_, run_underlying hu, goInt]
        exact this
      · simp [execOp, ho, e1, resolve, invoke, builtin, Builtin.len_, run_underlying hu, goInt, baseE, hc]
    · exact fun _ => Yl.no
  · exact fun _ => Yl.no

theorem lenT_sound {x : Operand} {t : TypeId} {a : A} (ho : o.op = .call ⟨.builtin .len, #[x], #[t]⟩) (hu : P.underlying t = some .string) (hx : VR G a (ρ x)) {r : Rs}
    (hr : r = match (generalizing := false) a with | .c (.str s) => .q [] (.c (.int .i64 ((baseE rs pk).slen s))) | _ => stuck) (h : AllP r.p) : Yl P G ρ o w r := by
  subst hr
  revert h hx
  split
  · intro hx _
    refine ⟨rfl, _, ?_, .c (.int _ _)⟩
    have e1 := hx.str
    simp [execOp, ho, e1, resolve, invoke, builtin, Builtin.len_, run_underlying hu, goInt, baseE]
  · exact fun _ => Yl.no

/-- A map: nil, or what its memory holds. -/
def MV (G : Gh) (w : World) (kk : IntKind) (row : Bool) (lay : List LK) (es : List (Int × List C)) (v : Value) : Prop :=
  (v = .map none ∧ es = [] ∧ (row = false → lay.length = 1)) ∨ ∃ b ms clock, v = .map (some b) ∧ w.heap[b]? = some (.map ms clock) ∧ MR G.F kk row lay es ms clock
theorem data_MV {kk : IntKind} {row : Bool} {lay : List LK} {es : List (Int × List C)} {v : Value} (hH : HR w0 G H w) (hx : VR G (.c (.mp kk row lay es)) v) : MV G w kk row lay es v := by
  cases hx with
  | c hx => cases hx with
    | mp _ _ _ _ m ms clock vs hnil hF hst hlay hval hv =>
      cases m with
      | none => exact .inl ⟨rfl, hnil rfl, hlay⟩
      | some b =>
        have hs := hst (by simp)
        refine .inr ⟨b, ms, clock, rfl, (hH.fz _ _ _ (hF b rfl)).map, hs, hlay, fun i h1 h2 => ⟨vs i, hval (by simp) i h2, fun j hj => ?_⟩⟩
        have := hv i j h1 hj
        simpa [mcell, List.getD, h1] using this
theorem map_MV {id : Nat} {kk : IntKind} {row : Bool} {lay : List LK} {es : List (Int × List C)} {v : Value} (hH : HR w0 G H w) (hid : mapOf H id = some (kk, row, lay, es)) (hx : VR G (.map id) v) : MV G w kk row lay es v := by
  obtain ⟨_, _, e1⟩ := hx.map_inv
  unfold mapOf at hid
  split at hid
  · rename_i hid'
    cases hid
    obtain ⟨_, _, ms, clock, hb, hm⟩ := hH.obj id _ hid'
    exact .inr ⟨_, ms, clock, e1, hb, hm⟩
  · rename_i hid'
    cases hid
    obtain ⟨_, _, ms, clock, hb, hm⟩ := hH.obj id _ hid'
    exact .inr ⟨_, ms, clock, e1, (hH.fz _ _ _ hb).map, hm⟩
  · cases hid
theorem lenM_sound {x : Operand} {t k e : TypeId} {a : A} (ho : o.op = .call ⟨.builtin .len, #[x], #[t]⟩) (hu : P.underlying t = some (.map k e)) (hH : HR w0 G H w) (hx : VR G a (ρ x)) {r : Rs}
    (hr : r = match (generalizing := false) a with
    | .nm => .q [] (.c (.int .i64 0))
    | .c (.mp _ _ _ es) => .q [] (.c (.int .i64 ((baseE rs pk).mlen es)))
    | .map id => match mapOf H id with
      | some (_, _, _, es) => .q [] (.c (.int .i64 ((baseE rs pk).mlen es)))
      | none => stuck
    | _ => stuck) (h : AllP r.p) : Yl P G ρ o w r := by
  have key : ∀ kk row lay es, MV G w kk row lay es (ρ x) → Yl P G ρ o w (.q [] (.c (.int .i64 ((baseE rs pk).mlen es)))) := by
    rintro kk row lay es (⟨e1, rfl, _⟩ | ⟨b, ms, clock, e1, hb, hm⟩)
    · refine ⟨rfl, _, ?_, .c (.int _ _)⟩
      simp [execOp, ho, e1, resolve, invoke, builtin, Builtin.len_, run_underlying hu, goInt, baseE]
    · refine ⟨rfl, _, ?_, .c (.int _ _)⟩
      simp [execOp, ho, e1, resolve, invoke, builtin, Builtin.len_, run_underlying hu, goInt, getObj, Sem.run, hb, hm.st.size, baseE]
  subst hr
  revert h hx
  split
  · intro hx _
    refine ⟨rfl, _, ?_, .c (.int _ _)⟩
    have e1 := hx.nm_inv
    simp [execOp, ho, e1, resolve, invoke, builtin, Builtin.len_, run_underlying hu, goInt]
  · exact fun hx _ => key _ _ _ _ (data_MV hH hx)
  · rename_i id
    split
    · rename_i hid
      exact fun hx _ => key _ _ _ _ (map_MV hH hid hx)
    · exact fun _ => Yl.no
  · exact fun _ => Yl.no

theorem foldInts_vals {f : Int → Int → Int} {ev : Opd → A} {k : IntKind} : ∀ (ys : List Operand) (a : Int), AllP (foldInts f ev k a (ys.map opd)).p → (∀ y ∈ ys, VR G (ev (opd y)) (ρ y)) →
    ∃ ks ns, List.length ks = List.length ns ∧ ys.map ρ = List.zipWith Value.int ks ns ∧ foldInts f ev k a (ys.map opd) = .q [] (.c (.int k (ns.foldl f a)))
  | [], a, _, _ => ⟨[], [], rfl, rfl, rfl⟩
  | y :: ys, a, h, hv => by
    simp only [List.map_cons, foldInts] at h ⊢
    split at h
    · rename_i k' b e
      obtain ⟨ks, ns, h1, h2, h3⟩ := foldInts_vals ys (f a b) h (fun z hz => hv z (by simp [hz]))
      have := hv y (by simp)
      rw [e] at this
      exact ⟨k' :: ks, b :: ns, by simp [h1], by simp [h2, this.int], by rw [h3]; rfl⟩
    · exact (no_stuck h).elim

theorem min_sound {x : Operand} {ys : List Operand} {ts : Array TypeId} {a : A} {ev : Opd → A} (ho : o.op = .call ⟨.builtin .min, (x :: ys).toArray, ts⟩) (hx : VR G a (ρ x)) (hy : ∀ y ∈ ys, VR G (ev (opd y)) (ρ y)) {r : Rs}
    (hr : r = match (generalizing := false) a with | .c (.int k a) => foldInts (baseE rs pk).min ev k a (ys.map opd) | _ => stuck) (h : AllP r.p) : Yl P G ρ o w r := by
  subst hr
  revert h hx
  split
  · rename_i k n
    intro hx h
    obtain ⟨ks, ns, hl, e2, e3⟩ := foldInts_vals ys n h hy
    rw [e3]
    refine ⟨rfl, _, ?_, .c (.int _ _)⟩
    have e1 := hx.int
    have key : ∀ (ks : List IntKind) (l : List Int) (n : Int), ks.length = l.length → ((List.zipWith Value.int ks l).foldlM Builtin.min2 (.int k n) : Sem Value).run P w = .ok (.int k (l.foldl (baseE rs pk).min n)) w := by
      intro ks l
      induction l generalizing ks with
      | nil => intro n h; simp
      | cons m l ih =>
        intro n h
        cases ks with
        | nil => simp at h
        | cons k' ks =>
          simp only [List.zipWith_cons_cons, List.foldlM_cons, Builtin.min2, Sem.run_bind, Sem.run_pure, Result.andThen_ok, List.foldl_cons]
          exact ih ks _ (by simpa using h)
    simp [execOp, ho, e1, resolve, invoke, builtin, Builtin.min_, e2, key ks ns n hl]
  · exact fun _ => Yl.no

theorem max_sound {x : Operand} {ys : List Operand} {ts : Array TypeId} {a : A} {ev : Opd → A} (ho : o.op = .call ⟨.builtin .max, (x :: ys).toArray, ts⟩) (hx : VR G a (ρ x)) (hy : ∀ y ∈ ys, VR G (ev (opd y)) (ρ y)) {r : Rs}
    (hr : r = match (generalizing := false) a with | .c (.int k a) => foldInts (baseE rs pk).max ev k a (ys.map opd) | _ => stuck) (h : AllP r.p) : Yl P G ρ o w r := by
  subst hr
  revert h hx
  split
  · rename_i k n
    intro hx h
    obtain ⟨ks, ns, hl, e2, e3⟩ := foldInts_vals ys n h hy
    rw [e3]
    refine ⟨rfl, _, ?_, .c (.int _ _)⟩
    have e1 := hx.int
    have key : ∀ (ks : List IntKind) (l : List Int) (n : Int), ks.length = l.length → ((List.zipWith Value.int ks l).foldlM Builtin.max2 (.int k n) : Sem Value).run P w = .ok (.int k (l.foldl (baseE rs pk).max n)) w := by
      intro ks l
      induction l generalizing ks with
      | nil => intro n h; simp
      | cons m l ih =>
        intro n h
        cases ks with
        | nil => simp at h
        | cons k' ks =>
          simp only [List.zipWith_cons_cons, List.foldlM_cons, Builtin.max2, Sem.run_bind, Sem.run_pure, Result.andThen_ok, List.foldl_cons]
          exact ih ks _ (by simpa using h)
    simp [execOp, ho, e1, resolve, invoke, builtin, Builtin.max_, e2, key ks ns n hl]
  · exact fun _ => Yl.no

/-- The map's own look-up, where all keys are integers of one kind. -/
theorem findNow_ints {k : IntKind} {kd : IntKind} {n : Int} : ∀ (ms : List MapEntry) (es : List (Int × List C)) (i : Nat), ms.length = es.length →
    (∀ j (h1 : j < es.length) (h2 : j < ms.length), ms[j].key = .int k es[j].1) →
    ∃ r, Instr.findNow (.int kd) (.int k n) ms i = some r ∧
      ((mfind n es = none ∧ r = none) ∨ ∃ j, ∃ (h1 : j < es.length) (h2 : j < ms.length), es[j].1 = n ∧ mfind n es = some es[j].2 ∧ r = some (i + j, ms[j].val) ∧ ∀ q (h3 : q < es.length), q < j → es[q].1 ≠ n)
  | [], [], i, _, _ => ⟨none, rfl, .inl ⟨rfl, rfl⟩⟩
  | [], _ :: _, _, h, _ => by simp at h
  | _ :: _, [], _, h, _ => by simp at h
  | m :: ms, e :: es, i, hl, hk => by
    have h0 := hk 0 (by simp) (by simp)
    simp only [List.getElem_cons_zero] at h0
    simp only [Instr.findNow, h0, Instr.sameNow, if_true]
    by_cases hn : n = e.1
    · have hb : (n == e.1) = true := by simp [hn]
      rw [hb]
      refine ⟨_, rfl, .inr ⟨0, by simp, by simp, hn.symm, by simp [mfind, hn], by simp, fun q _ hq => by omega⟩⟩
    · have hb : (n == e.1) = false := by simp [hn]
      rw [hb]
      obtain ⟨r, hr, hcase⟩ := findNow_ints (k := k) (kd := kd) (n := n) ms es (i + 1) (by simpa using hl) (fun j h1 h2 => by
        have := hk (j + 1) (by simp; omega) (by simp; omega)
        simpa using this)
      refine ⟨r, hr, ?_⟩
      rcases hcase with ⟨h1, h2⟩ | ⟨j, h1, h2, h3, h4, h5, h6⟩
      · exact .inl ⟨by simp [mfind, hb, h1], h2⟩
      · refine .inr ⟨j + 1, by simp; omega, by simp; omega, by simpa using h3, by simp [mfind, hb, h4], by rw [h5]; simp; omega, fun q h7 hq => ?_⟩
        cases q with
        | zero => simp; exact fun e => hn e.symm
        | succ q => simp at h7 ⊢; exact h6 q (by omega) (by omega)

theorem asC_CR {F : Nat → Nat → Option Value} {k : LK} {a : A} {c : C} {G : Gh} {v : Value} (h : asC k a = some c) (hv : VR G a v) (hF : G.F = F) : CR F (fixC k c) v := by
  subst hF
  unfold asC at h
  split at h
  · split at h
    · rename_i hk
      have := eq_of_beq hk
      subst this
      cases h
      cases hv with | c hv => exact hv
    · cases h
  · cases h; cases hv with | c hv => exact hv
  · cases h; cases hv with | c hv => exact hv
  · split at h
    · rename_i hl
      have := LK.beqs_eq _ _ hl
      subst this
      cases h
      cases hv with | c hv => exact hv
    · cases h
  · cases h
    have e := hv.nil
    subst e
    exact .sl _ [] none 0 0 0 (fun _ _ => .bool false) (by simp) (fun h => absurd rfl h) (fun i j h => by simp at h) (fun i j h => by simp at h)
  · split at h
    · rename_i hl
      simp only [Bool.and_eq_true] at hl
      obtain ⟨⟨h1, h2⟩, h3⟩ := hl
      have h1 := eq_of_beq h1
      have h2 := eq_of_beq h2
      have h3 := LK.beqs_eq _ _ h3
      subst h1 h2 h3
      cases h
      cases hv with | c hv => exact hv
    · cases h
  · split at h
    · rename_i hl
      cases h
      have e := hv.nm_inv
      subst e
      refine .mp _ _ _ [] none #[] 0 (fun _ _ => .bool false) (fun _ => rfl) (fun b h => by cases h) (fun h => absurd rfl h) (fun hr => ?_) (fun h => absurd rfl h) (fun i j h => by simp at h)
      subst hr
      simpa [Nat.beq_eq] using hl
    · cases h
  · cases h
theorem asRow_spec0 : ∀ {lay : List LK} {l : List A} {r : List C}, asRow lay l = some r → l.length = lay.length ∧ r.length = lay.length ∧ ∀ j (h2 : j < l.length), asC (lay.getD j .bool) l[j] = some (r.getD j .nil)
  | [], [], r, h => by cases h; exact ⟨rfl, rfl, fun j h => by simp at h⟩
  | k :: ks, a :: as, r, h => by
    simp only [asRow] at h
    split at h
    · rename_i c cs h1 h2
      cases h
      obtain ⟨g1, g2, g3⟩ := asRow_spec0 h2
      refine ⟨by simp [g1], by simp [g2], fun j hj => ?_⟩
      cases j with
      | zero => exact h1
      | succ j => exact g3 j (by simpa using hj)
    · cases h
  | [], _ :: _, r, h => by cases h
  | _ :: _, [], r, h => by cases h
/-- A value that is made of these cells. -/
def Made (G : Gh) (row : Bool) (l : List A) (v : Value) : Prop :=
  match row with
  | true => ∃ vs : Array Value, v = .agg vs ∧ vs.size = l.length ∧ ∀ i (h1 : i < l.length) (h2 : i < vs.size), VR G l[i] vs[i]
  | false => ∃ a, l = [a] ∧ VR G a v
theorem made_cells {a : A} {v : Value} (hv : VR G a v) : Made G (aggA a) (cellsOf a) v := by
  cases a with
  | agg l => obtain ⟨vs, e, hs, _, h⟩ := hv.agg_inv; exact ⟨vs, e, hs, h⟩
  | _ => exact ⟨_, rfl, hv⟩
theorem Made.row {row : Bool} {lay : List LK} {l : List A} {r : List C} {v : Value} (h : asRow lay l = some r) (hm : Made G row l v) : VRow G.F row lay r v ∧ (row = false → lay.length = 1) := by
  obtain ⟨g1, g2, g3⟩ := asRow_spec0 h
  cases row with
  | true =>
    obtain ⟨vs, rfl, hs, hv⟩ := hm
    refine ⟨⟨fun j => vs.getD j default, ?_, fun j hj => ?_⟩, fun h => by cases h⟩
    · show Value.agg vs = Value.agg _
      congr 1
      refine Array.ext (by simp [hs, g1]) fun i h1 h2 => ?_
      simp [h1]
    · have h1 : j < l.length := by omega
      have h2 : j < vs.size := by omega
      have := asC_CR (g3 j h1) (hv j h1 h2) rfl
      simpa [h2] using this
  | false =>
    obtain ⟨a, rfl, hv⟩ := hm
    have hl : lay.length = 1 := by simpa using g1.symm
    refine ⟨⟨fun _ => v, rfl, fun j hj => ?_⟩, fun _ => hl⟩
    have hj : j = 0 := by omega
    subst hj
    exact asC_CR (g3 0 (by simp)) hv rfl
theorem partV_get {E : Env} {get : Nat → C} : ∀ (ks : List LK) (i : Nat), (partV E get i ks).length = ks.length ∧ ∀ j (h : j < (partV E get i ks).length), (partV E get i ks)[j] = .c (fixE E (ks.getD j .bool) (get (i + j)))
  | [], i => ⟨rfl, fun j h => by simp [partV] at h⟩
  | k :: ks, i => by
    obtain ⟨h1, h2⟩ := partV_get (E := E) (get := get) ks (i + 1)
    refine ⟨by simp [partV, h1], fun j h => ?_⟩
    cases j with
    | zero => rfl
    | succ j =>
      have := h2 j (by simpa [partV] using h)
      simp only [partV, List.getElem_cons_succ, this, List.getD_cons_succ]
      rw [show i + 1 + j = i + (j + 1) by omega]
theorem mvA_VR {row : Bool} {lay : List LK} {get : Nat → C} {v : Value} (hl : row = false → lay.length = 1) (h : ∃ vs : Nat → Value, v = mval row lay.length vs ∧ ∀ j, j < lay.length → CR G.F (fixC (lay.getD j .bool) (get j)) (vs j)) :
    VR G (mvA (baseE rs pk) row lay get) v := by
  obtain ⟨vs, rfl, hv⟩ := h
  obtain ⟨g1, g2⟩ := partV_get (E := baseE rs pk) (get := get) lay 0
  cases row with
  | true =>
    show VR G (.agg (partV (baseE rs pk) get 0 lay)) (.agg (Array.ofFn fun j : _root_.Fin lay.length => vs j))
    refine .agg _ _ (by simp [g1]) (fun i h => ?_) fun i h1 h2 => ?_
    · simp at h ⊢; exact (hv i h).one
    · rw [g2 i h1, fixE_base]
      simp at h2 ⊢
      exact .c (hv i h2)
  | false =>
    have hl := hl rfl
    show VR G ((partV (baseE rs pk) get 0 lay).headD .u) (vs 0)
    have h0 : 0 < (partV (baseE rs pk) get 0 lay).length := by omega
    have hd : ∀ (l : List A) (h : 0 < l.length), l.headD .u = l[0] := fun l h => by
      cases l with
      | nil => simp at h
      | cons a l => rfl
    have e := hd _ h0
    rw [e, g2 0 h0, fixE_base]
    exact .c (hv 0 (by omega))

theorem lkp_sound {x i : Operand} {t key e : TypeId} {kd : IntKind} {inf : TypeInfo} {z : Value} {ok : Bool} {a b : A} (ho : o.op = .lookup t x i ok) (hu : P.underlying t = some (.map key e))
    (hk : P.underlying key = some (.int kd)) (hi : P.info? e = some inf) (hz : inf.zero = some z) (hH : HR w0 G H w) (hx : VR G a (ρ x)) (hy : VR G b (ρ i)) {r : Rs}
    (hr : r = match (generalizing := false) a, b with
    | .nm, .c (.int _ _) => .q [] (if ok then .tup [toA z, .c (.bool false)] else toA z)
    | .c (.mp k row lay es), .c (.int kk n) => lkM (baseE rs pk) k row lay es kk n (toA z) ok
    | .map id, .c (.int kk n) => match mapOf H id with
      | some (k, row, lay, es) => lkM (baseE rs pk) k row lay es kk n (toA z) ok
      | none => stuck
    | _, _ => stuck) (h : AllP r.p) : Yl P G ρ o w r := by
  subst hr
  have hck' : ∀ n b v, (Instr.checkKey b (n + 1) key v).run P w = .ok () w := by
    intro n b v
    simp only [Instr.checkKey, Sem.run_bind, run_underlying hk, Result.andThen_ok]
    rfl
  have hck : ∀ b v, (Instr.checkKey b 10000 key v).run P w = .ok () w := hck' 9999
  clear hck'
  have hz0 : (zeroValue e).run P w = .ok z w := by simp [zeroValue, typeInfo, hi, hz]
  have hpair : ∀ (p : A) (v : Value) (bb : Bool), VR G p v → VR G (.tup [p, .c (.bool bb)]) (.tuple #[v, .bool bb]) := by
    intro p v bb hp
    refine .tup _ _ rfl fun i h1 h2 => ?_
    simp at h1
    rcases i with _ | _ | i
    · exact hp
    · exact .c (.bool _)
    · omega
  have keyL : ∀ kk row lay es k n, MV G w k row lay es (ρ x) → VR G (.c (.int kk n)) (ρ i) → AllP (lkM (baseE rs pk) k row lay es kk n (toA z) ok).p → Yl P G ρ o w (lkM (baseE rs pk) k row lay es kk n (toA z) ok) := by
    intro kk row lay es k n hmv hy h
    have e2 := hy.int
    unfold lkM at h ⊢
    cases hzr : asRow lay (cellsOf (toA z)) with
    | none => rw [hzr] at h; exact Yl.no h
    | some zr =>
      rw [hzr] at h
      simp only at h ⊢
      obtain ⟨hc, _⟩ := chk_p h
      rw [chk_true hc]
      simp only [Bool.and_eq_true] at hc
      have hkk := eq_of_beq hc.1
      have hrow := eq_of_beq hc.2
      subst hkk hrow
      obtain ⟨hzv, hwide⟩ := (made_cells (VR_toA G z)).row hzr
      have fin : ∀ (v : Value) (bb : Bool), (execOp ρ o).run P w = .ok (.value (if ok then .tuple #[v, .bool bb] else v)) w → (baseE rs pk).mhas es n = bb →
          (∃ vs : Nat → Value, v = mval (aggA (toA z)) lay.length vs ∧ ∀ j, j < lay.length → CR G.F (fixC (lay.getD j .bool) ((baseE rs pk).mlk es n j (zr.getD j .nil))) (vs j)) →
          Yl P G ρ o w (.q [] (if ok then .tup [mvA (baseE rs pk) (aggA (toA z)) lay fun j => (baseE rs pk).mlk es n j (zr.getD j .nil), .c (.bool ((baseE rs pk).mhas es n))] else mvA (baseE rs pk) (aggA (toA z)) lay fun j => (baseE rs pk).mlk es n j (zr.getD j .nil))) := by
        intro v bb hrun hb hv
        refine ⟨rfl, _, hrun, ?_⟩
        have := mvA_VR (rs := rs) (pk := pk) hwide hv
        show VR G (if ok then _ else _) _
        rw [hb]
        split
        · exact hpair _ _ _ this
        · exact this
      rcases hmv with ⟨e1, rfl, _⟩ | ⟨b, ms, clock, e1, hb, hm⟩
      · refine fin z false ?_ (by simp [baseE, mfind]) ?_
        · simp [execOp, ho, e1, e2, Instr.lookup, run_underlying hu, hck, Instr.findKey, run_underlying hk, Instr.findNow, hz0]
        · exact hzv
      · obtain ⟨r, hr, hcase⟩ := findNow_ints (k := kk) (kd := kd) (n := n) ms.toList es 0 (by simpa using hm.st.size) (fun j h1 h2 => by simpa using hm.st.key j h1 (by simpa using h2))
        rcases hcase with ⟨h1, h2⟩ | ⟨j, h1, h2, h3, h4, h5, _⟩
        · subst h2
          refine fin z false ?_ (by simp [baseE, h1]) ?_
          · simp [execOp, ho, e1, e2, Instr.lookup, run_underlying hu, hck, Instr.findKey, run_underlying hk, hr, hz0, getObj, Sem.run, hb]
          · simp only [baseE, mlook, h1]
            exact hzv
        · subst h5
          have h2' : j < ms.size := by simpa using h2
          refine fin ms[j].val true ?_ (by simp [baseE, h4]) ?_
          · simp [execOp, ho, e1, e2, Instr.lookup, run_underlying hu, hck, Instr.findKey, run_underlying hk, hr, getObj, Sem.run, hb]
          · simp only [baseE, mlook, h4]
            exact hm.val j h1 h2'
  revert h hx hy
  split
  · intro hx hy _
    refine ⟨rfl, if ok then .tuple #[z, .bool false] else z, ?_, ?_⟩
    · have e1 := hx.nm_inv
      have e2 := hy.int
      simp [execOp, ho, e1, e2, Instr.lookup, run_underlying hu, hck, Instr.findKey, run_underlying hk, Instr.findNow, hz0]
    · show VR G (if ok then _ else _) _
      split
      · exact hpair _ _ _ (VR_toA _ _)
      · exact VR_toA _ _
  · exact fun hx hy h => keyL _ _ _ _ _ _ (data_MV hH hx) hy h
  · split
    · rename_i hid
      exact fun hx hy h => keyL _ _ _ _ _ _ (map_MV hH hid hx) hy h
    · exact fun _ _ => Yl.no
  · exact fun _ _ => Yl.no

/-! ### Structs -/
theorem VR.known_cells {a : A} {v : Value} (hk : known a = true) (h : VR G a v) : v.cells.size = (cellsOf a).length ∧
    (∀ i (h2 : i < v.cells.size), v.cells[i].oneCell' = true) ∧ ∀ i (h1 : i < (cellsOf a).length) (h2 : i < v.cells.size), VR G (cellsOf a)[i] v.cells[i] := by
  have single : ∀ (a : A) (v : Value), cellsOf a = [a] → v.cells = #[v] → v.oneCell' = true → VR G a v → v.cells.size = (cellsOf a).length ∧
    (∀ i (h2 : i < v.cells.size), v.cells[i].oneCell' = true) ∧ ∀ i (h1 : i < (cellsOf a).length) (h2 : i < v.cells.size), VR G (cellsOf a)[i] v.cells[i] := by
    intro a v e1 e2 e3 h
    refine ⟨by rw [e1, e2]; rfl, fun i h2 => ?_, fun i h1 h2 => ?_⟩
    · have hi : i = 0 := by rw [e2] at h2; simp at h2; exact h2
      subst hi
      simp only [e2, List.getElem_toArray, List.getElem_cons_zero]; exact e3
    · have hi : i = 0 := by rw [e2] at h2; simp at h2; exact h2
      subst hi
      simp only [e1, e2, List.getElem_toArray, List.getElem_cons_zero]; exact h
  cases h with
  | c h => exact single _ _ rfl (by cases h <;> rfl) h.one (.c h)
  | u v => cases hk
  | wh b a v _ _ => cases hk
  | pin v a _ => cases hk
  | own id off len cap ad h1 h2 h3 h4 h5 h6 h7 h8 => exact single _ _ rfl rfl rfl (.own id off len cap ad h1 h2 h3 h4 h5 h6 h7 h8)
  | ownn id off len h1 h2 h3 h4 h5 => exact single _ _ rfl rfl rfl (.ownn id off len h1 h2 h3 h4 h5)
  | gr id cap ad h1 h2 h3 h4 h5 => exact single _ _ rfl rfl rfl (.gr id cap ad h1 h2 h3 h4 h5)
  | grn id h1 h2 h3 => exact single _ _ rfl rfl rfl (.grn id h1 h2 h3)
  | ptr id off h h' => exact single _ _ rfl rfl rfl (.ptr id off h h')
  | eptr id i off h h1 h2 h3 => exact single _ _ rfl rfl rfl (.eptr id i off h h1 h2 h3)
  | el lay xs i off b o vs h1 h2 h3 h4 => exact single _ _ rfl rfl rfl (.el lay xs i off b o vs h1 h2 h3 h4)
  | np => exact single _ _ rfl rfl rfl .np
  | map id h h' => exact single _ _ rfl rfl rfl (.map id h h')
  | nm => exact single _ _ rfl rfl rfl .nm
  | fn f cap vs h1 h2 => exact single _ _ rfl rfl rfl (.fn f cap vs h1 h2)
  | nf => exact single _ _ rfl rfl rfl .nf
  | agg l vs hl h1 h => exact ⟨hl, h1, h⟩
  | tup l vs hl h => cases hk

theorem sets_length {α : Type} (vs : List α) : ∀ (l : List α) (off : Nat), (sets l off vs).length = l.length := by
  induction vs with
  | nil => intro l off; rfl
  | cons v vs ih => intro l off; rw [sets, ih]; simp

theorem sets_get {α : Type} (vs : List α) : ∀ (l : List α) (off i : Nat), (sets l off vs)[i]? = if off ≤ i ∧ i < off + vs.length ∧ i < l.length then vs[i - off]? else l[i]? := by
  induction vs with
  | nil => intro l off i; simp [sets]; intro h1 h2; omega
  | cons v vs ih =>
    intro l off i
    rw [sets, ih]
    simp only [List.length_set, List.length_cons]
    by_cases h : off + 1 ≤ i ∧ i < off + 1 + vs.length ∧ i < l.length
    · rw [if_pos h, if_pos (by omega), show i - off = (i - (off + 1)) + 1 by omega, List.getElem?_cons_succ]
    · rw [if_neg h]
      by_cases hi : i = off
      · subst hi
        by_cases hl : i < l.length
        · rw [if_pos (by omega)]; simp [hl]
        · rw [if_neg (by omega)]; simp [hl]
      · rw [if_neg (by omega), List.getElem?_set_ne (Ne.symm hi)]

/-- The cells of a value under construction. -/
def CellsR (G : Gh) (l : List A) (cs : Array Value) : Prop :=
  cs.size = l.length ∧ (∀ i (h : i < cs.size), cs[i].oneCell' = true) ∧ ∀ i (_ : i < l.length) (_ : i < cs.size), VR G l[i] cs[i]

theorem fold_cells (l : List Value) : ∀ (k : Nat) (cs : Array Value) (off : Nat), (l.zipIdx k).foldl (fun cs (x : Value × Nat) => cs.setIfInBounds (off + x.2) x.1) cs = (sets cs.toList (off + k) l).toArray := by
  induction l with
  | nil => intro k cs off; simp [sets]
  | cons v l ih =>
    intro k cs off
    simp only [List.zipIdx_cons, List.foldl_cons]
    rw [ih (k + 1)]
    simp [sets, Nat.add_assoc]

theorem CellsR.sets {l : List A} {cs : Array Value} (h : CellsR G l cs) {as : List A} {vs : Array Value} (hv : CellsR G as vs) (off : Nat) :
    CellsR G (sets l off as) (sets cs.toList off vs.toList).toArray := by
  obtain ⟨h1, h2, h3⟩ := h
  obtain ⟨k1, k2, k3⟩ := hv
  have key : ∀ i (hi : i < l.length), (∃ (q1 : i - off < as.length) (q2 : i - off < vs.size), (Eng.sets l off as)[i]? = some as[i - off] ∧ (Eng.sets cs.toList off vs.toList)[i]? = some vs[i - off]) ∨
      (∃ (q2 : i < cs.size), (Eng.sets l off as)[i]? = some l[i] ∧ (Eng.sets cs.toList off vs.toList)[i]? = some cs[i]) := by
    intro i hi
    have hi2 : i < cs.size := by omega
    rw [sets_get, sets_get]
    by_cases hc : off ≤ i ∧ i < off + as.length
    · left
      refine ⟨by omega, by omega, ?_, ?_⟩
      · rw [if_pos ⟨hc.1, hc.2, hi⟩]; exact List.getElem?_eq_getElem (by omega)
      · rw [if_pos ⟨hc.1, by simp; omega, by simpa using hi2⟩]; simp
    · right
      refine ⟨hi2, ?_, ?_⟩
      · rw [if_neg (by omega)]; exact List.getElem?_eq_getElem hi
      · rw [if_neg (by simp; omega)]; simp [hi2]
  refine ⟨by simp [sets_length, h1], fun i h => ?_, fun i hi1 hi2 => ?_⟩
  · have hi : i < l.length := by simpa [sets_length, h1] using h
    rcases key i hi with ⟨q1, q2, _, e2⟩ | ⟨q2, _, e2⟩
    · have : (Eng.sets cs.toList off vs.toList)[i]'(by simpa using h) = vs[i - off] := (List.getElem?_eq_some_iff.1 e2).2
      simp only [List.getElem_toArray, this]; exact k2 _ q2
    · have : (Eng.sets cs.toList off vs.toList)[i]'(by simpa using h) = cs[i] := (List.getElem?_eq_some_iff.1 e2).2
      simp only [List.getElem_toArray, this]; exact h2 _ q2
  · have hi : i < l.length := by simpa [sets_length] using hi1
    rcases key i hi with ⟨q1, q2, e1, e2⟩ | ⟨q2, e1, e2⟩
    · have f1 : (Eng.sets l off as)[i]'hi1 = as[i - off] := (List.getElem?_eq_some_iff.1 e1).2
      have f2 : (Eng.sets cs.toList off vs.toList)[i]'(by simpa using hi2) = vs[i - off] := (List.getElem?_eq_some_iff.1 e2).2
      simp only [List.getElem_toArray, f1, f2]; exact k3 _ q1 q2
    · have f1 : (Eng.sets l off as)[i]'hi1 = l[i] := (List.getElem?_eq_some_iff.1 e1).2
      have f2 : (Eng.sets cs.toList off vs.toList)[i]'(by simpa using hi2) = cs[i] := (List.getElem?_eq_some_iff.1 e2).2
      simp only [List.getElem_toArray, f1, f2]; exact h3 _ hi q2

/-- The parts of a struct or of a literal, put in their places. -/
theorem fill_sound {ev : Opd → A} {place : Nat → Option (Nat × Nat)} : ∀ (ps : List (Nat × Operand)) (qs : List (Nat × Nat × Opd)) (l : List A) (cs : Array Value), CellsR G l cs →
    (∀ i (h1 : i < ps.length) (h2 : i < qs.length), place ps[i].1 = some (qs[i].1, qs[i].2.1) ∧ qs[i].2.2 = opd ps[i].2) → ps.length = qs.length →
    (∀ x ∈ ps.map (·.2), VR G (ev (opd x)) (ρ x)) → fillOk ev l.length qs = true →
    ∃ r, Instr.fill place cs (ps.map fun p => (p.1, ρ p.2)) = some r ∧ CellsR G (fillA ev l qs) r
  | [], [], l, cs, h, _, _, _, _ => ⟨cs, rfl, h⟩
  | [], _ :: _, _, _, _, _, h, _, _ => by simp at h
  | _ :: _, [], _, _, _, _, h, _, _ => by simp at h
  | p :: ps, (off, sz, x) :: qs, l, cs, h, hp, hl, hv, hok => by
    obtain ⟨e1, e2⟩ := hp 0 (by simp) (by simp)
    simp only [List.getElem_cons_zero] at e1 e2
    subst e2
    simp only [fillOk, Bool.and_eq_true, Nat.beq_eq, Nat.ble_eq] at hok
    obtain ⟨⟨⟨hk, hsz⟩, hoff⟩, hok⟩ := hok
    have hx := hv p.2 (by simp)
    obtain ⟨c1, c2, c3⟩ := hx.known_cells hk
    have hcs := h.sets (as := cellsOf (ev (opd p.2))) (vs := (ρ p.2).cells) ⟨c1, c2, c3⟩ off
    have hfold : (ρ p.2).cells.zipIdx.foldl (fun cs (x : Value × Nat) => cs.setIfInBounds (off + x.2) x.1) cs = (sets cs.toList off (ρ p.2).cells.toList).toArray := by
      rw [← Array.foldl_toList, Array.toList_zipIdx]
      exact fold_cells _ 0 cs off
    obtain ⟨r, hr, hR⟩ := fill_sound (ev := ev) (place := place) ps qs _ _ hcs (fun i h1 h2 => by
      have := hp (i + 1) (by simp; omega) (by simp; omega)
      simpa using this) (by simpa using hl) (fun x hx => hv x (by simp at hx ⊢; exact .inr hx)) (by rw [sets_length]; exact hok)
    refine ⟨r, ?_, hR⟩
    have g1 : ((ρ p.2).cells.size ≠ sz || decide (off + (ρ p.2).cells.size > cs.size)) = false := by
      have := h.1
      simp; omega
    simp only [List.map_cons, Instr.fill, e1, g1, Bool.false_eq_true, if_false]
    rw [hfold]
    exact hr

theorem run_mapM {α β : Type} {f : α → Sem β} {g : α → β} : ∀ (l : List α), (∀ x ∈ l, (f x).run P w = .ok (g x) w) → (l.mapM f).run P w = .ok (l.map g) w
  | [], _ => by simp
  | x :: l, h => by
    rw [List.mapM_cons]
    simp [h x (by simp), run_mapM l (fun y hy => h y (by simp [hy]))]

theorem run_mapM_array {α β : Type} {f : α → Sem β} {g : α → β} (l : Array α) (h : ∀ x ∈ l, (f x).run P w = .ok (g x) w) : (l.mapM f).run P w = .ok (l.map g) w := by
  obtain ⟨l⟩ := l
  rw [List.mapM_toArray]
  simp [run_mapM l (fun x hx => h x (by simpa using hx))]

theorem cellsR_zero (z : Value) (h : z.cells.all (·.oneCell') = true) : CellsR G (z.cells.toList.map toA1) z.cells := by
  refine ⟨by simp, fun i hi => Array.all_eq_true_iff_forall_mem.1 h _ (Array.getElem_mem hi), fun i h1 h2 => ?_⟩
  simp only [List.getElem_map, Array.getElem_toList]
  exact VR_toA1 G _

theorem buildS_sound {t : TypeId} {fs : Array Field} {ps : Array (Nat × Operand)} {qs : List (Nat × Nat × Opd)} {inf : TypeInfo} {z : Value} {ev : Opd → A} (ho : o.op = .build t ps) (hu : P.underlying t = some (.struct fs))
    (hi : P.info? t = some inf) (hz : inf.zero = some z) (hone : z.cells.all (·.oneCell') = true) (hfs : ∀ f ∈ fs, (P.info? f.type).isSome = true)
    (hqs : ∀ i (h1 : i < ps.toList.length) (h2 : i < qs.length), (fs[ps.toList[i].1]?.map fun f => (f.offset, P.cellsOf f.type)) = some (qs[i].1, qs[i].2.1) ∧ qs[i].2.2 = opd ps.toList[i].2) (hl : ps.toList.length = qs.length)
    (hx : ∀ x ∈ ps.toList.map (·.2), VR G (ev (opd x)) (ρ x))
    (h : AllP (chk (fillOk ev (z.cells.toList.map toA1).length qs) (.q [] (.agg (fillA ev (z.cells.toList.map toA1) qs)))).p) : Yl P G ρ o w (chk (fillOk ev (z.cells.toList.map toA1).length qs) (.q [] (.agg (fillA ev (z.cells.toList.map toA1) qs)))) := by
  obtain ⟨hok, _⟩ := chk_p h
  rw [chk_true hok]
  have hm : (fs.mapM fun f => (do pure (f.offset, ← sizeOf f.type) : Sem (Nat × Nat))).run P w = .ok (fs.map fun f => (f.offset, P.cellsOf f.type)) w := by
    refine run_mapM_array fs fun f hf => ?_
    obtain ⟨i, hi⟩ := Option.isSome_iff_exists.1 (hfs f hf)
    simp [sizeOf, typeInfo, hi, Program.cellsOf]
  obtain ⟨r, hr, hR⟩ := fill_sound (ρ := ρ) (ev := ev) (place := fun i => (fs.map fun f => (f.offset, P.cellsOf f.type))[i]?) ps.toList qs _ _ (cellsR_zero (G := G) z hone) (fun i h1 h2 => by
    obtain ⟨e1, e2⟩ := hqs i h1 h2
    exact ⟨by simpa using e1, e2⟩) hl hx hok
  have hz0 : (zeroValue t).run P w = .ok z w := by simp [zeroValue, typeInfo, hi, hz]
  refine ⟨rfl, .agg r, ?_, .agg _ _ hR.1 hR.2.1 hR.2.2⟩
  have hps : (ps.map fun (x : Nat × Operand) => (x.1, ρ x.2)).toList = ps.toList.map fun p => (p.1, ρ p.2) := by simp
  simp only [execOp, ho, Instr.build, Sem.run_bind, hz0, Result.andThen_ok, run_underlying hu, hm]
  rw [hps, hr]
  simp

theorem buildA_sound {t e : TypeId} {len : Nat} {ps : Array (Nat × Operand)} {qs : List (Nat × Nat × Opd)} {inf einf : TypeInfo} {z : Value} {ev : Opd → A} (ho : o.op = .build t ps) (hu : P.underlying t = some (.array len e))
    (hi : P.info? t = some inf) (hz : inf.zero = some z) (hone : z.cells.all (·.oneCell') = true) (hei : P.info? e = some einf)
    (hqs : ∀ i (h1 : i < ps.toList.length) (h2 : i < qs.length), (ps.toList[i].1 * einf.size, einf.size) = (qs[i].1, qs[i].2.1) ∧ qs[i].2.2 = opd ps.toList[i].2) (hl : ps.toList.length = qs.length)
    (hx : ∀ x ∈ ps.toList.map (·.2), VR G (ev (opd x)) (ρ x))
    (h : AllP (chk (fillOk ev (z.cells.toList.map toA1).length qs) (.q [] (.agg (fillA ev (z.cells.toList.map toA1) qs)))).p) : Yl P G ρ o w (chk (fillOk ev (z.cells.toList.map toA1).length qs) (.q [] (.agg (fillA ev (z.cells.toList.map toA1) qs)))) := by
  obtain ⟨hok, _⟩ := chk_p h
  rw [chk_true hok]
  obtain ⟨r, hr, hR⟩ := fill_sound (ρ := ρ) (ev := ev) (place := fun i => some (i * einf.size, einf.size)) ps.toList qs _ _ (cellsR_zero (G := G) z hone) (fun i h1 h2 => by
    obtain ⟨e1, e2⟩ := hqs i h1 h2
    exact ⟨by rw [← e1], e2⟩) hl hx hok
  have hz0 : (zeroValue t).run P w = .ok z w := by simp [zeroValue, typeInfo, hi, hz]
  have hs0 : (sizeOf e).run P w = .ok einf.size w := by simp [sizeOf, typeInfo, hei]
  refine ⟨rfl, .agg r, ?_, .agg _ _ hR.1 hR.2.1 hR.2.2⟩
  have hps : (ps.map fun (x : Nat × Operand) => (x.1, ρ x.2)).toList = ps.toList.map fun p => (p.1, ρ p.2) := by simp
  simp only [execOp, ho, Instr.build, Sem.run_bind, hz0, Result.andThen_ok, run_underlying hu, hs0]
  rw [hps, hr]
  simp

end ops
end Go.Eng

/- An abstract machine over plain data, part G: comparison of structs, nil, choice; all quiet operations. -/
namespace Go.Eng
open Go.RowKit
section ops
variable {P : Program} {w0 : Base} {w : World} {G : Gh} {H : List O} {ρ : Operand → Value} {rs : FuncId → List A → Nat → C} {pk : FuncId → List (Bool × List LK) → List A → Prop} {o : Oper}

/-- '==' of two lists of cells that are numbers, bools and strings. -/
def ceq : List A → List A → Bool
  | [], [] => true
  | .c (.int _ a) :: x, .c (.int _ b) :: y => a == b && ceq x y
  | .c (.bool a) :: x, .c (.bool b) :: y => a == b && ceq x y
  | .c (.str a) :: x, .c (.str b) :: y => a.toList == b.toList && ceq x y
  | _, _ => false
theorem ceqE_base : ∀ a b, ceqE (baseE rs pk) a b = ceq a b := by
  intro a b
  induction a, b using ceq.induct <;> simp_all [ceq, ceqE, baseE]

theorem LK.ok_int {k : IntKind} {x : A} (h : LK.ok (.int k) x = true) : ∃ n, x = .c (.int k n) := by
  cases x <;> simp [LK.ok] at h
  rename_i c
  cases c <;> simp [LK.ok] at h
  subst h; exact ⟨_, rfl⟩
theorem LK.ok_bool {x : A} (h : LK.ok .bool x = true) : ∃ b, x = .c (.bool b) := by
  cases x <;> simp [LK.ok] at h
  rename_i c
  cases c <;> simp [LK.ok] at h
  exact ⟨_, rfl⟩
theorem LK.ok_str {x : A} (h : LK.ok .str x = true) : ∃ s, x = .c (.str s) := by
  cases x <;> simp [LK.ok] at h
  rename_i c
  cases c <;> simp [LK.ok] at h
  exact ⟨_, rfl⟩

theorem fits_length : ∀ {ls : List LK} {a : List A}, fits ls a = true → a.length = ls.length
  | [], [], _ => rfl
  | [], _ :: _, h => by simp [fits] at h
  | _ :: _, [], h => by simp [fits] at h
  | l :: ls, a :: as, h => by simp only [fits, Bool.and_eq_true] at h; simp [fits_length h.2]

theorem fits_append : ∀ {ls ls' : List LK} {a : List A}, fits (ls ++ ls') a = true → fits ls (a.take ls.length) = true ∧ fits ls' (a.drop ls.length) = true
  | [], ls', a, h => by simpa [fits] using h
  | l :: ls, ls', [], h => by simp [fits] at h
  | l :: ls, ls', a :: as, h => by
    simp only [List.cons_append, fits, Bool.and_eq_true] at h
    obtain ⟨h1, h2⟩ := fits_append h.2
    exact ⟨by simp [fits, h.1, h1], by simpa using h2⟩

theorem ceq_append : ∀ {ls : List LK} {a b c d : List A}, fits ls a = true → fits ls b = true → ceq (a ++ c) (b ++ d) = (ceq a b && ceq c d)
  | [], [], [], c, d, _, _ => by simp [ceq]
  | [], _ :: _, _, _, _, h, _ => by simp [fits] at h
  | [], [], _ :: _, _, _, _, h => by simp [fits] at h
  | _ :: _, [], _, _, _, h, _ => by simp [fits] at h
  | _ :: _, _ :: _, [], _, _, _, h => by simp [fits] at h
  | l :: ls, x :: a, y :: b, c, d, h1, h2 => by
    simp only [fits, Bool.and_eq_true] at h1 h2
    have ih := ceq_append (c := c) (d := d) h1.2 h2.2
    cases l with
    | int k => obtain ⟨p, rfl⟩ := LK.ok_int h1.1; obtain ⟨q, rfl⟩ := LK.ok_int h2.1; simp [ceq, ih, Bool.and_assoc]
    | bool => obtain ⟨p, rfl⟩ := LK.ok_bool h1.1; obtain ⟨q, rfl⟩ := LK.ok_bool h2.1; simp [ceq, ih, Bool.and_assoc]
    | str => obtain ⟨p, rfl⟩ := LK.ok_str h1.1; obtain ⟨q, rfl⟩ := LK.ok_str h2.1; simp [ceq, ih, Bool.and_assoc]
    | sl lay => have := h1.1; cases x <;> simp [LK.ok] at this
    | mp kk row lay => have := h1.1; cases x <;> simp [LK.ok] at this

/-- A value of a type, and its cells. -/
def Vof (G : Gh) (P : Program) (t : TypeId) (v : Value) (c : List A) : Prop :=
  (∃ fs cs, P.underlying t = some (.struct fs) ∧ v = .agg cs ∧ CellsR G c cs) ∨ ((∀ fs, P.underlying t ≠ some (.struct fs)) ∧ ∃ x, c = [x] ∧ VR G x v)

def leavesF (P : Program) (d : Nat) (acc : Option (List LK)) (f : Field) : Option (List LK) :=
  acc.bind fun ls => if f.offset = ls.length ∧ f.name ≠ "_" ∧ (P.info? f.type).isSome then
        (leavesT P d f.type).bind fun l => if P.cellsOf f.type = l.length then some (ls ++ l) else none else none

theorem leavesF_none (P : Program) (d : Nat) (fs : List Field) : fs.foldl (leavesF P d) none = none := by
  induction fs with
  | nil => rfl
  | cons f fs ih => simpa [leavesF] using ih

theorem leavesT_row {d : Nat} {t : TypeId} {l : List LK} (h : leavesT P d t = some l) : (∃ fs, P.underlying t = some (.struct fs)) ∨ (l.length = 1 ∧ ∃ k, P.underlying t = some k ∧ k.isRow = false) := by
  cases d with
  | zero => simp [leavesT] at h
  | succ d =>
    unfold leavesT at h
    split at h
    · rename_i e; cases h; exact .inr ⟨rfl, _, e, rfl⟩
    · rename_i e; cases h; exact .inr ⟨rfl, _, e, rfl⟩
    · rename_i e; cases h; exact .inr ⟨rfl, _, e, rfl⟩
    · rename_i fs e; exact .inl ⟨fs, e⟩
    · cases h

/-- A field's value, read out of the whole. -/
theorem part_plain {d : Nat} {t : TypeId} {l : List LK} {a : List A} {cs : Array Value} (h : leavesT P d t = some l) (hs : (P.info? t).isSome = true) (hc : P.cellsOf t = l.length) (hR : CellsR G a cs) (off : Nat)
    (hoff : off + l.length ≤ a.length) : ∃ v, (part t cs off).run P w = .ok v w ∧ Vof G P t v ((a.drop off).take l.length) := by
  obtain ⟨i, hi⟩ := Option.isSome_iff_exists.1 hs
  have hsz : (sizeOf t).run P w = .ok l.length w := by simp [sizeOf, typeInfo, hi, ← hc, Program.cellsOf]
  obtain ⟨h1, h2, h3⟩ := hR
  rcases leavesT_row h with ⟨fs, hu⟩ | ⟨hl, k, hu, hk⟩
  · refine ⟨.agg (cs.extract off (off + l.length)), ?_, .inl ⟨fs, _, hu, rfl, by simp; omega, fun j hj => ?_, fun j hj1 hj2 => ?_⟩⟩
    · simp [part, isAgg, run_underlying hu, hsz]
    · simp at hj ⊢; exact h2 _ (by omega)
    · simp at hj1 hj2 ⊢; exact h3 _ (by omega) (by omega)
  · have hlt : off < cs.size := by omega
    have hagg : (isAgg t).run P w = .ok false w := by
      unfold isAgg
      rw [Sem.run_bind, run_underlying hu w]
      cases k <;> simp_all
    refine ⟨cs[off], by simp [part, hagg, hlt], .inr ⟨fun fs e => ?_, a[off], ?_, h3 _ (by omega) hlt⟩⟩
    · rw [hu] at e; cases e; cases hk
    · rw [hl]
      have hlt' : off < a.length := by omega
      rw [List.drop_eq_getElem_cons hlt']
      rfl

theorem eqf_plain (d : Nat) (IH : ∀ (t : TypeId) (ls : List LK), leavesT P d t = some ls → ∀ (m : Nat) (v1 v2 : Value) (c1 c2 : List A), fits ls c1 = true → fits ls c2 = true →
    Vof G P t v1 c1 → Vof G P t v2 c2 → (Op.equalIn (m + d) t v1 v2).run P w = .ok (ceq c1 c2) w) (m : Nat) (xs ys : Array Value) (a b : List A) (hA : CellsR G a xs) (hB : CellsR G b ys) :
    ∀ (fs : List Field) (acc ls : List LK), fs.foldl (leavesF P d) (some acc) = some ls →
      ∃ rest, ls = acc ++ rest ∧ (fits rest (a.drop acc.length) = true → fits rest (b.drop acc.length) = true → acc.length ≤ a.length → acc.length ≤ b.length →
        (Op.eqFields (m + d) xs ys fs).run P w = .ok (ceq (a.drop acc.length) (b.drop acc.length)) w)
  | [], acc, ls, h => by
    simp at h
    subst h
    refine ⟨[], by simp, fun f1 f2 _ _ => ?_⟩
    have l1 : a.drop acc.length = [] := List.length_eq_zero_iff.1 (fits_length f1)
    have l2 : b.drop acc.length = [] := List.length_eq_zero_iff.1 (fits_length f2)
    rw [l1, l2]
    simp [Op.eqFields, ceq]
  | f :: fs, acc, ls, h => by
    rw [List.foldl_cons] at h
    cases hl : leavesF P d (some acc) f with
    | none => rw [hl, leavesF_none] at h; cases h
    | some acc' =>
      rw [hl] at h
      simp only [leavesF, Option.bind_some] at hl
      split at hl
      · rename_i hc
        obtain ⟨c1, c2, c3⟩ := hc
        cases hlt : leavesT P d f.type with
        | none => simp [hlt] at hl
        | some l =>
          simp only [hlt, Option.bind_some] at hl
          split at hl
          · rename_i hsz
            cases hl
            obtain ⟨rest, e, ih⟩ := eqf_plain d IH m xs ys a b hA hB fs _ _ h
            refine ⟨l ++ rest, by rw [e]; simp, fun f1 f2 g1 g2 => ?_⟩
            obtain ⟨p1, p2⟩ := fits_append f1
            obtain ⟨q1, q2⟩ := fits_append f2
            have la := fits_length f1
            have lb := fits_length f2
            simp at la lb
            obtain ⟨u, hu, Vu⟩ := part_plain (w := w) hlt c3 hsz hA f.offset (by omega)
            obtain ⟨v, hv, Vv⟩ := part_plain (w := w) hlt c3 hsz hB f.offset (by omega)
            rw [c1] at Vu Vv
            have he := IH f.type l hlt m u v _ _ p1 q1 Vu Vv
            rw [List.drop_drop] at p2 q2
            rw [List.length_append] at ih
            have ihr := ih p2 q2 (by omega) (by omega)
            have hsplit : ceq (a.drop acc.length) (b.drop acc.length) = (ceq ((a.drop acc.length).take l.length) ((b.drop acc.length).take l.length) && ceq (a.drop (acc.length + l.length)) (b.drop (acc.length + l.length))) := by
              rw [← ceq_append p1 q1, ← List.drop_drop, ← List.drop_drop, List.take_append_drop, List.take_append_drop]
            rw [hsplit]
            simp only [Op.eqFields, if_pos c2, Sem.run_bind, hu, hv, he, Result.andThen_ok, Sem.run_ite, Sem.run_pure]
            cases hcq : ceq ((a.drop acc.length).take l.length) ((b.drop acc.length).take l.length) with
            | true => simpa using ihr
            | false => simp
          · cases hl
      · cases hl

theorem equal_plain : ∀ (d : Nat) (t : TypeId) (ls : List LK), leavesT P d t = some ls → ∀ (m : Nat) (v1 v2 : Value) (c1 c2 : List A), fits ls c1 = true → fits ls c2 = true →
    Vof G P t v1 c1 → Vof G P t v2 c2 → (Op.equalIn (m + d) t v1 v2).run P w = .ok (ceq c1 c2) w
  | 0, t, ls, h => by simp [leavesT] at h
  | d + 1, t, ls, h => by
    intro m v1 v2 c1 c2 f1 f2 V1 V2
    have scal : ∀ (lk : LK), ls = [lk] → (∀ fs, P.underlying t ≠ some (.struct fs)) → (∀ (x y : A) (u1 u2 : Value), lk.ok x = true → lk.ok y = true → VR G x u1 → VR G y u2 → (Op.equalIn (m + d + 1) t u1 u2).run P w = .ok (ceq [x] [y]) w) →
        (Op.equalIn (m + (d + 1)) t v1 v2).run P w = .ok (ceq c1 c2) w := by
      intro lk hls hns hq
      subst hls
      rcases V1 with ⟨fs, _, hu, _⟩ | ⟨_, x, rfl, r1⟩
      · exact absurd hu (hns fs)
      rcases V2 with ⟨fs, _, hu, _⟩ | ⟨_, y, rfl, r2⟩
      · exact absurd hu (hns fs)
      simp only [fits, Bool.and_true] at f1 f2
      exact hq x y v1 v2 f1 f2 r1 r2
    have h' := h
    unfold leavesT at h
    split at h
    · rename_i k hu
      cases h
      refine scal _ rfl (fun fs e => by rw [hu] at e; cases e) fun x y u1 u2 o1 o2 r1 r2 => ?_
      obtain ⟨p, rfl⟩ := LK.ok_int o1
      obtain ⟨q, rfl⟩ := LK.ok_int o2
      rw [r1.int, r2.int, run_equalIn_int w _ t _ _ _ _ hu]
      simp [ceq]
    · rename_i hu
      cases h
      refine scal _ rfl (fun fs e => by rw [hu] at e; cases e) fun x y u1 u2 o1 o2 r1 r2 => ?_
      obtain ⟨p, rfl⟩ := LK.ok_bool o1
      obtain ⟨q, rfl⟩ := LK.ok_bool o2
      rw [r1.bool, r2.bool, run_equalIn_bool' w _ t _ _ hu]
      simp [ceq]
    · rename_i hu
      cases h
      refine scal _ rfl (fun fs e => by rw [hu] at e; cases e) fun x y u1 u2 o1 o2 r1 r2 => ?_
      obtain ⟨p, rfl⟩ := LK.ok_str o1
      obtain ⟨q, rfl⟩ := LK.ok_str o2
      rw [r1.str, r2.str]
      simp [Op.equalIn, run_underlying hu, ceq, beq_toListBytes]
    · rename_i fs hu
      split at h
      · cases h
      · rename_i hst
        have hst' : P.stoodInHeld t = false := by simpa using hst
        have hf : P.fieldsOf t = fs := by simp [Program.fieldsOf, hu]
        obtain ⟨xs, rfl, hA⟩ : ∃ cs, v1 = .agg cs ∧ CellsR G c1 cs := by
          rcases V1 with ⟨_, xs, _, e, hA⟩ | ⟨hns, _⟩
          · exact ⟨xs, e, hA⟩
          · exact absurd hu (hns fs)
        obtain ⟨ys, rfl, hB⟩ : ∃ cs, v2 = .agg cs ∧ CellsR G c2 cs := by
          rcases V2 with ⟨_, xs, _, e, hA⟩ | ⟨hns, _⟩
          · exact ⟨xs, e, hA⟩
          · exact absurd hu (hns fs)
        obtain ⟨rest, e, ih⟩ := eqf_plain d (fun t ls hl m v1 v2 c1 c2 => equal_plain d t ls hl m v1 v2 c1 c2) m xs ys c1 c2 hA hB fs.toList [] ls h
        simp at e
        subst e
        have := ih f1 f2 (by simp) (by simp)
        rw [show m + (d + 1) = (m + d) + 1 by omega, run_equalIn_struct w (m + d) t xs ys (by rw [hf]; exact hu) hst', hf]
        simpa using this
    · cases h

theorem eqs_sound {op : BinOp} {neg : Bool} (hop : op = if neg then .neq else .eql) {t yT : TypeId} {x y : Operand} {a b : A} {ls : List LK} {fs : Array Field} (ho : o.op = .binOp op t x y yT) (hu : P.underlying t = some (.struct fs))
    (hls : leavesT P 20 t = some ls) (hg : P.eqGuardType P.depth t = false) (hx : VR G a (ρ x)) (hy : VR G b (ρ y)) {r : Rs}
    (hr : r = match (generalizing := false) a, b with
    | .agg a, .agg b => chk (fits ls a && fits ls b) (.q [] (.c (.bool (if neg then (baseE rs pk).not (ceqE (baseE rs pk) a b) else ceqE (baseE rs pk) a b))))
    | _, _ => stuck) (h : AllP r.p) : Yl P G ρ o w r := by
  subst hr
  revert h
  split
  · rename_i a b
    intro h
    obtain ⟨hf, _⟩ := chk_p h
    rw [chk_true hf]
    simp only [Bool.and_eq_true] at hf
    obtain ⟨f1, f2⟩ := hf
    refine ⟨rfl, _, ?_, .c (.bool _)⟩
    obtain ⟨vs, e1, r1, r2, r3⟩ := hx.agg_inv
    obtain ⟨us, e2, q1, q2, q3⟩ := hy.agg_inv
    have he : (Op.equal t (.agg vs) (.agg us)).run P w = .ok (ceq a b) w :=
      equal_plain 20 t ls hls 9980 _ _ a b f1 f2 (.inl ⟨fs, vs, hu, rfl, r1, r2, r3⟩) (.inl ⟨fs, us, hu, rfl, q1, q2, q3⟩)
    subst hop
    rw [ceqE_base]
    cases neg <;> simp [execOp, ho, e1, e2, eqGuard, hg, binOp, he, baseE]
  · exact Yl.no

theorem eqn_sound {op : BinOp} {neg : Bool} (hop : op = if neg then .neq else .eql) {t yT : TypeId} {x : Operand} {c : Value} {d : TypeDesc} {a : A} {kd : Nat} (ho : o.op = .binOp op t x (.const c) yT) (ht : P.underlying t = some d)
    (hc : nilKind d c = some kd) (hcv : ρ (.const c) = c)
    (hx : VR G a (ρ x)) {b : Bool} (hb : isNil kd a = some b) : Yl P G ρ o w (.q [] (.c (.bool (if neg then !b else b)))) := by
  refine ⟨rfl, _, ?_, .c (.bool _)⟩
  have hv := hx
  have fin : ∀ v, ρ x = v → (∀ z, v ≠ .agg z) → (∀ n, (Op.equalIn (n + 1) t v c).run P w = .ok b w) → eqGuard op t x (.const c) v c = pure () →
      binOp op t v c = (if neg then (do pure (.bool (!(← Op.equal t v c)))) else (do pure (.bool (← Op.equal t v c)))) →
      (execOp ρ o).run P w = .ok (.value (.bool (if neg then !b else b))) w := by
    intro v e _ he hg hb
    have he' : (Op.equal t v c).run P w = .ok b w := he 9999
    simp only [execOp, ho, hcv, e, hg, hb, Sem.run_bind, Sem.run_pure, Result.andThen_ok]
    cases neg <;> simp [he']
  unfold nilKind at hc
  unfold isNil at hb
  split at hc <;> cases hc <;> split at hb <;> first | (cases hb; done) | (simp_all; done) | skip
  all_goals (cases hb)
  all_goals (
    first
    | (have e := hv.nil; refine fin _ e (by intro z; simp) ?_ ?_ ?_)
    | (obtain ⟨_, _, e⟩ := hv.ptr_inv; refine fin _ e (by intro z; simp) ?_ ?_ ?_)
    | (obtain ⟨_, _, _, _, e⟩ := hv.eptr_inv; refine fin _ e (by intro z; simp) ?_ ?_ ?_)
    | (obtain ⟨_, _, _, e, _⟩ := hv.el_inv; refine fin _ e (by intro z; simp) ?_ ?_ ?_)
    | (have e := hv.np_inv; refine fin _ e (by intro z; simp) ?_ ?_ ?_)
    | (obtain ⟨_, _, e⟩ := hv.map_inv; refine fin _ e (by intro z; simp) ?_ ?_ ?_)
    | (have e := hv.nm_inv; refine fin _ e (by intro z; simp) ?_ ?_ ?_)
    | (obtain ⟨_, e, _⟩ := hv.fn_inv; refine fin _ e (by intro z; simp) ?_ ?_ ?_)
    | (have e := hv.nf_inv; refine fin _ e (by intro z; simp) ?_ ?_ ?_))
  all_goals first
    | (intro n; simp [Op.equalIn, run_underlying ht]; done)
    | (cases neg <;> subst hop <;> rfl)
    | (cases neg <;> subst hop <;> simp [eqGuard]; done)
    | skip

theorem strip_VR {γ : Bool} {x : A} {v : Value} (h : VR G x v) (hs : AllP (stripOk γ x)) (g : γ = true) : VR G (strip x) v := by
  cases x with
  | wh b y =>
    simp [stripOk] at hs
    cases h with | wh _ _ _ h1 _ => exact h1 (hs.get g)
  | _ => exact h

/-- The choice. -/
theorem pick_sound {c x y : Operand} {p q r : A} (ho : o.op = .pick c x y) (hc : VR G p (ρ c)) (hx : VR G q (ρ x)) (hy : VR G r (ρ y))
    (h : AllP (pickE (baseE rs pk) p q r).p) : Yl P G ρ o w (pickE (baseE rs pk) p q r) := by
  revert h
  unfold pickE
  split
  · rename_i t
    have hrun : (execOp ρ o).run P w = .ok (.value (if t then ρ x else ρ y)) w := by
      simp [execOp, ho, hc.bool, asBool]
    have key : ∀ {l l' : List Cnd}, l = stripOk t q → l' = stripOk ((baseE rs pk).not t) r → AllP (l ++ l') → (t = true → VR G (strip q) (ρ x)) ∧ (t = false → VR G (strip r) (ρ y)) := by
      rintro l l' rfl rfl h
      simp only [AllP_append] at h
      exact ⟨fun e => strip_VR hx h.1 e, fun e => strip_VR hy h.2 (by simp [baseE, e])⟩
    split
    · rename_i b1 b2 e1 e2
      intro h
      obtain ⟨k1, k2⟩ := key rfl rfl h
      refine ⟨rfl, _, hrun, ?_⟩
      cases t with
      | true => have := k1 rfl; rw [e1] at this; exact this
      | false => have := k2 rfl; rw [e2] at this; exact this
    · rename_i k p k' q e1 e2
      intro h
      obtain ⟨hk, h'⟩ := chk_p h
      rw [chk_true hk]
      have hk := eq_of_beq hk
      subst hk
      obtain ⟨k1, k2⟩ := key rfl rfl h'
      refine ⟨rfl, _, hrun, ?_⟩
      cases t with
      | true => have := k1 rfl; rw [e1] at this; exact this
      | false => have := k2 rfl; rw [e2] at this; exact this
    · rename_i l p l' q e1 e2
      intro h
      obtain ⟨hk, h'⟩ := chk_p h
      rw [chk_true hk]
      have hk := LK.beqs_eq _ _ hk
      subst hk
      obtain ⟨k1, k2⟩ := key rfl rfl h'
      refine ⟨rfl, _, hrun, ?_⟩
      cases t with
      | true => have := k1 rfl; rw [e1] at this; exact this
      | false => have := k2 rfl; rw [e2] at this; exact this
    · intro h
      simp only [Rs.q, AllP_append, AllP_cons, Cnd.holds, AllP_nil, and_true] at h
      obtain ⟨h1, rfl⟩ := h
      exact ⟨rfl, _, hrun, strip_VR hy h1 (by simp [baseE])⟩
    · intro h
      simp only [Rs.q, AllP_append, AllP_cons, Cnd.holds, AllP_nil, and_true] at h
      obtain ⟨h1, rfl⟩ := h
      exact ⟨rfl, _, hrun, strip_VR hx h1 rfl⟩
    · exact Yl.no
  · exact Yl.no
end ops
end Go.Eng
