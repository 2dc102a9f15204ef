/- Warehouses: the sort of rolls by their turns. No conditions. -/
import Derived.Test.YtniijahjfbgfpaaVal3
import Derived.Test.YtniijahjfbgfpaaE5
import Derived.Test.YtniijahjfbgfpaaLays
import Derived.Shelf.Small.Wraps
set_option linter.unusedVariables false
set_option linter.unusedSimpArgs false
namespace Go.Proofs.Ytniijahjfbgfpaa.V
open Go Go.Eng
set_option maxRecDepth 1000000
set_option maxHeartbeats 1000000
section
open Go.Shelf Go.RowKit Go.Sort
def iv5 (h : I5) (j : Nat) : Int := match j with
  | 0 => h.1
  | 1 => h.2.1
  | 2 => h.2.2.1
  | 3 => h.2.2.2.1
  | _ => h.2.2.2.2
theorem eCmp : ∀ args w, (callFunc 37 args).run Try.prog w = .ok (.enter 37 args) w := enters_of Try.func37 (by kernel_rfl) rfl
theorem closA (x y : I5) (W : World) : Calls Try.prog 36 #[.agg #[.int .i64 x.1, .int .i64 x.2.1, .int .i64 x.2.2.1, .int .i64 x.2.2.2.1, .int .i64 x.2.2.2.2], .agg #[.int .i64 y.1, .int .i64 y.2.1, .int .i64 y.2.2.1, .int .i64 y.2.2.2.1, .int .i64 y.2.2.2.2]] W fun e w' => e = .returned (.int .i64 (Lib.compareInt (turnOf x) (turnOf y))) ∧ ∃ q os', w' = grow (W.drewN q) os' := by
  have e37 := eCmp
  go_enter Try.func36, Try.ntmps36
  go_wp2_with (go_at_fn 37; refine (Any.cmp_Compare_int Try.cmp37 _ _ _).mono ?_; rintro e w' ⟨rfl, hw⟩; rw [hw])
  go_ret
  exact ⟨rfl, 0, _, by rw [alloc_eq_grow, alloc_eq_grow, grow_grow]; rfl⟩
theorem closB (x y : I5) (W : World) : Calls Try.prog 36 #[.agg (encN iv5 5 x).toArray, .agg (encN iv5 5 y).toArray] W fun e w' => e = .returned (.int .i64 (Lib.compareInt (turnOf x) (turnOf y))) ∧ ∃ q os', w' = grow (W.drewN q) os' := closA x y W
theorem row5_N (m : List I5) : rowsN iv5 5 m = row5 m := List.map_congr_left fun h _ => rfl
theorem c35 : SortC Try.prog 35 := ⟨by kernel_rfl, fun xs K ⟨m, hx, hl, hd, hK⟩ => by
  subst hx
  have h := ACalls.sortN Try.sort35 (n := 5) (by decide) iv5 (fun x y : I5 => Lib.compareInt (turnOf x) (turnOf y)) (swoKey turnOf) Try.isAgg73 Try.sizeOf73 36 (enters_of Try.func36 (by kernel_rfl) rfl) closB 73 m (by omega)
  rw [row5_N] at h
  have h : ACalls Try.prog 35 [.own 0 0 (row5 m).length, .fn 36 []] [.arr 73 C5 (row5 m)] fun r H' => r = .tup [] ∧ ∃ ys : List I5, ys.Perm m ∧ ys.Pairwise (fun a b => ltOf (fun x y : I5 => Lib.compareInt (turnOf x) (turnOf y)) b a = false) ∧ H' = [.arr 73 C5 (rowsN iv5 5 ys)] := by rw [row5_len]; exact h
  refine (ACalls.gr h).mono fun r H' ⟨hr, ys, hp, hs, hH⟩ => ⟨row5 ys, hK ys hp ?_, hr, by rw [hH, row5_N]⟩
  have h1 : ys.Pairwise fun a b => turnOf a ≤ turnOf b := hs.imp fun {a b} h => (ltKey turnOf a b).1 h
  have h2 : ys.Pairwise fun a b => turnOf a ≠ turnOf b := (List.Perm.pairwise_iff (R := fun a b : I5 => turnOf a ≠ turnOf b) (fun {a b} h e => h e.symm) hp).2 hd
  exact (h1.and h2).imp fun {a b} h => by have := h.1; have := h.2; omega⟩
end
end Go.Proofs.Ytniijahjfbgfpaa.V
