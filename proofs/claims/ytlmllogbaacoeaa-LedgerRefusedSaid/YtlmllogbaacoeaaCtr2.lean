/- Ledgers: what the functions that look at a ledger are asked. No conditions. -/
import Derived.Test.YtlmllogbaacoeaaPostQ
set_option linter.unusedVariables false
set_option linter.unusedSimpArgs false
namespace Go.Proofs.Ytlmllogbaacoeaa.V
open Go Go.Eng
set_option maxRecDepth 1000000
set_option maxHeartbeats 1000000
def spNew (K : Prop) : Prop := K
def NewC (P : Program) (f : FuncId) : Prop := hasBody P f = true ∧ ∀ (K : Prop), spNew K → ACalls P f [] [] fun r H' => K ∧ r = .ptr 0 0 ∧ H' = heapL [] []
def spRNew (K : Prop) : Prop := K
def RNewC (P : Program) (f : FuncId) : Prop := hasBody P f = true ∧ ∀ (K : Prop), spRNew K → ACalls P f [] [] fun r H' => K ∧ r = .ptr 0 0 ∧ H' = heapR []
def spNil0 (K : Prop) : Prop := K
def spNil1 (k : Int) (K : Prop) : Prop := K
def spNil2 (k t : Int) (K : Prop) : Prop := K
def spBal (x1 : List (List C)) (x2 : List (Int × C)) (k : Int) (K : Int → Prop) : Prop := K (look x2 k)
def BalC (P : Program) (f : FuncId) : Prop := hasBody P f = true ∧ (∀ (x1 : List (List C)) (x2 : List (Int × C)) (k : Int) (K : Int → Prop), spBal x1 x2 k K →
    ACalls P f [.ptr 0 0, iC k] (heapL x1 x2) fun r H' => ∃ i, K i ∧ r = iC i ∧ H' = heapL x1 x2) ∧ ∀ (k : Int) (K : Prop), spNil1 k K → ACalls P f [.np, iC k] [] fun r H' => K ∧ r = iC 0 ∧ H' = []
def spAt (x1 : List (List C)) (x2 : List (Int × C)) (k t : Int) (K : Int → Prop) : Prop := ∃ ps : List PT, x1 = rowsP ps ∧ (∀ p ∈ ps, chkP p = 0) ∧ ps.length ≤ 512 ∧ K (balT ps k t)
def AtC (P : Program) (f : FuncId) : Prop := hasBody P f = true ∧ (∀ (x1 : List (List C)) (x2 : List (Int × C)) (k t : Int) (K : Int → Prop), spAt x1 x2 k t K →
    ACalls P f [.ptr 0 0, iC k, iC t] (heapL x1 x2) fun r H' => ∃ i, K i ∧ r = iC i ∧ H' = heapL x1 x2) ∧ ∀ (k t : Int) (K : Prop), spNil2 k t K → ACalls P f [.np, iC k, iC t] [] fun r H' => K ∧ r = iC 0 ∧ H' = []
def spPgs (x1 : List (List C)) (x2 : List (Int × C)) (K : List (List C) → Prop) : Prop := ∃ ps : List PT, x1 = rowsP ps ∧ (∀ p ∈ ps, chkP p = 0) ∧ ps.length ≤ 512 ∧ K (rowsP ps)
def PgsC (P : Program) (f : FuncId) : Prop := hasBody P f = true ∧ (∀ (x1 : List (List C)) (x2 : List (Int × C)) (K : List (List C) → Prop), spPgs x1 x2 K →
    ACalls P f [.ptr 0 0] (heapL x1 x2) fun r H' => ∃ l, K l ∧ r = .gr 3 ∧ H' = heapL x1 x2 ++ [.arr 24 PL l]) ∧ ∀ (K : Prop), spNil0 K → ACalls P f [.np] [] fun r H' => K ∧ r = .c .nil ∧ H' = []
/-- The accounts of postings, in the order in which they stand. -/
def accL (ps : List PT) : List Int := ps.flatMap fun p => p.2.2.map (·.1)
def spAcc (x1 : List (List C)) (x2 : List (Int × C)) (K : List (List C) → Int → Prop) : Prop := ∃ ps : List PT, x1 = rowsP ps ∧ (∀ p ∈ ps, chkP p = 0) ∧ ps.length ≤ 512 ∧
  ∀ (ys : List (List C)) (zs : List Int), zs.Pairwise (· < ·) → (∀ k, k ∈ zs ↔ k ∈ accL ps) → zs.length ≤ ys.length → ys.take zs.length = rowsI zs → K ys (zs.length : Int)
def AccC (P : Program) (f : FuncId) : Prop := hasBody P f = true ∧ (∀ (x1 : List (List C)) (x2 : List (Int × C)) (K : List (List C) → Int → Prop), spAcc x1 x2 K →
    ACalls P f [.ptr 0 0] (heapL x1 x2) fun r H' => ∃ l n, K l n ∧ r = .own 3 0 n ∧ H' = heapL x1 x2 ++ [.arr 3 [.int .i64] l]) ∧ ∀ (K : Prop), spNil0 K → ACalls P f [.np] [] fun r H' => K ∧ r = .c .nil ∧ H' = []
def CopyC (P : Program) (f : FuncId) : Prop := hasBody P f = true ∧ ∀ (K : Prop), spNil0 K → ACalls P f [.np] [] fun r H' => K ∧ r = .np ∧ H' = []
def spRBal (x1 : List (List C)) (k : Int) (K : Int → Prop) : Prop := ∃ ps : List PT, x1 = rowsP ps ∧ (∀ p ∈ ps, chkP p = 0) ∧ ps.length ≤ 512 ∧ K (bal ps k)
def RBalC (P : Program) (f : FuncId) : Prop := hasBody P f = true ∧ ∀ (x1 : List (List C)) (k : Int) (K : Int → Prop), spRBal x1 k K → ACalls P f [.ptr 0 0, iC k] (heapR x1) fun r H' => ∃ i, K i ∧ r = iC i ∧ H' = heapR x1
def spRAt (x1 : List (List C)) (k t : Int) (K : Int → Prop) : Prop := ∃ ps : List PT, x1 = rowsP ps ∧ (∀ p ∈ ps, chkP p = 0) ∧ ps.length ≤ 512 ∧ K (balT ps k t)
def RAtC (P : Program) (f : FuncId) : Prop := hasBody P f = true ∧ ∀ (x1 : List (List C)) (k t : Int) (K : Int → Prop), spRAt x1 k t K → ACalls P f [.ptr 0 0, iC k, iC t] (heapR x1) fun r H' => ∃ i, K i ∧ r = iC i ∧ H' = heapR x1
def spRPgs (x1 : List (List C)) (K : List (List C) → Prop) : Prop := ∃ ps : List PT, x1 = rowsP ps ∧ (∀ p ∈ ps, chkP p = 0) ∧ ps.length ≤ 512 ∧ K (rowsP ps)
def RPgsC (P : Program) (f : FuncId) : Prop := hasBody P f = true ∧ ∀ (x1 : List (List C)) (K : List (List C) → Prop), spRPgs x1 K → ACalls P f [.ptr 0 0] (heapR x1) fun r H' => ∃ l, K l ∧ r = .gr 1 ∧ H' = heapR x1 ++ [.arr 24 PL l]
def spRAcc (x1 : List (List C)) (K : List (List C) → Prop) : Prop := ∃ ps : List PT, x1 = rowsP ps ∧ (∀ p ∈ ps, chkP p = 0) ∧ ps.length ≤ 512 ∧
  ∀ zs : List Int, zs.Pairwise (· < ·) → (∀ k, k ∈ zs ↔ k ∈ accL ps) → K (rowsI zs)
def RAccC (P : Program) (f : FuncId) : Prop := hasBody P f = true ∧ ∀ (x1 : List (List C)) (K : List (List C) → Prop), spRAcc x1 K → ACalls P f [.ptr 0 0] (heapR x1) fun r H' => ∃ l, K l ∧ r = .c (.sl [.int .i64] l) ∧ H' = heapR x1
end Go.Proofs.Ytlmllogbaacoeaa.V
