/- What the acceptor's functions answer, in plain words. -/
import Derived.Test.YtnmcknfkmelnbaaDoorPx22
import Derived.Test.YtnmcknfkmelnbaaDoorPx5
namespace Go.Proofs.YtnmcknfkmelnbaaDoor.P
open Go.RowKit Go.Proofs.YtnmcknfkmelnbaaDoorW.PrintWords Go.Proofs.YtnmcknfkmelnbaaDoorW.PrintLast Go.Proofs.YtnmcknfkmelnbaaDoorW.PrintMore
set_option linter.unusedSimpArgs false
set_option linter.unusedVariables false
set_option maxRecDepth 100000
/-- A ballot is less than another one. -/
def LessP (a b c d : Int) : Prop := a < c ∨ a = c ∧ b < d
instance (a b c d : Int) : Decidable (LessP a b c d) := by unfold LessP; infer_instance
/-- A ballot is right. -/
def RightP (a b : Int) : Prop := 1 ≤ a ∧ a ≤ 9007199254740991 ∧ 0 ≤ b ∧ b < 7
instance (a b : Int) : Decidable (RightP a b) := by unfold RightP; infer_instance
/-- An acceptor is right. -/
def AccP (a b c d : Int) (s : ByteArray) : Prop := (RightP a b ∨ a = 0 ∧ b = 0) ∧ ¬ LessP a b c d ∧ (s.size : Int) ≤ 100000 ∧ (c = 0 ∧ d = 0 → s.toList = []) ∧ (c = 0 ∧ d = 0 ∨ RightP c d)
instance (a b c d : Int) (s : ByteArray) : Decidable (AccP a b c d s) := by unfold AccP; infer_instance

theorem less_is (a b c d : Int) : acceptor_Less.f a b c d = some (decide (LessP a b c d)) := by
  unfold acceptor_Less.f acceptor_pair.f LessP
  simp only [Option.bind_some]
  by_cases h1 : a = c
  · subst h1
    by_cases h2 : b = d
    · subst h2
      simp
    · simp [h2]
  · by_cases h3 : a < c
    · simp [h1, h3]
    · simp [h1, h3]
theorem aright_is (a b : Int) : acceptor_Right.f a b = some (decide (RightP a b)) := by
  unfold acceptor_Right.f RightP
  by_cases h1 : 1 ≤ a <;> by_cases h2 : a ≤ 9007199254740991 <;> by_cases h3 : 0 ≤ b <;> simp [h1, h2, h3]
theorem none_is (a b : Int) : acceptor_none.f a b = some (decide (a = 0 ∧ b = 0)) := by
  unfold acceptor_none.f acceptor_pair.f
  by_cases h1 : a = 0 <;> by_cases h2 : b = 0 <;> simp [h1, h2]
theorem toList_nil (s : ByteArray) : (s.toList == ([] : List UInt8)) = decide (s.toList = []) := by
  cases h : s.toList <;> simp
theorem acc_is (a b c d : Int) (s : ByteArray) : acceptor_right.f a b c d s = some (decide (AccP a b c d s)) := by
  unfold acceptor_right.f AccP
  simp only [aright_is, less_is, none_is, Option.bind_some, toList_nil]
  by_cases h4 : c = 0 ∧ d = 0
  · obtain ⟨rfl, rfl⟩ := h4
    by_cases h1 : RightP a b
    · by_cases h2 : LessP a b 0 0
      · simp [h1, h2]
      · by_cases h3 : (s.size : Int) ≤ 100000
        · have h3' : ¬ (s.size : Int) > 100000 := by omega
          simp [h1, h2, h3, h3']
        · have h3' : (s.size : Int) > 100000 := by omega
          simp [h1, h2, h3, h3']
    · by_cases h0 : a = 0 ∧ b = 0
      · obtain ⟨rfl, rfl⟩ := h0
        by_cases h2 : LessP 0 0 0 0
        · simp [h1, h2]
        · by_cases h3 : (s.size : Int) ≤ 100000
          · have h3' : ¬ (s.size : Int) > 100000 := by omega
            simp [h1, h2, h3, h3']
          · have h3' : (s.size : Int) > 100000 := by omega
            simp [h1, h2, h3, h3']
      · simp [h1, h0]
  · by_cases h1 : RightP a b
    · by_cases h2 : LessP a b c d
      · simp [h1, h2]
      · by_cases h3 : (s.size : Int) ≤ 100000
        · have h3' : ¬ (s.size : Int) > 100000 := by omega
          simp [h1, h2, h3, h3', h4]
        · have h3' : (s.size : Int) > 100000 := by omega
          simp [h1, h2, h3, h3']
    · by_cases h0 : a = 0 ∧ b = 0
      · obtain ⟨rfl, rfl⟩ := h0
        by_cases h2 : LessP 0 0 c d
        · simp [h1, h2]
        · by_cases h3 : (s.size : Int) ≤ 100000
          · have h3' : ¬ (s.size : Int) > 100000 := by omega
            simp [h1, h2, h3, h3', h4]
          · have h3' : (s.size : Int) > 100000 := by omega
            simp [h1, h2, h3, h3']
      · simp [h1, h0]

/-- What Prepare answers. -/
def prepT (a b c d : Int) (s : ByteArray) (e f : Int) : Int × Int × Int × Int × ByteArray × Bool := if AccP a b c d s ∧ RightP e f ∧ ¬ LessP e f a b then (e, f, c, d, s, true) else (a, b, c, d, s, false)
/-- What Take answers. -/
def takeT (a b c d : Int) (s : ByteArray) (e f : Int) (v : ByteArray) : Int × Int × Int × Int × ByteArray × Bool := if AccP a b c d s ∧ RightP e f ∧ ¬ LessP e f a b ∧ (v.size : Int) ≤ 100000 ∧ (c = e ∧ d = f → s.toList = v.toList) then (e, f, e, f, v, true) else (a, b, c, d, s, false)
theorem prep_is (a b c d : Int) (s : ByteArray) (e f : Int) : acceptor_Prepare.f a b c d s e f = some (prepT a b c d s e f) := by
  unfold acceptor_Prepare.f prepT
  simp only [acc_is, aright_is, less_is, Option.bind_some]
  by_cases h1 : AccP a b c d s <;> by_cases h2 : RightP e f <;> by_cases h3 : LessP e f a b <;> simp [h1, h2, h3]
/-- What an acceptor holds: what it promised (a, b), what it took (c, d, s). -/
structure AcS where
  a : Int
  b : Int
  c : Int
  d : Int
  s : ByteArray
def AcS.zero : AcS := ⟨0, 0, 0, 0, ⟨#[]⟩⟩
/-- A proposer. -/
structure PrS where
  r : Int
  n : Int
  nodes : List Bool
  prom : List Bool
  cntd : List Bool
  best : AcS
  st : Int
  val : ByteArray
def bcnt (l : List Bool) : Nat := l.count true
def bhas (l : List Bool) (n : Int) : Bool := decide (0 ≤ n ∧ n < 7) && l.getD n.toNat false
def noneB : List Bool := [false, false, false, false, false, false, false]
namespace PrS
def promise (p : PrS) (node : Int) (a : AcS) : PrS × Bool :=
  if p.st = 0 ∧ bhas p.nodes node = true ∧ p.prom.getD node.toNat false = false ∧ AccP a.a a.b a.c a.d a.s ∧ a.a = p.r ∧ a.b = p.n then
    ({ p with prom := p.prom.set node.toNat true, best := if LessP p.best.c p.best.d a.c a.d then a else p.best }, true)
  else (p, false)
def tellV (p : PrS) (own : ByteArray) : ByteArray := if p.best.c = 0 ∧ p.best.d = 0 then own else p.best.s
def tell (p : PrS) (own : ByteArray) : PrS × ByteArray × Int :=
  if p.st ≠ 0 then (p, p.val, 0)
  else if 2 * bcnt p.prom ≤ bcnt p.nodes then (p, ⟨#[]⟩, 12)
  else if 100000 < (p.tellV own).size then (p, ⟨#[]⟩, 3)
  else ({ p with st := 1, val := p.tellV own }, p.tellV own, 0)
def taken (p : PrS) (node : Int) : PrS × Bool :=
  if (p.st = 1 ∨ p.st = 2) ∧ bhas p.nodes node = true ∧ p.cntd.getD node.toNat false = false then
    ({ p with cntd := p.cntd.set node.toNat true, st := if p.st = 1 ∧ bcnt p.nodes < 2 * (bcnt p.cntd + 1) then 2 else p.st }, true)
  else (p, false)
def missing (p : PrS) : List Int := ((List.range 7).filter fun i => p.nodes.getD i false && !((if p.st = 0 then p.prom else p.cntd).getD i false)).map Int.ofNat
end PrS
def addN : List Int → List Bool → Option (List Bool)
  | [], b => some b
  | n :: l, b => if 0 ≤ n ∧ n < 7 ∧ b.getD n.toNat false = false then addN l (b.set n.toNat true) else none
/-- A proposer that begins. -/
def newP (r n : Int) (l : List Int) : Option PrS :=
  match addN l noneB with
  | none => none
  | some b => if l = [] ∨ ¬ RightP r n then none else some ⟨r, n, b, noneB, noneB, AcS.zero, 0, ⟨#[]⟩⟩
end Go.Proofs.YtnmcknfkmelnbaaDoor.P
