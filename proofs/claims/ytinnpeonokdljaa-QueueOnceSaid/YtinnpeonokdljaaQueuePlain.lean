/- Queues as plain data. Nothing of the program stands here but the cells' layout. -/
import Derived.Test.YtinnpeonokdljaaRows
import Derived.WalkKit
import Derived.WalkSpells
import Derived.WalkLawsBesides
import Derived.Test.YtinnpeonokdljaaSteps
namespace Go.Proofs.Ytinnpeonokdljaa
open Go.RowKit

namespace Qu
/-- An operation; a request; one that waits. -/
structure Po where
  kind : Nat
  key : ByteArray
  old : ByteArray
  val : ByteArray
  deriving DecidableEq
structure Rq where
  client : Int
  seq : Int
  op : Po
  deriving DecidableEq
structure Wt where
  r : Rq
  nonce : Int
  index : Int
  set : Nat
  deriving DecidableEq

def opC (o : Po) : List Value := [.int .u8 (o.kind : Nat), .string o.key, .string o.old, .string o.val]
def rqC (r : Rq) : List Value := [.int .i64 r.client, .int .i64 r.seq, .int .u8 (r.op.kind : Nat), .string r.op.key, .string r.op.old, .string r.op.val]
def wtC (x : Wt) : List Value := [.int .i64 x.r.client, .int .i64 x.r.seq, .int .u8 (x.r.op.kind : Nat), .string x.r.op.key, .string x.r.op.old, .string x.r.op.val, .int .i64 x.nonce, .int .i64 x.index, .int .u8 (x.set : Nat)]
theorem rqC_len (r : Rq) : (rqC r).length = 6 := rfl
theorem wtC_len (x : Wt) : (wtC x).length = 9 := rfl

/-- May an operation be? -/
def em : ByteArray := { data := #[] }
def bareB (o : Po) : Bool := if o.kind = 1 ∨ o.kind = 3 then decide (o.old = em) && decide (o.val = em) else if o.kind = 2 then decide (o.old = em) else decide (o.kind = 4)
def sizeB (o : Po) : Bool := decide (1 ≤ o.key.size) && decide (o.key.size ≤ 8) && decide (o.old.size ≤ 16) && decide (o.val.size ≤ 16)
def mayOpB (o : Po) : Bool := bareB o && sizeB o
def numB (least n : Int) : Bool := decide (least ≤ n) && decide (n ≤ 1099511627776)
def readsB (o : Po) : Bool := decide (o.kind = 1)

def samePo (k : Int) (a b c : ByteArray) (k' : Int) (a' b' c' : ByteArray) : Bool := decide (k = k') && decide (a = a') && decide (b = b') && decide (c = c')
def sameRq (m s k : Int) (a b c : ByteArray) (m' s' k' : Int) (a' b' c' : ByteArray) : Bool := decide (m = m') && decide (s = s') && samePo k a b c k' a' b' c'
theorem sameRq_iff (x y : Rq) : sameRq x.client x.seq x.op.kind x.op.key x.op.old x.op.val y.client y.seq y.op.kind y.op.key y.op.old y.op.val = decide (x = y) := by
  obtain ⟨m, s, k, a, b, c⟩ := x
  obtain ⟨m', s', k', a', b', c'⟩ := y
  unfold sameRq samePo
  simp only [Rq.mk.injEq, Po.mk.injEq, Bool.decide_and, Bool.and_assoc]
  rw [show decide ((k : Int) = (k' : Int)) = decide (k = k') from decide_eq_decide.2 (by omega)]

theorem bytes_eq {a b : ByteArray} : a.toList = b.toList ↔ a = b := by
  rw [ByteArray.toList_eq, ByteArray.toList_eq]
  constructor
  · intro h
    cases a; cases b
    simp only [ByteArray.mk.injEq]
    exact Array.toList_inj.1 h
  · rintro rfl; rfl
theorem eql_po (k k' : Int) (a b c a' b' c' : ByteArray) (w : World) :
    (binOp .eql 23 (.agg #[.int .u8 k, .string a, .string b, .string c]) (.agg #[.int .u8 k', .string a', .string b', .string c'])).run Try.prog w = .ok (.bool (samePo k a b c k' a' b' c')) w := by
  simp [go_sem]
  simp only [bytes_eq]
  unfold samePo
  by_cases h1 : k = k' <;> by_cases h2 : a = a' <;> by_cases h3 : b = b' <;> by_cases h4 : c = c' <;> simp [h1, h2, h3, h4]
theorem eql_rq (m s k : Int) (a b c : ByteArray) (m' s' k' : Int) (a' b' c' : ByteArray) (w : World) :
    (binOp .eql 25 (.agg #[.int .i64 m, .int .i64 s, .int .u8 k, .string a, .string b, .string c]) (.agg #[.int .i64 m', .int .i64 s', .int .u8 k', .string a', .string b', .string c'])).run Try.prog w =
      .ok (.bool (sameRq m s k a b c m' s' k' a' b' c')) w := by
  simp [go_sem]
  simp only [bytes_eq]
  unfold sameRq samePo
  by_cases h0 : m = m' <;> by_cases h1 : s = s' <;> by_cases h2 : k = k' <;> by_cases h3 : a = a' <;> by_cases h4 : b = b' <;> by_cases h5 : c = c' <;> simp [h0, h1, h2, h3, h4, h5]
theorem neq_rq (m s k : Int) (a b c : ByteArray) (m' s' k' : Int) (a' b' c' : ByteArray) (w : World) :
    (binOp .neq 25 (.agg #[.int .i64 m, .int .i64 s, .int .u8 k, .string a, .string b, .string c]) (.agg #[.int .i64 m', .int .i64 s', .int .u8 k', .string a', .string b', .string c'])).run Try.prog w =
      .ok (.bool (!sameRq m s k a b c m' s' k' a' b' c')) w := by
  simp [go_sem]
  simp only [bytes_eq]
  unfold sameRq samePo
  by_cases h0 : m = m' <;> by_cases h1 : s = s' <;> by_cases h2 : k = k' <;> by_cases h3 : a = a' <;> by_cases h4 : b = b' <;> by_cases h5 : c = c' <;> simp [h0, h1, h2, h3, h4, h5]

end Qu
end Go.Proofs.Ytinnpeonokdljaa
