/- The disk in plain words, and how bytes lie in memory (package disk). -/
import Derived.Test.YtnjejffbcgchlaaRowMids
import Derived.Test.YtnjejffbcgchlaaSep
set_option linter.unusedSimpArgs false
set_option linter.unusedVariables false
namespace Go.Proofs.Ytnjejffbcgchlaa
open Go.RowKit

namespace Di
def u8s (l : List Int) : List Value := l.map fun n => Value.int .u8 n
theorem u8s_len (l : List Int) : (u8s l).length = l.length := by simp [u8s]
theorem u8s_get (l : List Int) (j : Nat) : (u8s l)[j]? = l[j]?.map (Value.int .u8) := by simp [u8s]
theorem u8s_one (l : List Int) : ∀ v ∈ u8s l, v.oneCell' = true := by
  intro v hv
  obtain ⟨n, _, rfl⟩ := List.mem_map.1 hv
  rfl
theorem u8s_app (a b : List Int) : u8s (a ++ b) = u8s a ++ u8s b := by simp [u8s]
def ints (l : List Int) : List Value := l.map fun n => Value.int .i64 n

/-- 64 bytes. -/
structure Sec where
  l : List Int
  h : l.length = 64
theorem Sec.eq {a b : Sec} (h : a.l = b.l) : a = b := by cases a; cases b; cases h; rfl
def secC (s : Sec) : List Value := u8s s.l
theorem secC_len (s : Sec) : (secC s).length = 64 := by simp [secC, u8s_len, s.h]
theorem secC_one (s : Sec) : ∀ v ∈ secC s, v.oneCell' = true := u8s_one _
def Sec.all (n : Int) : Sec := ⟨List.replicate 64 n, by simp⟩

structure Pl where
  rest : Sec
  meant : Sec
  lost : Bool
def plC (p : Pl) : List Value := secC p.rest ++ (secC p.meant ++ [.bool p.lost])
theorem plC_len (p : Pl) : (plC p).length = 129 := by simp [plC, secC_len]
theorem plC_one (p : Pl) : ∀ v ∈ plC p, v.oneCell' = true := by
  intro v hv
  rcases List.mem_append.1 hv with h | h
  · exact secC_one _ _ h
  · rcases List.mem_append.1 h with h | h
    · exact secC_one _ _ h
    · rw [List.mem_singleton.1 h]; rfl
structure Wr where
  bytes : Sec
  sector : Nat
def wrC (x : Wr) : List Value := secC x.bytes ++ [.int .i64 (x.sector : Int)]
theorem wrC_len (x : Wr) : (wrC x).length = 65 := by simp [wrC, secC_len]
theorem wrC_one (p : Wr) : ∀ v ∈ wrC p, v.oneCell' = true := by
  intro v hv
  rcases List.mem_append.1 hv with h | h
  · exact secC_one _ _ h
  · rw [List.mem_singleton.1 h]; rfl

/-- The disk. -/
structure Dk where
  places : List Pl
  waits : List Wr
  down : Bool
  dead : Bool
  left : Int
/-- A disk as calls leave it. -/
structure Ok (d : Dk) : Prop where
  some : 0 < d.places.length
  room : d.places.length ≤ 1024
  to : ∀ x ∈ d.waits, x.sector < d.places.length
  left : -1 ≤ d.left
  few : d.left ≤ 9223372036854775807
def inn (d : Dk) (s : Int) : Bool := decide (0 ≤ s) && decide (s < d.places.length)
def thereE (d : Dk) (ss : List Int) : Int := if ss.all (inn d) then 0 else 2
def Dk.up (d : Dk) : Bool := !d.down && !d.dead
def liveE (d : Dk) (ss : List Int) : Int := if d.up then thereE d ss else 5
def new (n : Nat) : Dk := ⟨List.replicate n ⟨.all 0, .all 0, false⟩, [], false, false, -1⟩
/-- Power for a write, a flush. -/
def spendE (d : Dk) : Int := if d.left = 0 then 5 else 0
def spendD (d : Dk) : Dk := if d.left = 0 then { d with dead := true } else if 0 < d.left then { d with left := d.left - 1 } else d
def come (ps : List Pl) (x : Wr) : List Pl := ps.set x.sector ⟨x.bytes, x.bytes, false⟩
/-- The writes from number k on come through, if 'is' says so. -/
def thr (is : Nat → Bool) : Nat → List Wr → List Pl → List Pl
  | _, [], ps => ps
  | k, x :: r, ps => thr is (k + 1) r (if is k then come ps x else ps)
theorem thr_len (is : Nat → Bool) : ∀ (l : List Wr) (k : Nat) (ps : List Pl), (thr is k l ps).length = ps.length
  | [], _, _ => rfl
  | x :: r, k, ps => by
    rw [thr, thr_len is r]
    by_cases h : is k = true <;> simp [h, come]
theorem thr_snoc (is : Nat → Bool) (x : Wr) : ∀ (l : List Wr) (k : Nat) (ps : List Pl), thr is k (l ++ [x]) ps = (if is (k + l.length) then come (thr is k l ps) x else thr is k l ps)
  | [], k, ps => by simp [thr]
  | y :: r, k, ps => by
    rw [List.cons_append, thr, thr_snoc is x r, thr, List.length_cons, show k + 1 + r.length = k + (r.length + 1) by omega]
def through (d : Dk) (is : Nat → Bool) : Dk := { d with places := thr is 0 d.waits d.places, waits := [] }
def kept (keep : List Bool) (k : Nat) : Bool := keep[k]?.getD false

def powerE (d : Dk) (n : Int) : Int := if d.up then (if n < 0 then 2 else 0) else 5
def powerD (d : Dk) (n : Int) : Dk := if d.up then (if n < 0 then d else { d with left := n }) else d
/-- The write of bytes that are no sector is refused. -/
def writeE (d : Dk) (s : Int) (b : List Int) : Int := if d.up then (if inn d s then (if b.length = 64 then spendE d else 2) else 2) else 5
def writeD (d : Dk) (s : Int) (b : List Int) : Dk :=
  if d.up then (if inn d s then (if h : b.length = 64 then (if d.left = 0 then spendD d else { spendD d with waits := d.waits ++ [⟨⟨b, h⟩, s.toNat⟩] }) else d) else d) else d
def flushE (d : Dk) : Int := if d.up then spendE d else 5
def flushD (d : Dk) : Dk := if d.up then (if d.left = 0 then spendD d else through (spendD d) (fun _ => true)) else d
def crashE (d : Dk) : Int := if d.down then 5 else 0
def crashD (d : Dk) (keep : List Bool) : Dk := if d.down then d else { through d (kept keep) with down := true }
def startE (d : Dk) : Int := if d.down then 0 else 2
def startD (d : Dk) : Dk := if d.down then { d with down := false, dead := false, left := -1 } else d
/-- The byte x with the bit k turned about. -/
def flipB (x : Int) (k : Nat) : Int := bits BinOp.xor IntKind.u8 x (2 ^ k % 256)
def flipS (s : Sec) (bit : Nat) : Sec := ⟨s.l.set (bit / 8) (flipB (s.l[bit / 8]?.getD 0) (bit % 8)), by simp [s.h]⟩
def faultE (d : Dk) (s bit : Int) : Int := if inn d s then (if bit < 0 then 2 else 0) else 2
def pl0 : Pl := ⟨.all 0, .all 0, false⟩
def Dk.at_ (d : Dk) (s : Int) : Pl := d.places[s.toNat]?.getD pl0
def flipD (d : Dk) (s bit : Int) : Dk := if inn d s then (if bit < 0 then d else { d with places := d.places.set s.toNat { d.at_ s with rest := flipS (d.at_ s).rest (bit.toNat % 512) } }) else d
def loseD (d : Dk) (s : Int) : Dk := if inn d s then { d with places := d.places.set s.toNat { d.at_ s with lost := true } } else d
def strayD (d : Dk) (s t : Int) : Dk := if inn d s && inn d t then { d with places := d.places.set t.toNat { d.at_ t with rest := (d.at_ s).rest, lost := (d.at_ s).lost } } else d
/-- The last write that waits of a sector. -/
def lastW (L : List Wr) (s : Nat) : Option Sec := (L.reverse.find? (fun x => x.sector == s)).map (·.bytes)
def readE (d : Dk) (s : Int) : Int := if d.up then (if inn d s then (match lastW d.waits s.toNat with | some _ => 0 | none => if (d.at_ s).lost then 50 else 0) else 2) else 5
def readV (d : Dk) (s : Int) : List Int := if d.up then (if inn d s then (match lastW d.waits s.toNat with | some b => b.l | none => if (d.at_ s).lost then [] else (d.at_ s).rest.l) else []) else []
def restV (d : Dk) (s : Int) : List Int := if inn d s then (if (d.at_ s).lost then [] else (d.at_ s).rest.l) else []
def restL (d : Dk) (s : Int) : Bool := inn d s && (d.at_ s).lost
def meantV (d : Dk) (s : Int) : List Int := if inn d s then (d.at_ s).meant.l else []

theorem spend_ok {d : Dk} (h : Ok d) : Ok (spendD d) := by
  obtain ⟨h1, h2, h3, h4, h5⟩ := h
  unfold spendD
  split
  · exact ⟨h1, h2, h3, h4, h5⟩
  · split
    · exact ⟨h1, h2, h3, by show -1 ≤ d.left - 1; omega, by show d.left - 1 ≤ _; omega⟩
    · exact ⟨h1, h2, h3, h4, h5⟩
theorem through_ok {d : Dk} (h : Ok d) (is : Nat → Bool) : Ok (through d is) := by
  obtain ⟨h1, h2, h3, h4, h5⟩ := h
  exact ⟨by simpa [through, thr_len] using h1, by simpa [through, thr_len] using h2, by simp [through], h4, h5⟩
theorem power_ok {d : Dk} (h : Ok d) {n : Int} (hn : n ≤ 9223372036854775807) : Ok (powerD d n) := by
  unfold powerD
  split
  · split
    · exact h
    · exact ⟨h.some, h.room, h.to, by show -1 ≤ n; omega, hn⟩
  · exact h
theorem spend_places (d : Dk) : (spendD d).places = d.places := by
  unfold spendD
  split
  · rfl
  · split <;> rfl
theorem spend_waits (d : Dk) : (spendD d).waits = d.waits := by
  unfold spendD
  split
  · rfl
  · split <;> rfl
theorem write_ok {d : Dk} (h : Ok d) (s : Int) (b : List Int) : Ok (writeD d s b) := by
  unfold writeD
  split
  · split
    · rename_i hi
      split
      · split
        · exact spend_ok h
        · have hs := spend_ok h
          refine ⟨hs.some, hs.room, ?_, hs.left, hs.few⟩
          intro x hx
          show x.sector < (spendD d).places.length
          rw [spend_places]
          rcases List.mem_append.1 hx with hx | hx
          · exact h.to x hx
          · rw [List.mem_singleton.1 hx]
            simp only [inn, Bool.and_eq_true, decide_eq_true_eq] at hi
            show s.toNat < _
            omega
      · exact h
    · exact h
  · exact h
theorem flush_ok {d : Dk} (h : Ok d) : Ok (flushD d) := by
  unfold flushD
  split
  · split
    · exact spend_ok h
    · exact through_ok (spend_ok h) _
  · exact h
theorem crash_ok {d : Dk} (h : Ok d) (keep : List Bool) : Ok (crashD d keep) := by
  unfold crashD
  split
  · exact h
  · have := through_ok h (kept keep)
    exact ⟨this.some, this.room, this.to, this.left, this.few⟩
theorem start_ok {d : Dk} (h : Ok d) : Ok (startD d) := by
  unfold startD
  split
  · exact ⟨h.some, h.room, h.to, by show (-1 : Int) ≤ -1; omega, by show (-1 : Int) ≤ _; omega⟩
  · exact h
theorem set_ok {d : Dk} (h : Ok d) (k : Nat) (p : Pl) : Ok { d with places := d.places.set k p } :=
  ⟨by simpa using h.some, by simpa using h.room, by simpa using h.to, h.left, h.few⟩
theorem flip_ok {d : Dk} (h : Ok d) (s bit : Int) : Ok (flipD d s bit) := by
  unfold flipD
  split
  · split
    · exact h
    · exact set_ok h _ _
  · exact h
theorem lose_ok {d : Dk} (h : Ok d) (s : Int) : Ok (loseD d s) := by
  unfold loseD
  split
  · exact set_ok h _ _
  · exact h
theorem stray_ok {d : Dk} (h : Ok d) (s t : Int) : Ok (strayD d s t) := by
  unfold strayD
  split
  · exact set_ok h _ _
  · exact h
theorem new_ok {n : Nat} (h : 0 < n) (h' : n ≤ 1024) : Ok (new n) := ⟨by simpa [new] using h, by simpa [new] using h', by simp [new], by simp [new], by simp [new]⟩

/-- Zero elements, many of them. -/
theorem madeCells_flat (z : List Value) : ∀ n : Nat, 0 < z.length → (madeCells z.toArray (n * z.length)).toList = (List.replicate n z).flatten := by
  intro n hz
  induction n with
  | zero => simp [madeCells]
  | succ n ih =>
    rw [List.replicate_succ', List.flatten_append, ← ih]
    simp only [madeCells, Array.toList_map, Array.toList_range, List.size_toArray]
    rw [Nat.succ_mul, List.range_add, List.map_append]
    congr 1
    simp only [List.flatten_cons, List.flatten_nil, List.append_nil, List.map_map]
    refine List.ext_getElem (by simp) ?_
    intro i h1 h2
    simp only [List.getElem_map, List.getElem_range, Function.comp]
    rw [Nat.mul_comm, Nat.mul_add_mod, Nat.mod_eq_of_lt h2, getElem!_pos z.toArray i (by simpa using h2)]
    simp
theorem made_places (n : Nat) : (madeCells (plC pl0).toArray (n * 129)).toList = (new n).places.flatMap plC := by
  rw [show n * 129 = n * (plC pl0).length by rw [plC_len], madeCells_flat _ _ (by rw [plC_len]; omega)]
  show _ = (List.replicate n pl0).flatMap plC
  induction n with
  | zero => rfl
  | succ n ih => rw [List.replicate_succ, List.replicate_succ, List.flatten_cons, List.flatMap_cons, ih]

/-- What 'build' does with one part. -/
theorem fill_part (cells : Array Value) (vs : List Value) (off : Nat) : (vs.toArray.zipIdx.foldl (fun cs (c, j) => cs.setIfInBounds (off + j) c) cells).toList = midSets cells.toList off vs := by
  rw [← Array.foldl_toList]
  have key : ∀ (vs : List Value) (k : Nat) (cells : Array Value), (List.foldl (fun (cs : Array Value) (x : Value × Nat) => cs.setIfInBounds (off + x.2) x.1) cells (vs.zipIdx k)).toList = midSets cells.toList (off + k) vs := by
    intro vs
    induction vs with
    | nil => intro k cells; rfl
    | cons v r ih =>
      intro k cells
      rw [List.zipIdx_cons, List.foldl_cons, ih, midSets]
      simp [Nat.add_assoc]
  have := key vs 0 cells
  simpa using this
end Di
end Go.Proofs.Ytnjejffbcgchlaa
