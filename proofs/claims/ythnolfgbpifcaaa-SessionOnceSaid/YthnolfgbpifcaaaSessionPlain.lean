/- Sessions as plain data: nothing of the program stands here. -/
namespace Go.Proofs.Ythnolfgbpifcaaa.Se

/-- A reply; a row; a table of four rows. -/
structure Rp where
  err : Int
  found : Bool
  val : ByteArray
structure Rw where
  seq : Int
  rep : Rp
structure Tb where
  r0 : Rw
  r1 : Rw
  r2 : Rw
  r3 : Rw

def mx : Int := 1099511627776
def zeroRp : Rp := ⟨0, false, ByteArray.empty⟩
def badB (x : Rp) : Bool := decide (x.err < 0) || decide (999 < x.err) || decide (16 < x.val.size)
def isZero (x : Rp) : Bool := decide (x.err = 0) && !x.found && decide (x.val.toList = [])
def oddB (r : Rw) : Bool := if r.seq = 0 then !(isZero r.rep) else decide (r.seq < 0) || decide (1099511627776 < r.seq) || badB r.rep
def Tb.rows (t : Tb) : List Rw := [t.r0, t.r1, t.r2, t.r3]
def mayB (t : Tb) : Bool := !(t.rows.any oddB)

end Go.Proofs.Ythnolfgbpifcaaa.Se
