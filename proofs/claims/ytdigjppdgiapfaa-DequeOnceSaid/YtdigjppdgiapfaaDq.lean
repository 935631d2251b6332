/- A deque and its operations, step by step. Plain. -/
set_option linter.unusedSimpArgs false
set_option linter.unusedVariables false
namespace Go.Proofs.Ytdigjppdgiapfaa

/-- A deque's cells. -/
structure Dq where
  top : Int
  bot : Int
  sl : List Int
/-- An operation: its next step (0: none), what it knows, how it ended. -/
structure Dop where
  pc : Nat
  b : Int
  t : Int
  x : Int
  sw : Bool
  how : Nat
def Dq.room (d : Dq) : Nat := d.sl.length
/-- The slot of a number. -/
def slIx (sl : List Int) (n : Int) : Nat := (n % (sl.length : Int)).toNat
def slAt (sl : List Int) (n : Int) : Int := (sl[slIx sl n]?).getD 0
def Dq.ix (d : Dq) (n : Int) : Nat := slIx d.sl n
def Dq.at_ (d : Dq) (n : Int) : Int := slAt d.sl n
def Dq.put (d : Dq) (n v : Int) : Dq := ⟨d.top, d.bot, d.sl.set (d.ix n) v⟩
def Dq.made (n : Nat) : Dq := ⟨0, 0, List.replicate n 0⟩
def Dq.tasksN (d : Dq) : Nat := (d.bot - d.top).toNat
def Dq.tasks (d : Dq) : List Int := (List.range d.tasksN).map fun k : Nat => d.at_ (d.top + (k : Int))
def opPush (x : Int) : Dop := ⟨1, 0, 0, x, false, 0⟩
def opPop : Dop := ⟨5, 0, 0, 0, false, 0⟩
def opSteal : Dop := ⟨11, 0, 0, 0, false, 0⟩
/-- One step: the deque, the operation, which access it was. -/
def dstep (d : Dq) (o : Dop) : Dq × Dop × Nat × Int :=
  match o.pc with
  | 1 => (d, { o with b := d.bot, pc := 2 }, 1, 1)
  | 2 => (d, if (d.sl.length : Int) ≤ o.b - d.top then { o with t := d.top, pc := 0, how := 5 } else { o with t := d.top, pc := 3 }, 1, 0)
  | 3 => (d.put o.b o.x, { o with pc := 4 }, 2, 2 + (d.ix o.b : Int))
  | 4 => (⟨d.top, o.b + 1, d.sl⟩, { o with pc := 0, how := 1 }, 2, 1)
  | 5 => (d, { o with b := d.bot - 1, pc := 6 }, 1, 1)
  | 6 => (⟨d.top, o.b, d.sl⟩, { o with pc := 7 }, 2, 1)
  | 7 => (d, { o with t := d.top, pc := 8 }, 1, 0)
  | 8 => if o.b < o.t then (⟨d.top, o.b + 1, d.sl⟩, { o with pc := 0, how := 3 }, 2, 1)
         else (d, if o.t < o.b then { o with x := d.at_ o.b, pc := 0, how := 2 } else { o with x := d.at_ o.b, pc := 9 }, 1, 2 + (d.ix o.b : Int))
  | 9 => if d.top = o.t then (⟨o.t + 1, d.bot, d.sl⟩, { o with sw := true, pc := 10 }, 3, 0) else (d, { o with sw := false, pc := 10 }, 4, 0)
  | 10 => (⟨d.top, o.b + 1, d.sl⟩, { o with pc := 0, how := if o.sw then 2 else 3 }, 2, 1)
  | 11 => (d, { o with t := d.top, pc := 12 }, 1, 0)
  | 12 => (d, if d.bot ≤ o.t then { o with b := d.bot, pc := 0, how := 3 } else { o with b := d.bot, pc := 13 }, 1, 1)
  | 13 => (d, { o with x := d.at_ o.t, pc := 14 }, 1, 2 + (d.ix o.t : Int))
  | 14 => if d.top = o.t then (⟨o.t + 1, d.bot, d.sl⟩, { o with pc := 0, how := 2 }, 3, 0) else (d, { o with pc := 0, how := 4 }, 4, 0)
  | _ => (d, o, 0, 0)
/-- How an operation stands. -/
def told (o : Dop) : Nat × Int := (o.how, if o.how = 2 then o.x else 0)
end Go.Proofs.Ytdigjppdgiapfaa
