/- The data of requests, replies, jobs, works, and of a scheduler's state. No Go and no memory in sight. -/
import Derived.Test.YtbbbodfikgdhcaaGreatDoorSpec
namespace Go.Proofs.YtbbbodfikgdhcaaGreatDoor

structure Req where
  kind : Int
  id : Int
  user : Int
  width : Int
  limit : Int
  prio : Int
  held : Bool
  node : Int
  by_ : Int
deriving DecidableEq, Inhabited
structure Rep where
  err : Int
  id : Int
  state : Int
  start : Int
  end_ : Int
  plan : Int
  a : Int
  b : Int
  c : Int
deriving DecidableEq, Inhabited
structure Job where
  id : Int
  user : Int
  width : Int
  limit : Int
  prio : Int
  state : Int
  start : Int
  end_ : Int
  plan : Int
  nodes : BitVec 64
deriving DecidableEq, Inhabited
structure Wk where
  req : Req
  cid : Int
  cat : Int
  commit : Bool
  rep : Rep
  part : Int
  done : Bool
  ok : Bool
  job : Job
  back : Int
  to : Int

def Req.zero : Req := ⟨0, 0, 0, 0, 0, 0, false, 0, 0⟩
def Rep.zero : Rep := ⟨0, 0, 0, 0, 0, 0, 0, 0, 0⟩
def Job.zero : Job := ⟨0, 0, 0, 0, 0, 0, 0, 0, 0, 0⟩
def Rep.fail (e : Int) : Rep := { Rep.zero with err := e }
/-- What a work is ahead of its first part. -/
def Wk.ofReq (r : Req) : Wk := { req := r, cid := 0, cat := 0, commit := false, rep := .zero, part := 0, done := false, ok := false, job := .zero, back := 0, to := 0 }
def Wk.ofChoice (i t : Int) : Wk := { req := .zero, cid := i, cat := t, commit := true, rep := .zero, part := 0, done := false, ok := false, job := .zero, back := 0, to := 0 }

/-- A request with just what its kind has. -/
def Req.clean (r : Req) : Req :=
  if r.kind = 1 then { Req.zero with kind := r.kind, user := r.user, width := r.width, limit := r.limit, prio := r.prio, held := r.held }
  else if r.kind = 2 ∨ r.kind = 3 ∨ r.kind = 4 ∨ r.kind = 5 ∨ r.kind = 6 then { Req.zero with kind := r.kind, id := r.id }
  else if r.kind = 7 ∨ r.kind = 8 then { Req.zero with kind := r.kind, node := r.node }
  else if r.kind = 9 then { Req.zero with kind := r.kind, by_ := r.by_ }
  else { Req.zero with kind := r.kind }

structure St where
  jobs : List Job
  live : Int
  all : BitVec 64
  used : BitVec 64
  drain : BitVec 64
  steps : List Step
  ver : Int
  closed : Bool

/-- The first so many nodes. -/
def allSet (n : Nat) : BitVec 64 := BitVec.ofNat 64 (2 ^ n - 1)
/-- A scheduler's state at its beginning. -/
def St.new (n : Nat) : St := { jobs := [], live := 0, all := allSet n, used := 0, drain := 0, steps := [⟨0, n⟩], ver := 0, closed := false }

/-- The jobs in some states. -/
def inStates (l : List Job) (st : List Int) : List Job := l.filter fun j => st.contains j.state

def St.now (s : St) : Int := nowOf s.steps
/-- What the request for the time is told. -/
def St.clock (s : St) : Rep := { Rep.zero with start := s.now, a := freeAt s.steps s.now }

/-- What the request for the load is told. -/
def St.load (s : St) : Rep := { Rep.zero with a := (inStates s.jobs [1]).length, b := (inStates s.jobs [2]).length, c := (inStates s.jobs [3]).length }

end Go.Proofs.YtbbbodfikgdhcaaGreatDoor
