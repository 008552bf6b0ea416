import Derived.Test.YtfdgbghlanbddaaDoorAvSteps
set_option linter.unusedVariables false
namespace Go.Proofs.YtfdgbghlanbddaaDoor.Av
open Go.RowKit
/-! How the program's data are told. -/
def ints (l : List Int) : AV := .list 1 (l.map fun n => [.int .i64 n])
def bytesAV (l : List Int) : AV := .list 1 (l.map fun n => [.int .u8 n])
structure St where
  (w0 w1 w2 w3 : Int)
  to : Int
  free : List Int
def St.row (s : St) : List AV := [.int .u64 s.w0, .int .u64 s.w1, .int .u64 s.w2, .int .u64 s.w3, .int .i64 s.to, .list 1 (s.free.map fun n => [.int .i64 n])]
structure Nf where
  st : List St
  (start stop : Int)
def Nf.cells (n : Nf) : List AV := [.list 6 (n.st.map St.row), .int .i64 n.start, .int .i64 n.stop]
def Nf.av (n : Nf) : AV := .agg [.list 6 (n.st.map St.row), .int .i64 n.start, .int .i64 n.stop]
end Go.Proofs.YtfdgbghlanbddaaDoor.Av
