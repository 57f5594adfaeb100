/-
  The functions, as the abstract machine's: numbers and texts. By program.
-/
import Derived.Test.YtmeahkccilkofaaAmTab
set_option linter.all false
set_option linter.unusedVariables false
set_option linter.unusedSimpArgs false
set_option linter.unusedSectionVars false
set_option maxRecDepth 100000
namespace Go.Proofs.Ytmeahkccilkofaa
open Go.Proofs.Ytmeahkccilkofaa.Am
def f_touchstonelaw13_MovesWhy : Nat := 3
def f_moves_Why : Nat := 5
def f_touchstoneref13_Why : Nat := 6
def c_touchstonelaw13_MovesWhy : Fun := { cin := [.id], cout := [.id], ntmps := 8, keep := false, res := [(2, none)], body :=
  (.seq (.reg [⟨(some 2), .mv (.c (.b false)), none⟩])
  (.seq (.reg [⟨(some 3), .mv (.t 0), none⟩,
    ⟨(some 4), .call f_moves_Why [(.t 3)], none⟩,
    ⟨(some 5), .mv (.t 0), none⟩,
    ⟨(some 6), .call f_touchstoneref13_Why [(.t 5)], none⟩,
    ⟨(some 7), .bin .eql (.t 4) (.t 6), none⟩,
    ⟨(some 2), .mv (.t 7), none⟩])
  .ret)) }
def c_moves_Why : Fun := { cin := [.id], cout := [.id], ntmps := 14, keep := false, res := [(2, none)], body :=
  (.seq (.reg [⟨(some 2), .mv (.c (.s [])), none⟩])
  (.seq (.seq (.reg [⟨(some 6), .mkm, none⟩,
    ⟨none, .ins 0 (.t 6) (.c (.i .i64 5)) (.c (.s [110, 111, 116, 32, 116, 104, 101, 114, 101])), none⟩,
    ⟨none, .ins 0 (.t 6) (.c (.i .i64 6)) (.c (.s [116, 104, 101, 114, 101, 32, 97, 108, 114, 101, 97, 100, 121])), none⟩,
    ⟨none, .ins 0 (.t 6) (.c (.i .i64 55)) (.c (.s [119, 114, 111, 110, 103, 32, 107, 105, 110, 100])), none⟩,
    ⟨none, .ins 0 (.t 6) (.c (.i .i64 57)) (.c (.s [110, 111, 116, 32, 101, 109, 112, 116, 121])), none⟩,
    ⟨none, .ins 0 (.t 6) (.c (.i .i64 58)) (.c (.s [105, 110, 116, 111, 32, 105, 116, 115, 101, 108, 102])), none⟩,
    ⟨none, .ins 0 (.t 6) (.c (.i .i64 61)) (.c (.s [116, 111, 111, 32, 109, 97, 110, 121, 32, 108, 105, 110, 107, 115])), none⟩,
    ⟨none, .ins 0 (.t 6) (.c (.i .i64 40)) (.c (.s [116, 111, 111, 32, 108, 97, 114, 103, 101])), none⟩,
    ⟨none, .ins 0 (.t 6) (.c (.i .i64 4)) (.c (.s [98, 97, 100, 32, 110, 97, 109, 101])), none⟩,
    ⟨(some 7), .mv (.t 6), none⟩,
    ⟨(some 8), .mv (.t 0), none⟩,
    ⟨(some 9), .look 0 (.s []) true (.t 7) (.t 8), none⟩,
    ⟨(some 5), .mv (.t 9), none⟩,
    ⟨(some 10), .ext (.t 5) 0, none⟩,
    ⟨(some 11), .ext (.t 5) 1, none⟩,
    ⟨(some 3), .mv (.t 10), none⟩,
    ⟨(some 4), .mv (.t 11), none⟩])
  (.seq (.reg [⟨(some 12), .mv (.t 4), none⟩])
  (.cond (.t 12)
   (.seq (.reg [⟨(some 13), .mv (.t 3), none⟩,
     ⟨(some 2), .mv (.t 13), none⟩])
   .ret)
   .skip)))
  (.seq (.reg [⟨(some 2), .mv (.c (.s [101, 114, 114, 111, 114])), none⟩])
  .ret))) }
def c_touchstoneref13_Why : Fun := { cin := [.id], cout := [.id], ntmps := 20, keep := false, res := [(2, none)], body :=
  (.seq (.reg [⟨(some 2), .mv (.c (.s [])), none⟩])
  (.seq (.seq (.reg [⟨(some 3), .mv (.t 0), none⟩])
  (.blk 0 (.seq (.reg [⟨(some 5), .bin .eql (.t 3) (.c (.i .i64 5)), none⟩,
     ⟨(some 4), .mv (.t 5), none⟩])
   (.cond (.t 4)
    (.seq (.reg [⟨(some 2), .mv (.c (.s [110, 111, 116, 32, 116, 104, 101, 114, 101])), none⟩])
    .ret)
    (.seq (.reg [⟨(some 7), .bin .eql (.t 3) (.c (.i .i64 6)), none⟩,
      ⟨(some 6), .mv (.t 7), none⟩])
    (.cond (.t 6)
     (.seq (.reg [⟨(some 2), .mv (.c (.s [116, 104, 101, 114, 101, 32, 97, 108, 114, 101, 97, 100, 121])), none⟩])
     .ret)
     (.seq (.reg [⟨(some 9), .bin .eql (.t 3) (.c (.i .i64 55)), none⟩,
       ⟨(some 8), .mv (.t 9), none⟩])
     (.cond (.t 8)
      (.seq (.reg [⟨(some 2), .mv (.c (.s [119, 114, 111, 110, 103, 32, 107, 105, 110, 100])), none⟩])
      .ret)
      (.seq (.reg [⟨(some 11), .bin .eql (.t 3) (.c (.i .i64 57)), none⟩,
        ⟨(some 10), .mv (.t 11), none⟩])
      (.cond (.t 10)
       (.seq (.reg [⟨(some 2), .mv (.c (.s [110, 111, 116, 32, 101, 109, 112, 116, 121])), none⟩])
       .ret)
       (.seq (.reg [⟨(some 13), .bin .eql (.t 3) (.c (.i .i64 58)), none⟩,
         ⟨(some 12), .mv (.t 13), none⟩])
       (.cond (.t 12)
        (.seq (.reg [⟨(some 2), .mv (.c (.s [105, 110, 116, 111, 32, 105, 116, 115, 101, 108, 102])), none⟩])
        .ret)
        (.seq (.reg [⟨(some 15), .bin .eql (.t 3) (.c (.i .i64 61)), none⟩,
          ⟨(some 14), .mv (.t 15), none⟩])
        (.cond (.t 14)
         (.seq (.reg [⟨(some 2), .mv (.c (.s [116, 111, 111, 32, 109, 97, 110, 121, 32, 108, 105, 110, 107, 115])), none⟩])
         .ret)
         (.seq (.reg [⟨(some 17), .bin .eql (.t 3) (.c (.i .i64 40)), none⟩,
           ⟨(some 16), .mv (.t 17), none⟩])
         (.cond (.t 16)
          (.seq (.reg [⟨(some 2), .mv (.c (.s [116, 111, 111, 32, 108, 97, 114, 103, 101])), none⟩])
          .ret)
          (.seq (.reg [⟨(some 19), .bin .eql (.t 3) (.c (.i .i64 4)), none⟩,
            ⟨(some 18), .mv (.t 19), none⟩])
          (.cond (.t 18)
           (.seq (.reg [⟨(some 2), .mv (.c (.s [98, 97, 100, 32, 110, 97, 109, 101])), none⟩])
           .ret)
           .skip))))))))))))))))))
  (.seq (.reg [⟨(some 2), .mv (.c (.s [101, 114, 114, 111, 114])), none⟩])
  .ret))) }
def tab : PT := (.n 5 c_moves_Why (.n 3 c_touchstonelaw13_MovesWhy .e .e) (.n 6 c_touchstoneref13_Why .e .e))
def prog (n : Nat) : Option Fun := tab.get n
theorem p_touchstonelaw13_MovesWhy : prog f_touchstonelaw13_MovesWhy = some c_touchstonelaw13_MovesWhy := rfl
theorem p_moves_Why : prog f_moves_Why = some c_moves_Why := rfl
theorem p_touchstoneref13_Why : prog f_touchstoneref13_Why = some c_touchstoneref13_Why := rfl
end Go.Proofs.Ytmeahkccilkofaa
