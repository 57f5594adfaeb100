/-
  The law's call on the abstract machine, cut into pieces. By program.
-/
import Derived.Test.YtbfgoopcnkeblaaGreatFns
import Derived.Test.YtbfgoopcnkeblaaGreatAmRg
import Derived.KernelRfl
set_option linter.all false
set_option linter.unusedVariables false
set_option linter.unusedSimpArgs false
set_option linter.unusedSectionVars false
set_option maxRecDepth 100000
namespace Go.Proofs.YtbfgoopcnkeblaaGreat
open Go.Proofs.YtbfgoopcnkeblaaGreat.Am
def v0 : AV := (.agg [(.i .u8 2), (.s []), (.sl 1 [(.s [97]), (.s [98])] .shut), (.sl 4 [(.agg [(.i .u8 1), (.s [97]), .nsl, .nsl]), (.agg [(.i .u8 1), (.s [98]), .nsl, .nsl])] .shut)])
def v1 : Box := (.cells 30 [(.i .u8 2), (.s []), (.sl 1 [(.s [97]), (.s [98])] (.tok 2 0)), (.sl 4 [(.agg [(.i .u8 1), (.s [97]), .nsl, .nsl]), (.agg [(.i .u8 1), (.s [98]), .nsl, .nsl])] (.tok 3 0))])
def v2 : Box := (.cells 34 [(.i .i64 0), (.i .u8 0), (.s []), (.i .i64 (-1)), (.ws false 1 []), (.ws false 6 [])])
def v3 : Box := (.cells 30 [(.i .u8 2), (.s []), (.sl 1 [(.s [97]), (.s [98])] (.tok 0 0)), (.sl 4 [(.agg [(.i .u8 1), (.s [97]), .nsl, .nsl]), (.agg [(.i .u8 1), (.s [98]), .nsl, .nsl])] (.tok 1 0))])
def v4 : Box := (.cells 34 [(.i .i64 (-1)), (.i .u8 1), (.s [99]), (.i .i64 (-1)), .nsl, .nsl])
def v5 : AV := (.ws false 4 [(.agg [(.i .u8 1), (.s [97]), (.ws false 1 []), (.ws false 4 [])]), (.agg [(.i .u8 1), (.s [98]), (.ws false 1 []), (.ws false 4 [])])])
def m0 : Ent := ⟨[(.ws false 6 [(.agg [(.b true), (.i .u8 2), (.ws false 1 []), (.ws false 1 []), (.i .i64 0), (.i .i64 0)])]), v0, (.agg [(.i .i64 0), (.i .u8 0), (.s []), (.i .i64 (-1)), (.ws false 1 []), (.ws false 6 [])])], ⟨8, [v1, v2, v3, v1, v1, v3, v3, v4], 4, [some ⟨2, 0, 0, some 30⟩, some ⟨2, 0, 0, some 9⟩, some ⟨2, 0, 2, some 30⟩, some ⟨2, 0, 2, some 9⟩], 5⟩, (.tup [(.agg [(.i .u8 2), (.s []), (.ws false 1 [(.s [97]), (.s [98])]), v5]), (.i .i64 0)]), ⟨8, [v1, v2, v3, v1, v1, v3, v3, v4], 4, [some ⟨2, 0, 0, some 30⟩, some ⟨2, 0, 0, some 9⟩, some ⟨2, 0, 2, some 30⟩, some ⟨2, 0, 2, some 9⟩], 5⟩⟩
theorem k0 : m0.ok progC 10 := Ld [] 5000 trivial (by kernel_rfl)
def v6 : AV := (.agg [(.i .i64 (-1)), (.i .u8 2), (.s []), (.i .i64 0), (.ws false 1 [(.s [97])]), (.ws false 6 [(.agg [(.i .i64 (-1)), (.i .u8 0), (.s []), (.i .i64 (-1)), (.ws false 1 []), (.ws false 6 [])])])])
def v7 : Box := (.cells 56 [(.ws false 6 [(.agg [(.b true), (.i .u8 2), (.ws false 1 []), (.ws false 1 []), (.i .i64 0), (.i .i64 0)])]), (.i .u8 2), (.s []), (.ws false 1 [(.s [97]), (.s [98])]), v5])
def v8 : Box := (.cells 30 [(.i .u8 0), (.s []), .nsl, .nsl])
def v9 : Box := (.cells 34 [(.i .i64 (-1)), (.i .u8 2), (.s []), (.i .i64 0), (.ws false 1 [(.s [97])]), (.ws false 6 [(.agg [(.i .i64 (-1)), (.i .u8 0), (.s []), (.i .i64 (-1)), (.ws false 1 []), (.ws false 6 [])])])])
def v10 : Box := (.cells 30 [(.i .u8 2), (.s []), (.ws false 1 [(.s [97]), (.s [98])]), v5])
def v11 : Box := (.cells 30 [(.i .u8 2), (.s []), (.sl 1 [(.s [98])] (.tok 6 0)), (.sl 4 [(.agg [(.i .u8 1), (.s [98]), .nsl, .nsl])] (.tok 7 0))])
def v12 : Box := (.cells 30 [(.i .u8 2), (.s []), (.sl 1 [(.s [97]), (.s [98])] (.tok 4 0)), (.sl 4 [(.agg [(.i .u8 1), (.s [97]), .nsl, .nsl]), (.agg [(.i .u8 1), (.s [98]), .nsl, .nsl])] (.tok 5 0))])
def v13 : AV := (.agg [(.i .u8 2), (.s []), (.ws false 1 [(.s [98])]), (.ws false 4 [(.agg [(.i .u8 1), (.s [98]), (.ws false 1 []), (.ws false 4 [])])])])
def m1 : Ent := ⟨[(.p 15 0), v6], ⟨16, [v7, v8, v9, v10, v11, v9, v12, v11, v11, v12, v12, v1, v1, v3, v3, v4], 8, [some ⟨1, 0, 0, some 30⟩, some ⟨1, 0, 0, some 9⟩, some ⟨2, 0, 2, some 30⟩, some ⟨2, 0, 2, some 9⟩, some ⟨2, 0, 2, some 30⟩, some ⟨2, 0, 2, some 9⟩, some ⟨2, 0, 2, some 30⟩, some ⟨2, 0, 2, some 9⟩], 12⟩, v13, ⟨16, [v7, v8, v9, v10, v11, v9, v12, v11, v11, v12, v12, v1, v1, v3, v3, v4], 8, [some ⟨1, 0, 0, some 30⟩, some ⟨1, 0, 0, some 9⟩, some ⟨2, 0, 2, some 30⟩, some ⟨2, 0, 2, some 9⟩, some ⟨2, 0, 2, some 30⟩, some ⟨2, 0, 2, some 9⟩, some ⟨2, 0, 2, some 30⟩, some ⟨2, 0, 2, some 9⟩], 12⟩⟩
theorem k1 : m1.ok progC 24 := Ld [] 5000 trivial (by kernel_rfl)
def m2 : Ent := ⟨[(.ws false 6 [(.agg [(.b true), (.i .u8 2), (.ws false 1 []), (.ws false 1 []), (.i .i64 0), (.i .i64 0)])]), v0, v6], ⟨12, [v11, v9, v12, v11, v11, v12, v12, v1, v1, v3, v3, v4], 8, [some ⟨1, 0, 0, some 30⟩, some ⟨1, 0, 0, some 9⟩, some ⟨2, 0, 2, some 30⟩, some ⟨2, 0, 2, some 9⟩, some ⟨2, 0, 2, some 30⟩, some ⟨2, 0, 2, some 9⟩, some ⟨2, 0, 2, some 30⟩, some ⟨2, 0, 2, some 9⟩], 9⟩, (.tup [v13, (.i .i64 0)]), ⟨12, [v11, v9, v12, v11, v11, v12, v12, v1, v1, v3, v3, v4], 8, [some ⟨1, 0, 0, some 30⟩, some ⟨1, 0, 0, some 9⟩, some ⟨2, 0, 2, some 30⟩, some ⟨2, 0, 2, some 9⟩, some ⟨2, 0, 2, some 30⟩, some ⟨2, 0, 2, some 9⟩, some ⟨2, 0, 2, some 30⟩, some ⟨2, 0, 2, some 9⟩], 9⟩⟩
theorem k2 : m2.ok progC 10 := Ld [(24, [m1])] 5000 ⟨⟨k1, trivial⟩, trivial⟩ (by kernel_rfl)
def v14 : AV := (.agg [(.i .i64 (-1)), (.i .u8 2), (.s []), (.i .i64 0), (.ws false 1 [(.s [99])]), (.ws false 6 [(.agg [(.i .i64 (-1)), (.i .u8 1), (.s [99]), (.i .i64 (-1)), (.ws false 1 []), (.ws false 6 [])])])])
def v15 : Box := (.cells 34 [(.i .i64 (-1)), (.i .u8 2), (.s []), (.i .i64 0), (.ws false 1 [(.s [99])]), (.ws false 6 [(.agg [(.i .i64 (-1)), (.i .u8 1), (.s [99]), (.i .i64 (-1)), (.ws false 1 []), (.ws false 6 [])])])])
def v16 : AV := (.sl 4 [(.agg [(.i .u8 1), (.s [97]), .nsl, .nsl]), (.agg [(.i .u8 1), (.s [98]), .nsl, .nsl]), (.agg [(.i .u8 1), (.s [99]), .nsl, .nsl])] (.tok 11 0))
def v17 : Box := (.cells 30 [(.i .u8 2), (.s []), (.sl 1 [(.s [97]), (.s [98]), (.s [99])] (.tok 10 0)), v16])
def v18 : Box := (.cells 30 [(.i .u8 2), (.s []), (.sl 1 [(.s [97]), (.s [98])] (.tok 8 0)), (.sl 4 [(.agg [(.i .u8 1), (.s [97]), .nsl, .nsl]), (.agg [(.i .u8 1), (.s [98]), .nsl, .nsl])] (.tok 9 0))])
def v19 : AV := (.ws false 4 [(.agg [(.i .u8 1), (.s [97]), (.ws false 1 []), (.ws false 4 [])]), (.agg [(.i .u8 1), (.s [98]), (.ws false 1 []), (.ws false 4 [])]), (.agg [(.i .u8 1), (.s [99]), (.ws false 1 []), (.ws false 4 [])])])
def m3 : Ent := ⟨[(.p 19 0), v14], ⟨20, [v7, v8, v15, v10, v17, v15, v18, v17, v17, v18, v18, v11, v11, v12, v12, v1, v1, v3, v3, v4], 12, [some ⟨3, 0, 0, some 30⟩, some ⟨3, 0, 0, some 9⟩, some ⟨2, 0, 2, some 30⟩, some ⟨2, 0, 2, some 9⟩, some ⟨1, 0, 1, some 30⟩, some ⟨1, 0, 1, some 9⟩, some ⟨2, 0, 2, some 30⟩, some ⟨2, 0, 2, some 9⟩, some ⟨2, 0, 2, some 30⟩, some ⟨2, 0, 2, some 9⟩, some ⟨2, 0, 2, some 30⟩, some ⟨2, 0, 2, some 9⟩], 16⟩, (.agg [(.i .u8 2), (.s []), (.ws false 1 [(.s [97]), (.s [98]), (.s [99])]), v19]), ⟨20, [v7, v8, v15, v10, v17, v15, v18, v17, v17, v18, v18, v11, v11, v12, v12, v1, v1, v3, v3, v4], 12, [some ⟨3, 0, 0, some 30⟩, some ⟨3, 0, 0, some 9⟩, some ⟨2, 0, 2, some 30⟩, some ⟨2, 0, 2, some 9⟩, some ⟨1, 0, 1, some 30⟩, some ⟨1, 0, 1, some 9⟩, some ⟨2, 0, 2, some 30⟩, some ⟨2, 0, 2, some 9⟩, some ⟨2, 0, 2, some 30⟩, some ⟨2, 0, 2, some 9⟩, some ⟨2, 0, 2, some 30⟩, some ⟨2, 0, 2, some 9⟩], 16⟩⟩
theorem k3 : m3.ok progC 24 := Ld [] 5000 trivial (by kernel_rfl)
def m4 : Ent := ⟨[(.ws false 6 [(.agg [(.b true), (.i .u8 2), (.ws false 1 []), (.ws false 1 []), (.i .i64 0), (.i .i64 0)])]), v0, v14], ⟨16, [v17, v15, v18, v17, v17, v18, v18, v11, v11, v12, v12, v1, v1, v3, v3, v4], 12, [some ⟨3, 0, 0, some 30⟩, some ⟨3, 0, 0, some 9⟩, some ⟨2, 0, 2, some 30⟩, some ⟨2, 0, 2, some 9⟩, some ⟨1, 0, 1, some 30⟩, some ⟨1, 0, 1, some 9⟩, some ⟨2, 0, 2, some 30⟩, some ⟨2, 0, 2, some 9⟩, some ⟨2, 0, 2, some 30⟩, some ⟨2, 0, 2, some 9⟩, some ⟨2, 0, 2, some 30⟩, some ⟨2, 0, 2, some 9⟩], 13⟩, (.tup [(.agg [(.i .u8 2), (.s []), (.ws false 1 [(.s [97]), (.s [98]), (.s [99])]), v19]), (.i .i64 0)]), ⟨16, [v17, v15, v18, v17, v17, v18, v18, v11, v11, v12, v12, v1, v1, v3, v3, v4], 12, [some ⟨3, 0, 0, some 30⟩, some ⟨3, 0, 0, some 9⟩, some ⟨2, 0, 2, some 30⟩, some ⟨2, 0, 2, some 9⟩, some ⟨1, 0, 1, some 30⟩, some ⟨1, 0, 1, some 9⟩, some ⟨2, 0, 2, some 30⟩, some ⟨2, 0, 2, some 9⟩, some ⟨2, 0, 2, some 30⟩, some ⟨2, 0, 2, some 9⟩, some ⟨2, 0, 2, some 30⟩, some ⟨2, 0, 2, some 9⟩], 13⟩⟩
theorem k4 : m4.ok progC 10 := Ld [(24, [m3])] 5000 ⟨⟨k3, trivial⟩, trivial⟩ (by kernel_rfl)
def v20 : AV := (.agg [(.i .i64 (-1)), (.i .u8 2), (.s []), (.i .i64 (-1)), (.ws false 1 [(.s [99])]), (.ws false 6 [(.agg [(.i .i64 (-1)), (.i .u8 1), (.s [99]), (.i .i64 (-1)), (.ws false 1 []), (.ws false 6 [])])])])
def v21 : Box := (.cells 30 [(.i .u8 2), (.s []), (.sl 1 [(.s [99])] (.tok 14 0)), (.sl 4 [(.agg [(.i .u8 1), (.s [99]), .nsl, .nsl])] (.tok 15 0))])
def v22 : Box := (.cells 34 [(.i .i64 (-1)), (.i .u8 2), (.s []), (.i .i64 (-1)), (.ws false 1 [(.s [99])]), (.ws false 6 [(.agg [(.i .i64 (-1)), (.i .u8 1), (.s [99]), (.i .i64 (-1)), (.ws false 1 []), (.ws false 6 [])])])])
def v23 : Box := (.cells 30 [(.i .u8 2), (.s []), (.sl 1 [(.s [97]), (.s [98])] (.tok 12 0)), (.sl 4 [(.agg [(.i .u8 1), (.s [97]), .nsl, .nsl]), (.agg [(.i .u8 1), (.s [98]), .nsl, .nsl])] (.tok 13 0))])
def v24 : AV := (.agg [(.i .u8 2), (.s []), (.ws false 1 [(.s [99])]), (.ws false 4 [(.agg [(.i .u8 1), (.s [99]), (.ws false 1 []), (.ws false 4 [])])])])
def m5 : Ent := ⟨[(.ws false 6 [(.agg [(.b true), (.i .u8 2), (.ws false 1 []), (.ws false 1 []), (.i .i64 0), (.i .i64 0)])]), v0, v20], ⟨20, [v21, v22, v23, v21, v21, v23, v23, v17, v17, v18, v18, v11, v11, v12, v12, v1, v1, v3, v3, v4], 16, [some ⟨1, 0, 0, some 30⟩, some ⟨1, 0, 0, some 9⟩, some ⟨2, 0, 2, some 30⟩, some ⟨2, 0, 2, some 9⟩, some ⟨3, 0, 3, some 30⟩, some ⟨3, 0, 3, some 9⟩, some ⟨2, 0, 2, some 30⟩, some ⟨2, 0, 2, some 9⟩, some ⟨1, 0, 1, some 30⟩, some ⟨1, 0, 1, some 9⟩, some ⟨2, 0, 2, some 30⟩, some ⟨2, 0, 2, some 9⟩, some ⟨2, 0, 2, some 30⟩, some ⟨2, 0, 2, some 9⟩, some ⟨2, 0, 2, some 30⟩, some ⟨2, 0, 2, some 9⟩], 17⟩, (.tup [v24, (.i .i64 0)]), ⟨20, [v21, v22, v23, v21, v21, v23, v23, v17, v17, v18, v18, v11, v11, v12, v12, v1, v1, v3, v3, v4], 16, [some ⟨1, 0, 0, some 30⟩, some ⟨1, 0, 0, some 9⟩, some ⟨2, 0, 2, some 30⟩, some ⟨2, 0, 2, some 9⟩, some ⟨3, 0, 3, some 30⟩, some ⟨3, 0, 3, some 9⟩, some ⟨2, 0, 2, some 30⟩, some ⟨2, 0, 2, some 9⟩, some ⟨1, 0, 1, some 30⟩, some ⟨1, 0, 1, some 9⟩, some ⟨2, 0, 2, some 30⟩, some ⟨2, 0, 2, some 9⟩, some ⟨2, 0, 2, some 30⟩, some ⟨2, 0, 2, some 9⟩, some ⟨2, 0, 2, some 30⟩, some ⟨2, 0, 2, some 9⟩], 17⟩⟩
theorem k5 : m5.ok progC 10 := Ld [] 5000 trivial (by kernel_rfl)
def m6 : Ent := ⟨[], ⟨0, [], 0, [], 0⟩, (.b true), ⟨0, [], 0, [], 0⟩⟩
theorem k6 : m6.ok progC 6 := Ld [(10, [m5, m4, m2, m0])] 5000 ⟨⟨k5, ⟨k4, ⟨k2, ⟨k0, trivial⟩⟩⟩⟩, trivial⟩ (by kernel_rfl)
theorem HH : ∃ n s', (run progC n).call 6 [] s0 = some (.b true, s') := ZX k6
end Go.Proofs.YtbfgoopcnkeblaaGreat
