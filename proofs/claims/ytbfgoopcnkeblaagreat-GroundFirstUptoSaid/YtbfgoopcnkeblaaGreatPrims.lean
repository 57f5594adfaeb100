/-
  Functions of the library told by contracts, laid at this program.
-/
import Derived.Shelf.SlIter.Nil
import Derived.Shelf.SortM.Plain
import Derived.Shelf.SortM.SortNone
import Derived.Test.YtbfgoopcnkeblaaGreatProg
import Derived.Test.YtbfgoopcnkeblaaGreatAmRg
import Derived.Test.YtbfgoopcnkeblaaGreatFns
import Derived.Shelf.Sort.Plain
import Derived.Shelf.Slices.In.SortNone
set_option linter.all false
set_option linter.unusedVariables false
set_option linter.unusedSimpArgs false
set_option linter.unusedSectionVars false
set_option maxRecDepth 100000
namespace Go.Proofs
open Go.Shelf
def Tryz.keys65_ren : Ren := { f := fun x => match x with | 7 => 65 | 10 => 87 | n => n, t := fun x => match x with | 23 => 83 | 26 => 9 | 3 => 3 | 28 => 66 | 0 => 0 | 27 => 65 | 33 => 72 | 4 => 4 | n => n, g := fun x => x }
theorem Tryz.keys65 : SlLaysZ.n7 Tryz.prog Tryz.keys65_ren where
 mixed := by kernel_rfl
 f7 := ⟨Tryz.f65.name, by kernel_rfl, Tryz.func65.trans (congrArg some (by kernel_rfl))⟩
 f10 := ⟨Tryz.f87.name, by kernel_rfl, Tryz.func87.trans (congrArg some (by kernel_rfl))⟩
 t0 := Tryz.underlying0
 a0 := Tryz.isAgg0
 z0 := Tryz.sizeOf0
 v0 := Tryz.zeroValue0
 t4 := Tryz.underlying4
 a4 := Tryz.isAgg4
 z4 := Tryz.sizeOf4
 v4 := Tryz.zeroValue4
 t23 := Tryz.underlying83
 a23 := Tryz.isAgg83
 z23 := Tryz.sizeOf83
 v23 := Tryz.zeroValue83
 t26 := Tryz.underlying9
 a26 := Tryz.isAgg9
 z26 := Tryz.sizeOf9
 v26 := Tryz.zeroValue9
 t27 := Tryz.underlying65
 a27 := Tryz.isAgg65
 z27 := Tryz.sizeOf65
 v27 := Tryz.zeroValue65
 t28 := Tryz.underlying66
 a28 := Tryz.isAgg66
 z28 := Tryz.sizeOf66
 v28 := Tryz.zeroValue66
 t33 := Tryz.underlying72
 a33 := Tryz.isAgg72
 z33 := Tryz.sizeOf72
 v33 := Tryz.zeroValue72
def Tryz.sorted64_ren : Ren := { f := fun x => match x with | 6 => 64 | 8 => 85 | 9 => 86 | 11 => 99 | 13 => 101 | 12 => 100 | 23 => 119 | 24 => 120 | 14 => 111 | 15 => 112 | 16 => 113 | 17 => 114 | 18 => 115 | 19 => 116 | 20 => 66 | 21 => 117 | 22 => 118 | 25 => 126 | 26 => 127 | 27 => 128 | 28 => 129 | 29 => 130 | 30 => 88 | 31 => 140 | n => n, t := fun x => match x with | 26 => 9 | 28 => 66 | 24 => 23 | 0 => 0 | 3 => 3 | 37 => 87 | 48 => 133 | 50 => 135 | 4 => 4 | 40 => 127 | 39 => 126 | 45 => 68 | 5 => 5 | 9 => 9 | 51 => 141 | 55 => 145 | 57 => 153 | 58 => 154 | 33 => 72 | n => n, g := fun x => x }
theorem Tryz.sorted64 : SlLaysZ.n6 Tryz.prog Tryz.sorted64_ren where
 mixed := by kernel_rfl
 f6 := ⟨Tryz.f64.name, by kernel_rfl, Tryz.func64.trans (congrArg some (by kernel_rfl))⟩
 f8 := ⟨Tryz.f85.name, by kernel_rfl, Tryz.func85.trans (congrArg some (by kernel_rfl))⟩
 f11 := ⟨Tryz.f99.name, by kernel_rfl, Tryz.func99.trans (congrArg some (by kernel_rfl))⟩
 t0 := Tryz.underlying0
 a0 := Tryz.isAgg0
 z0 := Tryz.sizeOf0
 v0 := Tryz.zeroValue0
 t24 := Tryz.underlying23
 a24 := Tryz.isAgg23
 z24 := Tryz.sizeOf23
 v24 := Tryz.zeroValue23
 t26 := Tryz.underlying9
 a26 := Tryz.isAgg9
 z26 := Tryz.sizeOf9
 v26 := Tryz.zeroValue9
 t28 := Tryz.underlying66
 a28 := Tryz.isAgg66
 z28 := Tryz.sizeOf66
 v28 := Tryz.zeroValue66
 i26 := by kernel_rfl
def Tryz.sort86_ren : Ren := { f := fun x => match x with | 6 => 86 | 8 => 101 | 9 => 100 | 19 => 119 | 20 => 120 | 21 => 111 | 22 => 112 | 23 => 113 | 24 => 114 | 25 => 115 | 26 => 116 | 27 => 66 | 28 => 117 | 29 => 118 | 36 => 126 | 31 => 127 | 32 => 128 | 37 => 129 | 38 => 130 | 39 => 88 | 41 => 140 | n => n, t := fun x => match x with | 27 => 23 | 29 => 9 | 3 => 3 | 32 => 87 | 26 => 23 | 0 => 0 | 44 => 133 | 46 => 135 | 4 => 4 | 36 => 127 | 35 => 126 | 41 => 68 | 5 => 5 | 9 => 9 | 53 => 141 | 57 => 145 | 63 => 153 | 64 => 154 | n => n, g := fun x => x }
theorem Tryz.sort86 : SlLaysM.n6 Tryz.prog Tryz.sort86_ren where
 mixed := by kernel_rfl
 f6 := ⟨Tryz.f86.name, by kernel_rfl, Tryz.func86.trans (congrArg some (by kernel_rfl))⟩
 f8 := Tryz.func101.trans (congrArg some (by kernel_rfl))
 f9 := ⟨Tryz.f100.name, by kernel_rfl, Tryz.func100.trans (congrArg some (by kernel_rfl))⟩
 f19 := Tryz.func119.trans (congrArg some (by kernel_rfl))
 f20 := Tryz.func120.trans (congrArg some (by kernel_rfl))
 f21 := ⟨Tryz.f111.name, by kernel_rfl, Tryz.func111.trans (congrArg some (by kernel_rfl))⟩
 f22 := ⟨Tryz.f112.name, by kernel_rfl, Tryz.func112.trans (congrArg some (by kernel_rfl))⟩
 f23 := ⟨Tryz.f113.name, by kernel_rfl, Tryz.func113.trans (congrArg some (by kernel_rfl))⟩
 f24 := ⟨Tryz.f114.name, by kernel_rfl, Tryz.func114.trans (congrArg some (by kernel_rfl))⟩
 f25 := ⟨Tryz.f115.name, by kernel_rfl, Tryz.func115.trans (congrArg some (by kernel_rfl))⟩
 f26 := ⟨Tryz.f116.name, by kernel_rfl, Tryz.func116.trans (congrArg some (by kernel_rfl))⟩
 f27 := ⟨Tryz.f66.name, by kernel_rfl, Tryz.func66.trans (congrArg some (by kernel_rfl))⟩
 f28 := ⟨Tryz.f117.name, by kernel_rfl, Tryz.func117.trans (congrArg some (by kernel_rfl))⟩
 f29 := ⟨Tryz.f118.name, by kernel_rfl, Tryz.func118.trans (congrArg some (by kernel_rfl))⟩
 f31 := Tryz.func127.trans (congrArg some (by kernel_rfl))
 f32 := Tryz.func128.trans (congrArg some (by kernel_rfl))
 f36 := ⟨Tryz.f126.name, by kernel_rfl, Tryz.func126.trans (congrArg some (by kernel_rfl))⟩
 f37 := ⟨Tryz.f129.name, by kernel_rfl, Tryz.func129.trans (congrArg some (by kernel_rfl))⟩
 f38 := ⟨Tryz.f130.name, by kernel_rfl, Tryz.func130.trans (congrArg some (by kernel_rfl))⟩
 f39 := ⟨Tryz.f88.name, by kernel_rfl, Tryz.func88.trans (congrArg some (by kernel_rfl))⟩
 f41 := ⟨Tryz.f140.name, by kernel_rfl, Tryz.func140.trans (congrArg some (by kernel_rfl))⟩
 t0 := Tryz.underlying0
 a0 := Tryz.isAgg0
 z0 := Tryz.sizeOf0
 v0 := Tryz.zeroValue0
 t3 := Tryz.underlying3
 a3 := Tryz.isAgg3
 z3 := Tryz.sizeOf3
 v3 := Tryz.zeroValue3
 t4 := Tryz.underlying4
 a4 := Tryz.isAgg4
 z4 := Tryz.sizeOf4
 v4 := Tryz.zeroValue4
 t5 := Tryz.underlying5
 a5 := Tryz.isAgg5
 z5 := Tryz.sizeOf5
 v5 := Tryz.zeroValue5
 t9 := Tryz.underlying9
 a9 := Tryz.isAgg9
 z9 := Tryz.sizeOf9
 v9 := Tryz.zeroValue9
 t26 := Tryz.underlying23
 a26 := Tryz.isAgg23
 z26 := Tryz.sizeOf23
 v26 := Tryz.zeroValue23
 t27 := Tryz.underlying23
 a27 := Tryz.isAgg23
 z27 := Tryz.sizeOf23
 v27 := Tryz.zeroValue23
 t29 := Tryz.underlying9
 a29 := Tryz.isAgg9
 z29 := Tryz.sizeOf9
 v29 := Tryz.zeroValue9
 t32 := Tryz.underlying87
 a32 := Tryz.isAgg87
 z32 := Tryz.sizeOf87
 v32 := Tryz.zeroValue87
 t35 := Tryz.underlying126
 a35 := Tryz.isAgg126
 z35 := Tryz.sizeOf126
 v35 := Tryz.zeroValue126
 t36 := Tryz.underlying127
 a36 := Tryz.isAgg127
 z36 := Tryz.sizeOf127
 v36 := Tryz.zeroValue127
 t41 := Tryz.underlying68
 a41 := Tryz.isAgg68
 z41 := Tryz.sizeOf68
 v41 := Tryz.zeroValue68
 t44 := Tryz.underlying133
 a44 := Tryz.isAgg133
 z44 := Tryz.sizeOf133
 v44 := Tryz.zeroValue133
 t46 := Tryz.underlying135
 a46 := Tryz.isAgg135
 z46 := Tryz.sizeOf135
 v46 := Tryz.zeroValue135
 t53 := Tryz.underlying141
 a53 := Tryz.isAgg141
 z53 := Tryz.sizeOf141
 v53 := Tryz.zeroValue141
 t57 := Tryz.underlying145
 a57 := Tryz.isAgg145
 z57 := Tryz.sizeOf145
 v57 := Tryz.zeroValue145
 t63 := Tryz.underlying153
 a63 := Tryz.isAgg153
 z63 := Tryz.sizeOf153
 v63 := Tryz.zeroValue153
 t64 := Tryz.underlying154
 a64 := Tryz.isAgg154
 z64 := Tryz.sizeOf154
 v64 := Tryz.zeroValue154
open Go.RowKit Go.Maps Go.Sort in
theorem Tryz.sorts64 (m : Nat) : AnyZ.SortsIn Tryz.prog Tryz.sorted64_ren Fence.wide m :=
 ⟨fun blk off cap ss W hH hblk hsz => callsIn_wide.2 (AnyM.slices_Sort_string Tryz.sort86 blk off cap ss W hH hblk hsz),
  fun p cap W => callsIn_wide.2 (AnyM.slices_Sort_string_none Tryz.sort86 p cap W)⟩
open Go.RowKit Go.Maps Go.Sort in
theorem Tryz.sortedKeys {H : Type} {R : Value → Option (DataW H × List MemPlace)} (Bm b nn : Nat) (D0 : DataW H) (w : World) (hlt : Bm < w.heap.size) (hc : w.cell? ⟨Bm, 0, none⟩ = some (.map (some b))) (hown : w.ownsMap Tryz.prog 9 R b nn D0) (hmax : Maps.size D0 ≤ maxLen) (hbytes : Maps.size D0 * 16 ≤ 140737488355328) :
    Calls Tryz.prog 64 #[.func (.func 87) #[] #[.pointer (some ⟨Bm, 0, none⟩)]] w fun e w' => ∃ (v : Value) (ss : List (List UInt8)), e = .returned v ∧ ss.Perm (strKeys D0) ∧
     w'.ownsRow w.heap.size 9 1 v ss.length ((ss.mergeSort (fun x y => decide (x ≤ y))).map encStr) ∧ (v = .slice none 0 0 ↔ ss = []) ∧ Below w.heap.size w w' := by
 have hseq : SeqGives Fence.wide 2 Tryz.prog 87 #[.pointer (some ⟨Bm, 0, none⟩)] encStr (fun ss => ss.Perm (strKeys D0)) (Maps.size D0) w :=
  AnyZ.keys_gives (ρ := Tryz.keys65_ren) { Tryz.keys65 with } Fence.wide _ trivial rfl (by omega) Bm b nn D0 w hlt hc hown
 exact callsIn_wide.1 (AnyZ.sorted_in Tryz.sorted64 Fence.wide 5 trivial trivial trivial trivial rfl (by omega) (Tryz.sorts64 _) (enters_of Tryz.func86 (by kernel_rfl) rfl) 87 #[.pointer (some ⟨Bm, 0, none⟩)] trivial (enters_of Tryz.func87 (by kernel_rfl) rfl) _ _ hmax hbytes _ hseq)
open Go.RowKit Go.Maps Go.Sort in
theorem Tryz.sortedKeysNil (Bm : Nat) (w : World) (hlt : Bm < w.heap.size) (hc : w.cell? ⟨Bm, 0, none⟩ = some (.map none)) :
    Calls Tryz.prog 64 #[.func (.func 87) #[] #[.pointer (some ⟨Bm, 0, none⟩)]] w fun e w' => e = .returned (.slice none 0 0) ∧ Below w.heap.size w w' := by
 have hseq : SeqGives Fence.wide 2 Tryz.prog 87 #[.pointer (some ⟨Bm, 0, none⟩)] encStr (fun ss : List (List UInt8) => ss = []) 0 w :=
  AnyZ.keys_gives_nil (ρ := Tryz.keys65_ren) { Tryz.keys65 with } Fence.wide _ trivial rfl Bm w hlt hc
 refine (callsIn_wide.1 (AnyZ.sorted_in Tryz.sorted64 Fence.wide 5 trivial trivial trivial trivial rfl (by omega) (Tryz.sorts64 _) (enters_of Tryz.func86 (by kernel_rfl) rfl) 87 #[.pointer (some ⟨Bm, 0, none⟩)] trivial (enters_of Tryz.func87 (by kernel_rfl) rfl) _ 0 (Nat.zero_le _) (by omega) _ hseq)).mono ?_
 rintro e w' ⟨v, ss, rfl, hS, _, hnil, hb⟩
 exact ⟨by rw [hnil.2 hS], hb⟩
end Go.Proofs
namespace Go.Proofs.YtbfgoopcnkeblaaGreat
open Go.Proofs.YtbfgoopcnkeblaaGreat.Am Go.Proofs
theorem Dw {gt : Nat → Option (List AV)} : JK Tryz.prog gt 64 (IH 87) :=
 QT (kt := 9) (T := 9) ⟨_, _, Tryz.func64, rfl⟩ (by kernel_rfl) (fun Bm w h1 h2 => Tryz.sortedKeysNil Bm w h1 h2) fun Bm b nn D0 w h1 h2 h3 h4 h5 => Tryz.sortedKeys Bm b nn D0 w h1 h2 h3 h4 h5
end Go.Proofs.YtbfgoopcnkeblaaGreat
namespace Go.Proofs
open Go.Shelf
def Tryz.lays189_ren : Ren := { f := fun x => match x with | 189 => 108 | 125 => 101 | 257 => 125 | 128 => 119 | 129 => 120 | 294 => 131 | 295 => 132 | 296 => 133 | 297 => 134 | 298 => 135 | 299 => 136 | 216 => 137 | 300 => 138 | 301 => 139 | 328 => 141 | 329 => 127 | 330 => 128 | 331 => 142 | 332 => 143 | 215 => 144 | 343 => 145 | n => n, t := fun x => match x with | 28 => 24 | 3 => 3 | 46 => 87 | 0 => 0 | 51 => 133 | 53 => 135 | 4 => 4 | 183 => 127 | 182 => 126 | 131 => 68 | 5 => 5 | 9 => 9 | 218 => 141 | 222 => 145 | 228 => 153 | 229 => 154 | n => n, g := fun x => x }
theorem Tryz.lays189 : Lays.n189 Tryz.prog Tryz.lays189_ren where
 mixed := by kernel_rfl
 f125 := Tryz.func101.trans (congrArg some (by kernel_rfl))
 f128 := Tryz.func119.trans (congrArg some (by kernel_rfl))
 f129 := Tryz.func120.trans (congrArg some (by kernel_rfl))
 f189 := Tryz.func108.trans (congrArg some (by kernel_rfl))
 f215 := Tryz.func144.trans (congrArg some (by kernel_rfl))
 f216 := Tryz.func137.trans (congrArg some (by kernel_rfl))
 f257 := Tryz.func125.trans (congrArg some (by kernel_rfl))
 f294 := Tryz.func131.trans (congrArg some (by kernel_rfl))
 f295 := Tryz.func132.trans (congrArg some (by kernel_rfl))
 f296 := Tryz.func133.trans (congrArg some (by kernel_rfl))
 f297 := Tryz.func134.trans (congrArg some (by kernel_rfl))
 f298 := Tryz.func135.trans (congrArg some (by kernel_rfl))
 f299 := Tryz.func136.trans (congrArg some (by kernel_rfl))
 f300 := Tryz.func138.trans (congrArg some (by kernel_rfl))
 f301 := Tryz.func139.trans (congrArg some (by kernel_rfl))
 f328 := Tryz.func141.trans (congrArg some (by kernel_rfl))
 f329 := Tryz.func127.trans (congrArg some (by kernel_rfl))
 f330 := Tryz.func128.trans (congrArg some (by kernel_rfl))
 f331 := Tryz.func142.trans (congrArg some (by kernel_rfl))
 f332 := Tryz.func143.trans (congrArg some (by kernel_rfl))
 f343 := Tryz.func145.trans (congrArg some (by kernel_rfl))
 t0 := Tryz.underlying0
 a0 := Tryz.isAgg0
 z0 := Tryz.sizeOf0
 v0 := Tryz.zeroValue0
 t3 := Tryz.underlying3
 a3 := Tryz.isAgg3
 z3 := Tryz.sizeOf3
 v3 := Tryz.zeroValue3
 t4 := Tryz.underlying4
 a4 := Tryz.isAgg4
 z4 := Tryz.sizeOf4
 v4 := Tryz.zeroValue4
 t5 := Tryz.underlying5
 a5 := Tryz.isAgg5
 z5 := Tryz.sizeOf5
 v5 := Tryz.zeroValue5
 t9 := Tryz.underlying9
 a9 := Tryz.isAgg9
 z9 := Tryz.sizeOf9
 v9 := Tryz.zeroValue9
 t28 := Tryz.underlying24
 a28 := Tryz.isAgg24
 z28 := Tryz.sizeOf24
 v28 := Tryz.zeroValue24
 t46 := Tryz.underlying87
 a46 := Tryz.isAgg87
 z46 := Tryz.sizeOf87
 v46 := Tryz.zeroValue87
 t51 := Tryz.underlying133
 a51 := Tryz.isAgg133
 z51 := Tryz.sizeOf133
 v51 := Tryz.zeroValue133
 t53 := Tryz.underlying135
 a53 := Tryz.isAgg135
 z53 := Tryz.sizeOf135
 v53 := Tryz.zeroValue135
 t131 := Tryz.underlying68
 a131 := Tryz.isAgg68
 z131 := Tryz.sizeOf68
 v131 := Tryz.zeroValue68
 t182 := Tryz.underlying126
 a182 := Tryz.isAgg126
 z182 := Tryz.sizeOf126
 v182 := Tryz.zeroValue126
 t183 := Tryz.underlying127
 a183 := Tryz.isAgg127
 z183 := Tryz.sizeOf127
 v183 := Tryz.zeroValue127
 t218 := Tryz.underlying141
 a218 := Tryz.isAgg141
 z218 := Tryz.sizeOf141
 v218 := Tryz.zeroValue141
 t222 := Tryz.underlying145
 a222 := Tryz.isAgg145
 z222 := Tryz.sizeOf145
 v222 := Tryz.zeroValue145
 t228 := Tryz.underlying153
 a228 := Tryz.isAgg153
 z228 := Tryz.sizeOf153
 v228 := Tryz.zeroValue153
 t229 := Tryz.underlying154
 a229 := Tryz.isAgg154
 z229 := Tryz.sizeOf154
 v229 := Tryz.zeroValue154
open Go.Sort Go.RowKit Go.Lib in
theorem Tryz.slices_Sort_int (blk off cap : Nat) (zs : List Int) (w : World) (hH : Holds (Value.int .i64) w blk off zs.toArray) (hblk : blk < w.heap.size) (hsz : zs.length < 4611686018427387904) :
    Calls Tryz.prog 108 #[.slice (some ⟨blk, off, none⟩) zs.length cap] w fun e w' =>
     e = .returned (.tuple #[]) ∧ ∃ n os, w' = grow (putRow (Value.int .i64) (Sort.ahead w n) blk off (zs.mergeSort fun x y => decide (x ≤ y)).toArray) os := Any.slices_Sort_int Tryz.lays189 blk off cap zs w hH hblk hsz
open Go.Sort Go.RowKit Go.Lib in
theorem Tryz.slices_Sort_int_none (p : Option Addr) (cap : Nat) (w : World) :
    Calls Tryz.prog 108 #[.slice p 0 cap] w fun e w' => e = .returned (.tuple #[]) ∧ w' = w := Any.slices_Sort_int_none Tryz.lays189 p cap w
end Go.Proofs
namespace Go.Proofs.YtbfgoopcnkeblaaGreat
open Go.Proofs.YtbfgoopcnkeblaaGreat.Am Go.Proofs
theorem D9 {gt : Nat → Option (List AV)} : JK Tryz.prog gt 108 Gi := PP ⟨_, _, Tryz.func108, rfl⟩ (fun p cap w => Tryz.slices_Sort_int_none p cap w) fun blk off cap zs w h1 h2 h3 => Tryz.slices_Sort_int blk off cap zs w h1 h2 h3
end Go.Proofs.YtbfgoopcnkeblaaGreat
