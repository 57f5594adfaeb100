/-
  slices.Sort and slices.Compact of texts, laid at this program.
-/
import Derived.Shelf.Sort.Plain
import Derived.Shelf.Slices.CompactS
import Derived.Shelf.Slices.In.SortNone
import Derived.Test.YtmnbfgfgjmmhfaaGreatDoorProg
import Derived.Test.YtmnbfgfgjmmhfaaGreatDoorAmSorted
import Derived.Test.YtmnbfgfgjmmhfaaGreatDoorFns
set_option linter.all false
set_option linter.unusedVariables false
set_option linter.unusedSimpArgs false
set_option linter.unusedSectionVars false
set_option maxRecDepth 100000
namespace Go.Proofs
open Go.Shelf
def Tryz.lays190_ren : Ren := { f := fun x => match x with | 190 => 76 | 125 => 109 | 258 => 108 | 128 => 137 | 129 => 138 | 302 => 128 | 303 => 129 | 304 => 130 | 305 => 131 | 306 => 132 | 307 => 133 | 308 => 134 | 309 => 135 | 310 => 136 | 333 => 155 | 329 => 156 | 330 => 157 | 334 => 158 | 335 => 159 | 336 => 160 | 344 => 168 | n => n, t := fun x => match x with | 31 => 26 | 9 => 9 | 3 => 3 | 46 => 119 | 0 => 0 | 51 => 142 | 53 => 145 | 4 => 4 | 183 => 153 | 182 => 152 | 131 => 157 | 5 => 5 | 218 => 170 | 222 => 174 | 228 => 178 | 229 => 179 | n => n, g := fun x => x }
theorem Tryz.lays190 : Lays.n190 Tryz.prog Tryz.lays190_ren where
 mixed := by kernel_rfl
 f125 := Tryz.func109.trans (congrArg some (by kernel_rfl))
 f128 := Tryz.func137.trans (congrArg some (by kernel_rfl))
 f129 := Tryz.func138.trans (congrArg some (by kernel_rfl))
 f190 := Tryz.func76.trans (congrArg some (by kernel_rfl))
 f258 := Tryz.func108.trans (congrArg some (by kernel_rfl))
 f302 := Tryz.func128.trans (congrArg some (by kernel_rfl))
 f303 := Tryz.func129.trans (congrArg some (by kernel_rfl))
 f304 := Tryz.func130.trans (congrArg some (by kernel_rfl))
 f305 := Tryz.func131.trans (congrArg some (by kernel_rfl))
 f306 := Tryz.func132.trans (congrArg some (by kernel_rfl))
 f307 := Tryz.func133.trans (congrArg some (by kernel_rfl))
 f308 := Tryz.func134.trans (congrArg some (by kernel_rfl))
 f309 := Tryz.func135.trans (congrArg some (by kernel_rfl))
 f310 := Tryz.func136.trans (congrArg some (by kernel_rfl))
 f329 := Tryz.func156.trans (congrArg some (by kernel_rfl))
 f330 := Tryz.func157.trans (congrArg some (by kernel_rfl))
 f333 := Tryz.func155.trans (congrArg some (by kernel_rfl))
 f334 := Tryz.func158.trans (congrArg some (by kernel_rfl))
 f335 := Tryz.func159.trans (congrArg some (by kernel_rfl))
 f336 := Tryz.func160.trans (congrArg some (by kernel_rfl))
 f344 := Tryz.func168.trans (congrArg some (by kernel_rfl))
 t0 := Tryz.underlying0
 a0 := Tryz.isAgg0
 z0 := Tryz.sizeOf0
 v0 := Tryz.zeroValue0
 t3 := Tryz.underlying3
 a3 := Tryz.isAgg3
 z3 := Tryz.sizeOf3
 v3 := Tryz.zeroValue3
 t4 := Tryz.underlying4
 a4 := Tryz.isAgg4
 z4 := Tryz.sizeOf4
 v4 := Tryz.zeroValue4
 t5 := Tryz.underlying5
 a5 := Tryz.isAgg5
 z5 := Tryz.sizeOf5
 v5 := Tryz.zeroValue5
 t9 := Tryz.underlying9
 a9 := Tryz.isAgg9
 z9 := Tryz.sizeOf9
 v9 := Tryz.zeroValue9
 t31 := Tryz.underlying26
 a31 := Tryz.isAgg26
 z31 := Tryz.sizeOf26
 v31 := Tryz.zeroValue26
 t46 := Tryz.underlying119
 a46 := Tryz.isAgg119
 z46 := Tryz.sizeOf119
 v46 := Tryz.zeroValue119
 t51 := Tryz.underlying142
 a51 := Tryz.isAgg142
 z51 := Tryz.sizeOf142
 v51 := Tryz.zeroValue142
 t53 := Tryz.underlying145
 a53 := Tryz.isAgg145
 z53 := Tryz.sizeOf145
 v53 := Tryz.zeroValue145
 t131 := Tryz.underlying157
 a131 := Tryz.isAgg157
 z131 := Tryz.sizeOf157
 v131 := Tryz.zeroValue157
 t182 := Tryz.underlying152
 a182 := Tryz.isAgg152
 z182 := Tryz.sizeOf152
 v182 := Tryz.zeroValue152
 t183 := Tryz.underlying153
 a183 := Tryz.isAgg153
 z183 := Tryz.sizeOf153
 v183 := Tryz.zeroValue153
 t218 := Tryz.underlying170
 a218 := Tryz.isAgg170
 z218 := Tryz.sizeOf170
 v218 := Tryz.zeroValue170
 t222 := Tryz.underlying174
 a222 := Tryz.isAgg174
 z222 := Tryz.sizeOf174
 v222 := Tryz.zeroValue174
 t228 := Tryz.underlying178
 a228 := Tryz.isAgg178
 z228 := Tryz.sizeOf178
 v228 := Tryz.zeroValue178
 t229 := Tryz.underlying179
 a229 := Tryz.isAgg179
 z229 := Tryz.sizeOf179
 v229 := Tryz.zeroValue179
def Tryz.lays194_ren : Ren := { f := fun x => match x with | 194 => 93 | n => n, t := fun x => match x with | 31 => 26 | 9 => 9 | 3 => 3 | 4 => 4 | 0 => 0 | n => n, g := fun x => x }
theorem Tryz.lays194 : Lays.n194 Tryz.prog Tryz.lays194_ren where
 mixed := by kernel_rfl
 f194 := Tryz.func93.trans (congrArg some (by kernel_rfl))
 t0 := Tryz.underlying0
 a0 := Tryz.isAgg0
 z0 := Tryz.sizeOf0
 v0 := Tryz.zeroValue0
 t3 := Tryz.underlying3
 a3 := Tryz.isAgg3
 z3 := Tryz.sizeOf3
 v3 := Tryz.zeroValue3
 t4 := Tryz.underlying4
 a4 := Tryz.isAgg4
 z4 := Tryz.sizeOf4
 v4 := Tryz.zeroValue4
 t9 := Tryz.underlying9
 a9 := Tryz.isAgg9
 z9 := Tryz.sizeOf9
 v9 := Tryz.zeroValue9
 t31 := Tryz.underlying26
 a31 := Tryz.isAgg26
 z31 := Tryz.sizeOf26
 v31 := Tryz.zeroValue26
open Go.Sort Go.RowKit Go.Lib in
theorem Tryz.slices_Sort_string (blk off cap : Nat) (ss : List (List UInt8)) (w : World) (hH : Holds encStr w blk off ss.toArray) (hblk : blk < w.heap.size) (hsz : ss.length < 4611686018427387904) :
    Calls Tryz.prog 76 #[.slice (some ⟨blk, off, none⟩) ss.length cap] w fun e w' =>
     e = .returned (.tuple #[]) ∧ ∃ n os, w' = grow (putRow encStr (Sort.ahead w n) blk off (ss.mergeSort fun x y => decide (x ≤ y)).toArray) os := Any.slices_Sort_string Tryz.lays190 blk off cap ss w hH hblk hsz
open Go.Sort Go.RowKit Go.Lib in
theorem Tryz.slices_Compact_string (blk off cap : Nat) (zs : List (List UInt8)) (w : World) (hH : Holds encStr w blk off zs.toArray) (hsz : zs.length ≤ 9223372036854775807) (hcap : zs.length ≤ cap) :
    Calls Tryz.prog 93 #[.slice (some ⟨blk, off, none⟩) zs.length cap] w fun e w' => e = .returned (.slice (some ⟨blk, off, none⟩) (Lib.compact zs).length cap) ∧ ∃ q, w' = putRow encStr (Sort.ahead w q) blk off (Lib.compact zs ++ List.replicate (zs.length - (Lib.compact zs).length) []).toArray := Any.slices_Compact_string Tryz.lays194 blk off cap zs w hH hsz hcap
open Go.Sort Go.RowKit Go.Lib in
theorem Tryz.slices_Sort_string_none (p : Option Addr) (cap : Nat) (w : World) :
    Calls Tryz.prog 76 #[.slice p 0 cap] w fun e w' => e = .returned (.tuple #[]) ∧ w' = w := Any.slices_Sort_string_none Tryz.lays190 p cap w
open Go.Sort Go.RowKit Go.Lib in
theorem Tryz.slices_Compact_string_empty (a : Option Addr) (cap : Nat) (w : World) :
    Calls Tryz.prog 93 #[.slice a 0 cap] w fun e w' => e = .returned (.slice a 0 cap) ∧ w' = w := Any.slices_Compact_string_empty Tryz.lays194 a cap w
end Go.Proofs
namespace Go.Proofs.YtmnbfgfgjmmhfaaGreatDoor
open Go.Proofs.YtmnbfgfgjmmhfaaGreatDoor.Am Go.Proofs
theorem CZ {gt : Nat → Option (List AV)} : F3 Tryz.prog gt 76 Gz := NT (OP ⟨_, _, Tryz.func76, rfl⟩ fun blk off cap ss w h1 h2 h3 => Tryz.slices_Sort_string blk off cap ss w h1 h2 h3) fun p cap w => Tryz.slices_Sort_string_none p cap w
theorem CD {gt : Nat → Option (List AV)} : F3 Tryz.prog gt 93 Eb := Kl (LN ⟨_, _, Tryz.func93, rfl⟩ fun blk off cap zs w h1 h2 h3 => Tryz.slices_Compact_string blk off cap zs w h1 h2 h3) fun p cap w => Tryz.slices_Compact_string_empty p cap w
end Go.Proofs.YtmnbfgfgjmmhfaaGreatDoor
