/-
  slices.Sort and slices.Compact of texts, laid at this program.
-/
import Derived.Shelf.Sort.Plain
import Derived.Shelf.Slices.CompactS
import Derived.Test.YtfpoihibfajhlaaProg
import Derived.Test.YtfpoihibfajhlaaAmKeep
import Derived.Test.YtfpoihibfajhlaaFns
set_option linter.all false
set_option linter.unusedVariables false
set_option linter.unusedSimpArgs false
set_option linter.unusedSectionVars false
set_option maxRecDepth 100000
namespace Go.Proofs
open Go.Shelf
def Try.lays190_ren:Ren:={ f:=fun x=>match x with | 190=>13 | 125=>21 | 258=>20 | 128=>34 | 129=>35 | 302=>25 | 303=>26 | 304=>27 | 305=>28 | 306=>29 | 307=>30 | 308=>31 | 309=>32 | 310=>33 | 333=>40 | 329=>41 | 330=>42 | 334=>43 | 335=>44 | 336=>45 | 344=>49 | n=>n,t:=fun x=>match x with | 31=>22 | 9=>9 | 3=>3 | 46=>48 | 0=>0 | 51=>60 | 53=>62 | 4=>4 | 183=>53 | 182=>52 | 131=>57 | 5=>5 | 218=>65 | 222=>69 | 228=>71 | 229=>72 | n=>n,g:=fun x=>x }
theorem Try.lays190:Lays.n190 Try.prog Try.lays190_ren where
 mixed:=by kernel_rfl
 f125:=Try.func21.trans (congrArg some (by kernel_rfl))
 f128:=Try.func34.trans (congrArg some (by kernel_rfl))
 f129:=Try.func35.trans (congrArg some (by kernel_rfl))
 f190:=Try.func13.trans (congrArg some (by kernel_rfl))
 f258:=Try.func20.trans (congrArg some (by kernel_rfl))
 f302:=Try.func25.trans (congrArg some (by kernel_rfl))
 f303:=Try.func26.trans (congrArg some (by kernel_rfl))
 f304:=Try.func27.trans (congrArg some (by kernel_rfl))
 f305:=Try.func28.trans (congrArg some (by kernel_rfl))
 f306:=Try.func29.trans (congrArg some (by kernel_rfl))
 f307:=Try.func30.trans (congrArg some (by kernel_rfl))
 f308:=Try.func31.trans (congrArg some (by kernel_rfl))
 f309:=Try.func32.trans (congrArg some (by kernel_rfl))
 f310:=Try.func33.trans (congrArg some (by kernel_rfl))
 f329:=Try.func41.trans (congrArg some (by kernel_rfl))
 f330:=Try.func42.trans (congrArg some (by kernel_rfl))
 f333:=Try.func40.trans (congrArg some (by kernel_rfl))
 f334:=Try.func43.trans (congrArg some (by kernel_rfl))
 f335:=Try.func44.trans (congrArg some (by kernel_rfl))
 f336:=Try.func45.trans (congrArg some (by kernel_rfl))
 f344:=Try.func49.trans (congrArg some (by kernel_rfl))
 t0:=Try.underlying0
 a0:=Try.isAgg0
 z0:=Try.sizeOf0
 v0:=Try.zeroValue0
 t3:=Try.underlying3
 a3:=Try.isAgg3
 z3:=Try.sizeOf3
 v3:=Try.zeroValue3
 t4:=Try.underlying4
 a4:=Try.isAgg4
 z4:=Try.sizeOf4
 v4:=Try.zeroValue4
 t5:=Try.underlying5
 a5:=Try.isAgg5
 z5:=Try.sizeOf5
 v5:=Try.zeroValue5
 t9:=Try.underlying9
 a9:=Try.isAgg9
 z9:=Try.sizeOf9
 v9:=Try.zeroValue9
 t31:=Try.underlying22
 a31:=Try.isAgg22
 z31:=Try.sizeOf22
 v31:=Try.zeroValue22
 t46:=Try.underlying48
 a46:=Try.isAgg48
 z46:=Try.sizeOf48
 v46:=Try.zeroValue48
 t51:=Try.underlying60
 a51:=Try.isAgg60
 z51:=Try.sizeOf60
 v51:=Try.zeroValue60
 t53:=Try.underlying62
 a53:=Try.isAgg62
 z53:=Try.sizeOf62
 v53:=Try.zeroValue62
 t131:=Try.underlying57
 a131:=Try.isAgg57
 z131:=Try.sizeOf57
 v131:=Try.zeroValue57
 t182:=Try.underlying52
 a182:=Try.isAgg52
 z182:=Try.sizeOf52
 v182:=Try.zeroValue52
 t183:=Try.underlying53
 a183:=Try.isAgg53
 z183:=Try.sizeOf53
 v183:=Try.zeroValue53
 t218:=Try.underlying65
 a218:=Try.isAgg65
 z218:=Try.sizeOf65
 v218:=Try.zeroValue65
 t222:=Try.underlying69
 a222:=Try.isAgg69
 z222:=Try.sizeOf69
 v222:=Try.zeroValue69
 t228:=Try.underlying71
 a228:=Try.isAgg71
 z228:=Try.sizeOf71
 v228:=Try.zeroValue71
 t229:=Try.underlying72
 a229:=Try.isAgg72
 z229:=Try.sizeOf72
 v229:=Try.zeroValue72
def Try.lays194_ren:Ren:={ f:=fun x=>match x with | 194=>14 | n=>n,t:=fun x=>match x with | 31=>22 | 9=>9 | 3=>3 | 4=>4 | 0=>0 | n=>n,g:=fun x=>x }
theorem Try.lays194:Lays.n194 Try.prog Try.lays194_ren where
 mixed:=by kernel_rfl
 f194:=Try.func14.trans (congrArg some (by kernel_rfl))
 t0:=Try.underlying0
 a0:=Try.isAgg0
 z0:=Try.sizeOf0
 v0:=Try.zeroValue0
 t3:=Try.underlying3
 a3:=Try.isAgg3
 z3:=Try.sizeOf3
 v3:=Try.zeroValue3
 t4:=Try.underlying4
 a4:=Try.isAgg4
 z4:=Try.sizeOf4
 v4:=Try.zeroValue4
 t9:=Try.underlying9
 a9:=Try.isAgg9
 z9:=Try.sizeOf9
 v9:=Try.zeroValue9
 t31:=Try.underlying22
 a31:=Try.isAgg22
 z31:=Try.sizeOf22
 v31:=Try.zeroValue22
open Go.Sort Go.RowKit Go.Lib in
theorem Try.slices_Sort_string (blk off cap:Nat) (ss:List (List UInt8)) (w:World) (hH:Holds encStr w blk off ss.toArray) (hblk:blk < w.heap.size) (hsz:ss.length < 4611686018427387904) :
    Calls Try.prog 13 #[.slice (some ⟨blk,off,none⟩) ss.length cap] w fun e w' =>
     e=.returned (.tuple #[])∧∃ n os,w'=grow (putRow encStr (Sort.ahead w n) blk off (ss.mergeSort fun x y=>decide (x≤y)).toArray) os:=Any.slices_Sort_string Try.lays190 blk off cap ss w hH hblk hsz
open Go.Sort Go.RowKit Go.Lib in
theorem Try.slices_Compact_string (blk off cap:Nat) (zs:List (List UInt8)) (w:World) (hH:Holds encStr w blk off zs.toArray) (hsz:zs.length≤9223372036854775807) (hcap:zs.length≤cap) :
    Calls Try.prog 14 #[.slice (some ⟨blk,off,none⟩) zs.length cap] w fun e w'=>e=.returned (.slice (some ⟨blk,off,none⟩) (Lib.compact zs).length cap)∧∃ q,w'=putRow encStr (Sort.ahead w q) blk off (Lib.compact zs++List.replicate (zs.length - (Lib.compact zs).length) []).toArray:=Any.slices_Compact_string Try.lays194 blk off cap zs w hH hsz hcap
end Go.Proofs
namespace Go.Proofs.Ytfpoihibfajhlaa
open Go.Proofs.Ytfpoihibfajhlaa.Am Go.Proofs
theorem C7 {gt:Nat→Option (List AV)}:JF Try.prog gt 13 E6:=Lc ⟨_,_,Try.func13,rfl⟩ fun blk off cap ss w h1 h2 h3=>Try.slices_Sort_string blk off cap ss w h1 h2 h3
theorem Co {gt:Nat→Option (List AV)}:JF Try.prog gt 14 Cn:=I4 ⟨_,_,Try.func14,rfl⟩ fun blk off cap zs w h1 h2 h3=>Try.slices_Compact_string blk off cap zs w h1 h2 h3
end Go.Proofs.Ytfpoihibfajhlaa
