/-
  slices.Sort of ints, laid at this program.
-/
import Derived.Shelf.Sort.Plain
import Derived.Shelf.Slices.In.SortNone
import Derived.Test.YtgloinighjdhlaaProg
import Derived.Test.YtgloinighjdhlaaAmRg
import Derived.Test.YtgloinighjdhlaaFns
set_option linter.all false
set_option linter.unusedVariables false
set_option linter.unusedSimpArgs false
set_option linter.unusedSectionVars false
set_option maxRecDepth 100000
namespace Go.Proofs
open Go.Shelf
def Try.lays189_ren:Ren:={ f:=fun x=>match x with | 189=>114 | 125=>124 | 257=>123 | 128=>139 | 129=>140 | 294=>130 | 295=>131 | 296=>132 | 297=>133 | 298=>134 | 299=>135 | 216=>136 | 300=>137 | 301=>138 | 328=>144 | 329=>145 | 330=>146 | 331=>147 | 332=>148 | 215=>149 | 343=>150 | n=>n,t:=fun x=>match x with | 28=>37 | 3=>3 | 46=>121 | 0=>0 | 51=>142 | 53=>144 | 4=>4 | 183=>135 | 182=>134 | 131=>112 | 5=>5 | 9=>9 | 218=>148 | 222=>152 | 228=>154 | 229=>155 | n=>n,g:=fun x=>x }
theorem Try.lays189:Lays.n189 Try.prog Try.lays189_ren where
 mixed:=by kernel_rfl
 f125:=Try.func124.trans (congrArg some (by kernel_rfl))
 f128:=Try.func139.trans (congrArg some (by kernel_rfl))
 f129:=Try.func140.trans (congrArg some (by kernel_rfl))
 f189:=Try.func114.trans (congrArg some (by kernel_rfl))
 f215:=Try.func149.trans (congrArg some (by kernel_rfl))
 f216:=Try.func136.trans (congrArg some (by kernel_rfl))
 f257:=Try.func123.trans (congrArg some (by kernel_rfl))
 f294:=Try.func130.trans (congrArg some (by kernel_rfl))
 f295:=Try.func131.trans (congrArg some (by kernel_rfl))
 f296:=Try.func132.trans (congrArg some (by kernel_rfl))
 f297:=Try.func133.trans (congrArg some (by kernel_rfl))
 f298:=Try.func134.trans (congrArg some (by kernel_rfl))
 f299:=Try.func135.trans (congrArg some (by kernel_rfl))
 f300:=Try.func137.trans (congrArg some (by kernel_rfl))
 f301:=Try.func138.trans (congrArg some (by kernel_rfl))
 f328:=Try.func144.trans (congrArg some (by kernel_rfl))
 f329:=Try.func145.trans (congrArg some (by kernel_rfl))
 f330:=Try.func146.trans (congrArg some (by kernel_rfl))
 f331:=Try.func147.trans (congrArg some (by kernel_rfl))
 f332:=Try.func148.trans (congrArg some (by kernel_rfl))
 f343:=Try.func150.trans (congrArg some (by kernel_rfl))
 t0:=Try.underlying0
 a0:=Try.isAgg0
 z0:=Try.sizeOf0
 v0:=Try.zeroValue0
 t3:=Try.underlying3
 a3:=Try.isAgg3
 z3:=Try.sizeOf3
 v3:=Try.zeroValue3
 t4:=Try.underlying4
 a4:=Try.isAgg4
 z4:=Try.sizeOf4
 v4:=Try.zeroValue4
 t5:=Try.underlying5
 a5:=Try.isAgg5
 z5:=Try.sizeOf5
 v5:=Try.zeroValue5
 t9:=Try.underlying9
 a9:=Try.isAgg9
 z9:=Try.sizeOf9
 v9:=Try.zeroValue9
 t28:=Try.underlying37
 a28:=Try.isAgg37
 z28:=Try.sizeOf37
 v28:=Try.zeroValue37
 t46:=Try.underlying121
 a46:=Try.isAgg121
 z46:=Try.sizeOf121
 v46:=Try.zeroValue121
 t51:=Try.underlying142
 a51:=Try.isAgg142
 z51:=Try.sizeOf142
 v51:=Try.zeroValue142
 t53:=Try.underlying144
 a53:=Try.isAgg144
 z53:=Try.sizeOf144
 v53:=Try.zeroValue144
 t131:=Try.underlying112
 a131:=Try.isAgg112
 z131:=Try.sizeOf112
 v131:=Try.zeroValue112
 t182:=Try.underlying134
 a182:=Try.isAgg134
 z182:=Try.sizeOf134
 v182:=Try.zeroValue134
 t183:=Try.underlying135
 a183:=Try.isAgg135
 z183:=Try.sizeOf135
 v183:=Try.zeroValue135
 t218:=Try.underlying148
 a218:=Try.isAgg148
 z218:=Try.sizeOf148
 v218:=Try.zeroValue148
 t222:=Try.underlying152
 a222:=Try.isAgg152
 z222:=Try.sizeOf152
 v222:=Try.zeroValue152
 t228:=Try.underlying154
 a228:=Try.isAgg154
 z228:=Try.sizeOf154
 v228:=Try.zeroValue154
 t229:=Try.underlying155
 a229:=Try.isAgg155
 z229:=Try.sizeOf155
 v229:=Try.zeroValue155
open Go.Sort Go.RowKit Go.Lib in
theorem Try.slices_Sort_int (blk off cap:Nat) (zs:List Int) (w:World) (hH:Holds (Value.int .i64) w blk off zs.toArray) (hblk:blk < w.heap.size) (hsz:zs.length < 4611686018427387904) :
    Calls Try.prog 114 #[.slice (some ⟨blk,off,none⟩) zs.length cap] w fun e w' =>
     e=.returned (.tuple #[])∧∃ n os,w'=grow (putRow (Value.int .i64) (Sort.ahead w n) blk off (zs.mergeSort fun x y=>decide (x≤y)).toArray) os:=Any.slices_Sort_int Try.lays189 blk off cap zs w hH hblk hsz
open Go.Sort Go.RowKit Go.Lib in
theorem Try.slices_Sort_int_none (p:Option Addr) (cap:Nat) (w:World) :
    Calls Try.prog 114 #[.slice p 0 cap] w fun e w'=>e=.returned (.tuple #[])∧w'=w:=Any.slices_Sort_int_none Try.lays189 p cap w
end Go.Proofs
namespace Go.Proofs.Ytgloinighjdhlaa
open Go.Proofs.Ytgloinighjdhlaa.Am Go.Proofs
theorem Dw {gt:Nat→Option (List AV)}:PrimOk Try.prog gt 114 GE:=Ot ⟨_,_,Try.func114,rfl⟩ (fun p cap w=>Try.slices_Sort_int_none p cap w) fun blk off cap zs w h1 h2 h3=>Try.slices_Sort_int blk off cap zs w h1 h2 h3
end Go.Proofs.Ytgloinighjdhlaa
