/-
  slices.Sort of ints, laid at this program.
-/
import Derived.Shelf.Sort.Plain
import Derived.Shelf.Slices.In.SortNone
import Derived.Test.YtgloinighjdhlaaGreatProg
import Derived.Test.YtgloinighjdhlaaGreatAmDeleg2
import Derived.Test.YtgloinighjdhlaaGreatFns
set_option linter.all false
set_option linter.unusedVariables false
set_option linter.unusedSimpArgs false
set_option linter.unusedSectionVars false
set_option maxRecDepth 100000
namespace Go.Proofs
open Go.Shelf
def Tryz.lays189_ren:Ren:={ f:=fun x=>match x with | 189=>92 | 125=>112 | 257=>111 | 128=>132 | 129=>133 | 294=>123 | 295=>124 | 296=>125 | 297=>126 | 298=>127 | 299=>128 | 216=>129 | 300=>130 | 301=>131 | 328=>137 | 329=>138 | 330=>139 | 331=>140 | 332=>141 | 215=>142 | 343=>144 | n=>n,t:=fun x=>match x with | 28=>46 | 3=>3 | 46=>78 | 0=>0 | 51=>134 | 53=>136 | 4=>4 | 183=>127 | 182=>126 | 131=>58 | 5=>5 | 9=>9 | 218=>139 | 222=>143 | 228=>145 | 229=>146 | n=>n,g:=fun x=>x }
theorem Tryz.lays189:Lays.n189 Tryz.prog Tryz.lays189_ren where
 mixed:=by kernel_rfl
 f125:=Tryz.func112.trans (congrArg some (by kernel_rfl))
 f128:=Tryz.func132.trans (congrArg some (by kernel_rfl))
 f129:=Tryz.func133.trans (congrArg some (by kernel_rfl))
 f189:=Tryz.func92.trans (congrArg some (by kernel_rfl))
 f215:=Tryz.func142.trans (congrArg some (by kernel_rfl))
 f216:=Tryz.func129.trans (congrArg some (by kernel_rfl))
 f257:=Tryz.func111.trans (congrArg some (by kernel_rfl))
 f294:=Tryz.func123.trans (congrArg some (by kernel_rfl))
 f295:=Tryz.func124.trans (congrArg some (by kernel_rfl))
 f296:=Tryz.func125.trans (congrArg some (by kernel_rfl))
 f297:=Tryz.func126.trans (congrArg some (by kernel_rfl))
 f298:=Tryz.func127.trans (congrArg some (by kernel_rfl))
 f299:=Tryz.func128.trans (congrArg some (by kernel_rfl))
 f300:=Tryz.func130.trans (congrArg some (by kernel_rfl))
 f301:=Tryz.func131.trans (congrArg some (by kernel_rfl))
 f328:=Tryz.func137.trans (congrArg some (by kernel_rfl))
 f329:=Tryz.func138.trans (congrArg some (by kernel_rfl))
 f330:=Tryz.func139.trans (congrArg some (by kernel_rfl))
 f331:=Tryz.func140.trans (congrArg some (by kernel_rfl))
 f332:=Tryz.func141.trans (congrArg some (by kernel_rfl))
 f343:=Tryz.func144.trans (congrArg some (by kernel_rfl))
 t0:=Tryz.underlying0
 a0:=Tryz.isAgg0
 z0:=Tryz.sizeOf0
 v0:=Tryz.zeroValue0
 t3:=Tryz.underlying3
 a3:=Tryz.isAgg3
 z3:=Tryz.sizeOf3
 v3:=Tryz.zeroValue3
 t4:=Tryz.underlying4
 a4:=Tryz.isAgg4
 z4:=Tryz.sizeOf4
 v4:=Tryz.zeroValue4
 t5:=Tryz.underlying5
 a5:=Tryz.isAgg5
 z5:=Tryz.sizeOf5
 v5:=Tryz.zeroValue5
 t9:=Tryz.underlying9
 a9:=Tryz.isAgg9
 z9:=Tryz.sizeOf9
 v9:=Tryz.zeroValue9
 t28:=Tryz.underlying46
 a28:=Tryz.isAgg46
 z28:=Tryz.sizeOf46
 v28:=Tryz.zeroValue46
 t46:=Tryz.underlying78
 a46:=Tryz.isAgg78
 z46:=Tryz.sizeOf78
 v46:=Tryz.zeroValue78
 t51:=Tryz.underlying134
 a51:=Tryz.isAgg134
 z51:=Tryz.sizeOf134
 v51:=Tryz.zeroValue134
 t53:=Tryz.underlying136
 a53:=Tryz.isAgg136
 z53:=Tryz.sizeOf136
 v53:=Tryz.zeroValue136
 t131:=Tryz.underlying58
 a131:=Tryz.isAgg58
 z131:=Tryz.sizeOf58
 v131:=Tryz.zeroValue58
 t182:=Tryz.underlying126
 a182:=Tryz.isAgg126
 z182:=Tryz.sizeOf126
 v182:=Tryz.zeroValue126
 t183:=Tryz.underlying127
 a183:=Tryz.isAgg127
 z183:=Tryz.sizeOf127
 v183:=Tryz.zeroValue127
 t218:=Tryz.underlying139
 a218:=Tryz.isAgg139
 z218:=Tryz.sizeOf139
 v218:=Tryz.zeroValue139
 t222:=Tryz.underlying143
 a222:=Tryz.isAgg143
 z222:=Tryz.sizeOf143
 v222:=Tryz.zeroValue143
 t228:=Tryz.underlying145
 a228:=Tryz.isAgg145
 z228:=Tryz.sizeOf145
 v228:=Tryz.zeroValue145
 t229:=Tryz.underlying146
 a229:=Tryz.isAgg146
 z229:=Tryz.sizeOf146
 v229:=Tryz.zeroValue146
open Go.Sort Go.RowKit Go.Lib in
theorem Tryz.slices_Sort_int (blk off cap:Nat) (zs:List Int) (w:World) (hH:Holds (Value.int .i64) w blk off zs.toArray) (hblk:blk < w.heap.size) (hsz:zs.length < 4611686018427387904) :
    Calls Tryz.prog 92 #[.slice (some ⟨blk,off,none⟩) zs.length cap] w fun e w' =>
     e=.returned (.tuple #[])∧∃ n os,w'=grow (putRow (Value.int .i64) (Sort.ahead w n) blk off (zs.mergeSort fun x y=>decide (x≤y)).toArray) os:=Any.slices_Sort_int Tryz.lays189 blk off cap zs w hH hblk hsz
open Go.Sort Go.RowKit Go.Lib in
theorem Tryz.slices_Sort_int_none (p:Option Addr) (cap:Nat) (w:World) :
    Calls Tryz.prog 92 #[.slice p 0 cap] w fun e w'=>e=.returned (.tuple #[])∧w'=w:=Any.slices_Sort_int_none Tryz.lays189 p cap w
end Go.Proofs
namespace Go.Proofs.YtgloinighjdhlaaGreat
open Go.Proofs.YtgloinighjdhlaaGreat.Am Go.Proofs
theorem ET {gt:Nat→Option (List AV)}:PrimOk Tryz.prog gt 92 HD:=Qa ⟨_,_,Tryz.func92,rfl⟩ (fun p cap w=>Tryz.slices_Sort_int_none p cap w) fun blk off cap zs w h1 h2 h3=>Tryz.slices_Sort_int blk off cap zs w h1 h2 h3
end Go.Proofs.YtgloinighjdhlaaGreat
