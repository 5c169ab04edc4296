/-
  DERIVED: THE SHELF's CONTRACTS AT THIS DUMP, IN PLAIN WORDS (tools/lay-plain.mjs out of 'TryShelf.lean', which tools/lay-shelf.mjs wrote): THE SAME DECLARATIONS UNDER THE SAME NAMES: 'import', 'namespace', 'open', 'def', 'theorem' AND NOTHING ELSE: no command of the shelf's: FOR A HAND-IN. Each laying: the table of numbers ('.._ren') and one theorem, a field a fact of the dump's own or the kernel's comparison; each contract: ONE APPLICATION.
-/
import Derived.Shelf.Small.Bits
import Derived.Shelf.Strconv.Itoa0
import Derived.Shelf.Sort.Plain
import Derived.Ground.Names2Prog
import Derived.Shelf.Slices.Clone
import Derived.Shelf.Slices.In.SortNone
import Derived.Ground.SlsfProg
import Derived.Shelf.SlSortCmp.NoneTotal
import Derived.Test.YtoobofnpdiapgaaProg
namespace Go.Proofs
open Go.Shelf
def Try.lays189_ren:Go.Shelf.Ren:=⟨fun|189=>52|125=>80|257=>79|128=>109|129=>110|294=>100|295=>101|296=>102|297=>103|298=>104|299=>105|216=>106|300=>107|301=>108|328=>123|329=>124|330=>125|331=>126|332=>127|215=>128|343=>132|n=>n,fun|28=>22|3=>3|46=>77|0=>0|51=>99|53=>101|4=>4|183=>94|182=>93|131=>35|5=>5|9=>9|218=>110|222=>114|228=>118|229=>40|n=>n,fun|n=>n⟩
theorem Try.lays189:Go.Proofs.Lays.n189 Try.prog Try.lays189_ren:={
  mixed:=by kernel_rfl
  f125:=Try.func80.trans (congrArg some (by kernel_rfl))
  f128:=Try.func109.trans (congrArg some (by kernel_rfl))
  f129:=Try.func110.trans (congrArg some (by kernel_rfl))
  f189:=Try.func52.trans (congrArg some (by kernel_rfl))
  f215:=Try.func128.trans (congrArg some (by kernel_rfl))
  f216:=Try.func106.trans (congrArg some (by kernel_rfl))
  f257:=Try.func79.trans (congrArg some (by kernel_rfl))
  f294:=Try.func100.trans (congrArg some (by kernel_rfl))
  f295:=Try.func101.trans (congrArg some (by kernel_rfl))
  f296:=Try.func102.trans (congrArg some (by kernel_rfl))
  f297:=Try.func103.trans (congrArg some (by kernel_rfl))
  f298:=Try.func104.trans (congrArg some (by kernel_rfl))
  f299:=Try.func105.trans (congrArg some (by kernel_rfl))
  f300:=Try.func107.trans (congrArg some (by kernel_rfl))
  f301:=Try.func108.trans (congrArg some (by kernel_rfl))
  f328:=Try.func123.trans (congrArg some (by kernel_rfl))
  f329:=Try.func124.trans (congrArg some (by kernel_rfl))
  f330:=Try.func125.trans (congrArg some (by kernel_rfl))
  f331:=Try.func126.trans (congrArg some (by kernel_rfl))
  f332:=Try.func127.trans (congrArg some (by kernel_rfl))
  f343:=Try.func132.trans (congrArg some (by kernel_rfl))
  t0:=Try.underlying0
  a0:=Try.isAgg0
  z0:=Try.sizeOf0
  v0:=Try.zeroValue0
  t3:=Try.underlying3
  a3:=Try.isAgg3
  z3:=Try.sizeOf3
  v3:=Try.zeroValue3
  t4:=Try.underlying4
  a4:=Try.isAgg4
  z4:=Try.sizeOf4
  v4:=Try.zeroValue4
  t5:=Try.underlying5
  a5:=Try.isAgg5
  z5:=Try.sizeOf5
  v5:=Try.zeroValue5
  t9:=Try.underlying9
  a9:=Try.isAgg9
  z9:=Try.sizeOf9
  v9:=Try.zeroValue9
  t28:=Try.underlying22
  a28:=Try.isAgg22
  z28:=Try.sizeOf22
  v28:=Try.zeroValue22
  t46:=Try.underlying77
  a46:=Try.isAgg77
  z46:=Try.sizeOf77
  v46:=Try.zeroValue77
  t51:=Try.underlying99
  a51:=Try.isAgg99
  z51:=Try.sizeOf99
  v51:=Try.zeroValue99
  t53:=Try.underlying101
  a53:=Try.isAgg101
  z53:=Try.sizeOf101
  v53:=Try.zeroValue101
  t131:=Try.underlying35
  a131:=Try.isAgg35
  z131:=Try.sizeOf35
  v131:=Try.zeroValue35
  t182:=Try.underlying93
  a182:=Try.isAgg93
  z182:=Try.sizeOf93
  v182:=Try.zeroValue93
  t183:=Try.underlying94
  a183:=Try.isAgg94
  z183:=Try.sizeOf94
  v183:=Try.zeroValue94
  t218:=Try.underlying110
  a218:=Try.isAgg110
  z218:=Try.sizeOf110
  v218:=Try.zeroValue110
  t222:=Try.underlying114
  a222:=Try.isAgg114
  z222:=Try.sizeOf114
  v222:=Try.zeroValue114
  t228:=Try.underlying118
  a228:=Try.isAgg118
  z228:=Try.sizeOf118
  v228:=Try.zeroValue118
  t229:=Try.underlying40
  a229:=Try.isAgg40
  z229:=Try.sizeOf40
  v229:=Try.zeroValue40}
open Go.Sort Go.RowKit in
theorem Try.slices_Sort_int (blk off cap:Nat) (zs:List Int) (w:World) (hH:Holds (Value.int .i64) w blk off zs.toArray) (hblk:blk< w.heap.size) (hsz:zs.length< 4611686018427387904):
    Calls Try.prog 52 #[.slice (some ⟨blk,off,none⟩) zs.length cap] w fun e w'=>
      e=.returned (.tuple #[])∧∃ n os,w'=grow (putRow (Value.int .i64) (Sort.ahead w n) blk off (zs.mergeSort fun x y=>decide (x≤y)).toArray) os:=Any.slices_Sort_int Try.lays189 blk off cap zs w hH hblk hsz
def Try.laysNm215_ren:Go.Shelf.Ren:=⟨fun|15=>78|n=>n,fun|22=>22|3=>3|4=>4|n=>n,fun|n=>n⟩
theorem Try.laysNm215:Go.Proofs.Lays2.n15 Try.prog Try.laysNm215_ren:={
  mixed:=by kernel_rfl
  f15:=Try.func78.trans (congrArg some (by kernel_rfl))
  t3:=Try.underlying3
  a3:=Try.isAgg3
  z3:=Try.sizeOf3
  v3:=Try.zeroValue3
  t4:=Try.underlying4
  a4:=Try.isAgg4
  z4:=Try.sizeOf4
  v4:=Try.zeroValue4
  t22:=Try.underlying22
  a22:=Try.isAgg22
  z22:=Try.sizeOf22
  v22:=Try.zeroValue22
  i3:=by kernel_rfl}
open Go.RowKit Go.Lib in
/-- slices.Clone at []int: "Clone returns a copy of the slice. The elements are copied using assignment, so this is a shallow clone. The result may have additional unused capacity. The result preserves the nilness of s.": OF A SLICE THAT IS NOT nil IT RETURNS A SLICE THAT IS NOT nil, OF THE SAME ELEMENTS, IN MEMORY OF THE CALL's OWN: in the how-to's words (6f): 'w'.ownsRow B e 1 v' n cells': v' begins at the head of a row among the blocks from B on (B: the heap's size at the call), not frozen, whose first cells are the elements · 'Below B w w'': below B all is as it was. The capacity is whatever the run-time gives. 'zs': what the cells behind the slice's address hold; 'zs.take n': its elements. (LAID: no walk: one application.) -/
theorem Try.slices_Clone_int (b off n c:Nat) (zs:List Int) (w:World) (hz:n≤zs.length) (hbig:n*8≤140737488355328) (hc:∀ j,j< zs.length→w.cell? ⟨b,off+j,none⟩=some (.int .i64 (zs.getD j 0))):
    Calls Try.prog 78 #[.slice (some ⟨b,off,none⟩) n c] w fun e w'=>∃ v',e=.returned v'∧w'.ownsRow w.heap.size 3 1 v' n ((zs.take n).map (Value.int .i64))∧v'≠.slice none 0 0∧Below w.heap.size w w':=Any.slices_Clone_int Try.laysNm215 b off n c zs w hz hbig hc
open Go.RowKit Go.Lib in
/-- The same at nil: nil comes back; the world is as it was. (LAID: no walk: one application.) -/
theorem Try.slices_Clone_int_nil (n c:Nat) (w:World):
    Calls Try.prog 78 #[.slice none n c] w fun e w'=>e=.returned (.slice none 0 0)∧w'=w:=Any.slices_Clone_int_nil Try.laysNm215 n c w
open Go.RowKit Go.Lib in
/-- The same at a slice of length 0 that is not nil, WHATEVER ITS ADDRESS (no cell is asked for): a slice that is not nil and owns nothing comes back. (LAID: no walk: one application.) -/
theorem Try.slices_Clone_int_zero (a:Addr) (c:Nat) (w:World):
    Calls Try.prog 78 #[.slice (some a) 0 c] w fun e w'=>∃ v',e=.returned v'∧w'.ownsRow w.heap.size 3 1 v' 0 []∧v'≠.slice none 0 0∧Below w.heap.size w w':=Any.slices_Clone_int_zero Try.laysNm215 a c w
open Go.RowKit Go.Sort in
/-- .. and plain. (LAID: no walk: one application.) -/
theorem Try.slices_Sort_int_none (p:Option Addr) (cap:Nat) (w:World):
    Calls Try.prog 52 #[.slice p 0 cap] w fun e w'=>e=.returned (.tuple #[])∧w'=w:=Any.slices_Sort_int_none Try.lays189 p cap w
def Try.sortL_ren:Go.Shelf.Ren:=⟨fun|6=>121|15=>80|14=>131|28=>109|29=>110|20=>133|21=>134|22=>135|23=>136|24=>137|25=>138|26=>139|27=>140|46=>141|47=>124|48=>125|49=>142|50=>143|57=>144|n=>n,fun|22=>22|24=>3|25=>102|3=>3|39=>77|0=>0|53=>99|55=>101|4=>4|46=>94|45=>93|50=>35|5=>5|9=>9|66=>110|70=>114|76=>118|77=>40|n=>n,fun|n=>n⟩
theorem Try.sortL:Go.Proofs.SlLaysF.n6 Try.prog Try.sortL_ren:={
  mixed:=by kernel_rfl
  f6:=⟨Try.f121.name,by decide,Try.func121.trans (congrArg some (by kernel_rfl))⟩
  f14:=⟨Try.f131.name,by decide,Try.func131.trans (congrArg some (by kernel_rfl))⟩
  f15:=Try.func80.trans (congrArg some (by kernel_rfl))
  f20:=⟨Try.f133.name,by decide,Try.func133.trans (congrArg some (by kernel_rfl))⟩
  f21:=⟨Try.f134.name,by decide,Try.func134.trans (congrArg some (by kernel_rfl))⟩
  f22:=⟨Try.f135.name,by decide,Try.func135.trans (congrArg some (by kernel_rfl))⟩
  f23:=⟨Try.f136.name,by decide,Try.func136.trans (congrArg some (by kernel_rfl))⟩
  f24:=⟨Try.f137.name,by decide,Try.func137.trans (congrArg some (by kernel_rfl))⟩
  f25:=⟨Try.f138.name,by decide,Try.func138.trans (congrArg some (by kernel_rfl))⟩
  f26:=⟨Try.f139.name,by decide,Try.func139.trans (congrArg some (by kernel_rfl))⟩
  f27:=⟨Try.f140.name,by decide,Try.func140.trans (congrArg some (by kernel_rfl))⟩
  f28:=Try.func109.trans (congrArg some (by kernel_rfl))
  f29:=Try.func110.trans (congrArg some (by kernel_rfl))
  f46:=⟨Try.f141.name,by decide,Try.func141.trans (congrArg some (by kernel_rfl))⟩
  f47:=Try.func124.trans (congrArg some (by kernel_rfl))
  f48:=Try.func125.trans (congrArg some (by kernel_rfl))
  f49:=⟨Try.f142.name,by decide,Try.func142.trans (congrArg some (by kernel_rfl))⟩
  f50:=⟨Try.f143.name,by decide,Try.func143.trans (congrArg some (by kernel_rfl))⟩
  f57:=⟨Try.f144.name,by decide,Try.func144.trans (congrArg some (by kernel_rfl))⟩
  t0:=Try.underlying0
  a0:=Try.isAgg0
  z0:=Try.sizeOf0
  v0:=Try.zeroValue0
  t3:=Try.underlying3
  a3:=Try.isAgg3
  z3:=Try.sizeOf3
  v3:=Try.zeroValue3
  t4:=Try.underlying4
  a4:=Try.isAgg4
  z4:=Try.sizeOf4
  v4:=Try.zeroValue4
  t5:=Try.underlying5
  a5:=Try.isAgg5
  z5:=Try.sizeOf5
  v5:=Try.zeroValue5
  t9:=Try.underlying9
  a9:=Try.isAgg9
  z9:=Try.sizeOf9
  v9:=Try.zeroValue9
  t22:=Try.underlying22
  a22:=Try.isAgg22
  z22:=Try.sizeOf22
  v22:=Try.zeroValue22
  a24:=Try.isAgg3
  z24:=Try.sizeOf3
  t25:=Try.underlying102
  a25:=Try.isAgg102
  z25:=Try.sizeOf102
  v25:=Try.zeroValue102
  t39:=Try.underlying77
  a39:=Try.isAgg77
  z39:=Try.sizeOf77
  v39:=Try.zeroValue77
  t45:=Try.underlying93
  a45:=Try.isAgg93
  z45:=Try.sizeOf93
  v45:=Try.zeroValue93
  t46:=Try.underlying94
  a46:=Try.isAgg94
  z46:=Try.sizeOf94
  v46:=Try.zeroValue94
  t50:=Try.underlying35
  a50:=Try.isAgg35
  z50:=Try.sizeOf35
  v50:=Try.zeroValue35
  t53:=Try.underlying99
  a53:=Try.isAgg99
  z53:=Try.sizeOf99
  v53:=Try.zeroValue99
  t55:=Try.underlying101
  a55:=Try.isAgg101
  z55:=Try.sizeOf101
  v55:=Try.zeroValue101
  t66:=Try.underlying110
  a66:=Try.isAgg110
  z66:=Try.sizeOf110
  v66:=Try.zeroValue110
  t70:=Try.underlying114
  a70:=Try.isAgg114
  z70:=Try.sizeOf114
  v70:=Try.zeroValue114
  t76:=Try.underlying118
  a76:=Try.isAgg118
  z76:=Try.sizeOf118
  v76:=Try.zeroValue118
  t77:=Try.underlying40
  a77:=Try.isAgg40
  z77:=Try.sizeOf40
  v77:=Try.zeroValue40}
open Go.RowKit Go.Lib Go.Sort in
theorem Try.slices_SortFunc {α:Type} [Inhabited α] (enc:α→Value) (h1:OneCell enc) (cf:α→α→Int) (hO:SWO (ltOf cf)) (g:Nat) (cb:Array Value) (blk off cap:Nat) (d:Array α) (w:World)
    (eg:∀ args w,(callFunc g args).run Try.prog w=.ok (.enter g args) w) (hcmp:CmpLays1 Try.prog g cb enc cf blk off d.size w) (hH:Holds enc w blk off d) (hblk:blk< w.heap.size) (hsz:d.size< 4611686018427387904):
    Calls Try.prog 121 #[.slice (some ⟨blk,off,none⟩) d.size cap,.func (.func g) #[] cb] w fun e w'=>
      e=.returned (.tuple #[])∧∃ d' n os,PermIn 0 d.size d d'∧SortedIn (ltOf cf) 0 d.size d'∧w'=sortWorld enc w blk off n d' os:=Any.slices_SortFunc Try.sortL enc h1 cf hO g cb blk off cap d w eg hcmp hH hblk hsz
theorem Try.slices_SortFunc_none (p:Option Addr) (cap:Nat) (fv:Value) (w:World):
    Calls Try.prog 121 #[.slice p 0 cap,fv] w fun e w'=>e=.returned (.tuple #[])∧w'=w:=AnyF.slices_SortFunc_none (P:=Try.prog) (ρ:=Try.sortL_ren) {Try.sortL with} p cap fv w
end Go.Proofs
