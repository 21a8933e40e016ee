/- strings.ContainsAny at this program, laid by the kit's shelf. Conditions: both texts are ASCII and shorter than 4294967281 bytes. -/
import Derived.Shelf.Strings.IndexAnyAll
import Derived.Test.YthmajmkgeapfnaaProg
namespace Go.Proofs
open Go.Shelf
def Try.lays150_ren:Go.Shelf.Ren:=⟨fun|150=>98|153=>104|152=>108|226=>109|227=>110|228=>111|137=>112|119=>113|224=>114|225=>115|217=>116|266=>117|n=>n,fun|9=>9|4=>4|3=>3|5=>5|21=>21|117=>111|116=>110|0=>0|46=>99|124=>117|n=>n,fun|n=>n⟩
theorem Try.lays150:Go.Proofs.Lays.n150 Try.prog Try.lays150_ren:={
 mixed:=by kernel_rfl
 f119:=Try.func113.trans (congrArg some (by kernel_rfl))
 f137:=Try.func112.trans (congrArg some (by kernel_rfl))
 f150:=Try.func98.trans (congrArg some (by kernel_rfl))
 f152:=Try.func108.trans (congrArg some (by kernel_rfl))
 f153:=Try.func104.trans (congrArg some (by kernel_rfl))
 f217:=Try.func116.trans (congrArg some (by kernel_rfl))
 f224:=Try.func114.trans (congrArg some (by kernel_rfl))
 f225:=Try.func115.trans (congrArg some (by kernel_rfl))
 f226:=Try.func109.trans (congrArg some (by kernel_rfl))
 f227:=Try.func110.trans (congrArg some (by kernel_rfl))
 f228:=Try.func111.trans (congrArg some (by kernel_rfl))
 f266:=Try.func117.trans (congrArg some (by kernel_rfl))
 t0:=Try.underlying0
 a0:=Try.isAgg0
 z0:=Try.sizeOf0
 v0:=Try.zeroValue0
 t3:=Try.underlying3
 a3:=Try.isAgg3
 z3:=Try.sizeOf3
 v3:=Try.zeroValue3
 t4:=Try.underlying4
 a4:=Try.isAgg4
 z4:=Try.sizeOf4
 v4:=Try.zeroValue4
 t5:=Try.underlying5
 a5:=Try.isAgg5
 z5:=Try.sizeOf5
 v5:=Try.zeroValue5
 t9:=Try.underlying9
 a9:=Try.isAgg9
 z9:=Try.sizeOf9
 v9:=Try.zeroValue9
 t21:=Try.underlying21
 a21:=Try.isAgg21
 z21:=Try.sizeOf21
 v21:=Try.zeroValue21
 t46:=Try.underlying99
 a46:=Try.isAgg99
 z46:=Try.sizeOf99
 v46:=Try.zeroValue99
 t116:=Try.underlying110
 a116:=Try.isAgg110
 z116:=Try.sizeOf110
 t117:=Try.underlying111
 a117:=Try.isAgg111
 z117:=Try.sizeOf111
 v117:=Try.zeroValue111
 t124:=Try.underlying117
 a124:=Try.isAgg117
 z124:=Try.sizeOf117
 v124:=Try.zeroValue117 }
open Go.RowKit Go.Lib in
theorem Try.strings_ContainsAny_laid (s chars:ByteArray) (w:World) (hs:s.size < 4294967281) (hcs:chars.size < 4294967281) (has:∀ (j:Nat) b,s.data.toList[j]?=some b → b.toNat < 128) (hac:∀ (j:Nat) b,chars.data.toList[j]?=some b → b.toNat < 128) :
  Calls Try.prog 98 #[.string s,.string chars] w fun e w'=>e=.returned (.bool (Lib.containsAny s.data.toList chars.data.toList))∧Below w.heap.size w w':=Any.strings_ContainsAny_laid Try.lays150 (by kernel_rfl) s chars w hs hcs has hac
end Go.Proofs
