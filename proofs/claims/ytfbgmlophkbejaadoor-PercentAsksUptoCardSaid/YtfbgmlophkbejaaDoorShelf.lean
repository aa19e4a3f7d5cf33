/-
  DERIVED: THE SHELF's CONTRACTS AT THIS DUMP, IN PLAIN WORDS (tools/lay-plain.mjs out of 'TrydShelf.lean', which tools/lay-shelf.mjs wrote): THE SAME DECLARATIONS UNDER THE SAME NAMES: 'import', 'namespace', 'open', 'def', 'theorem' AND NOTHING ELSE: no command of the shelf's: FOR A HAND-IN. Each laying: the table of numbers ('.._ren') and one theorem, a field a fact of the dump's own or the kernel's comparison; each contract: ONE APPLICATION.
-/
import Derived.Shelf.Strings.Builder1
import Derived.Shelf.Strings.Builder2
import Derived.Shelf.Strings.OnBuilder
import Derived.Shelf.Small.Utf8
import Derived.Shelf.Small.Strs
import Derived.Shelf.Strings.BuilderF
import Derived.Shelf.Strings.BuilderK
import Derived.Shelf.Strings.Builder2Cap
import Derived.Shelf.Strings.Search1
import Derived.Shelf.Strings.Search2
import Derived.Shelf.Strings.Search3
import Derived.Shelf.Strings.Cut
import Derived.Shelf.Strings.Count
import Derived.Shelf.LaysM
import Derived.Shelf.Strings.Shaped
import Derived.Shelf.Strings.LastIndex
import Derived.Shelf.Strings.Split
import Derived.Shelf.Strings.Replace
import Derived.Shelf.Unicode.Decode
import Derived.Shelf.Unicode.DecodeSlow
import Derived.Shelf.Unicode.DecodeAny
import Derived.Shelf.Strings.BuilderCap
import Derived.Test.YtfbgmlophkbejaaDoorProg
namespace Go.Proofs
open Go.Shelf
open Go.RowKit in
open Go.RowKit in
open Go.RowKit in
open Go.RowKit in
open Go.RowKit in
def Tryd.lays156_ren : Go.Shelf.Ren:=⟨fun|156 => 64|165 => 90|166 => 46|169 => 49|240 => 76|241 => 109|276 => 98|277 => 122|n => n,fun|31 => 33|9 => 9|3 => 3|4 => 4|0 => 0|20 => 20|72 => 76|76 => 81|70 => 74|37 => 70|75 => 80|127 => 119|164 => 141|5 => 5|80 => 86|n => n,fun|n => n⟩
theorem Tryd.lays156 : Go.Proofs.Lays.n156 Tryd.prog Tryd.lays156_ren:={
 mixed:=by kernel_rfl
 f156:=Tryd.func64.trans (congrArg some (by kernel_rfl))
 f165:=Tryd.func90.trans (congrArg some (by kernel_rfl))
 f166:=Tryd.func46.trans (congrArg some (by kernel_rfl))
 f169:=Tryd.func49.trans (congrArg some (by kernel_rfl))
 f240:=Tryd.func76.trans (congrArg some (by kernel_rfl))
 f241:=Tryd.func109.trans (congrArg some (by kernel_rfl))
 f276:=Tryd.func98.trans (congrArg some (by kernel_rfl))
 f277:=Tryd.func122.trans (congrArg some (by kernel_rfl))
 t0:=Tryd.underlying0
 a0:=Tryd.isAgg0
 z0:=Tryd.sizeOf0
 v0:=Tryd.zeroValue0
 t3:=Tryd.underlying3
 a3:=Tryd.isAgg3
 z3:=Tryd.sizeOf3
 v3:=Tryd.zeroValue3
 t4:=Tryd.underlying4
 a4:=Tryd.isAgg4
 z4:=Tryd.sizeOf4
 v4:=Tryd.zeroValue4
 t9:=Tryd.underlying9
 a9:=Tryd.isAgg9
 z9:=Tryd.sizeOf9
 v9:=Tryd.zeroValue9
 t20:=Tryd.underlying20
 a20:=Tryd.isAgg20
 z20:=Tryd.sizeOf20
 v20:=Tryd.zeroValue20
 t31:=Tryd.underlying33
 a31:=Tryd.isAgg33
 z31:=Tryd.sizeOf33
 v31:=Tryd.zeroValue33
 t37:=Tryd.underlying70
 a37:=Tryd.isAgg70
 z37:=Tryd.sizeOf70
 v37:=Tryd.zeroValue70
 t70:=Tryd.underlying74
 a70:=Tryd.isAgg74
 z70:=Tryd.sizeOf74
 v70:=Tryd.zeroValue74
 t72:=Tryd.underlying76
 a72:=Tryd.isAgg76
 z72:=Tryd.sizeOf76
 v72:=Tryd.zeroValue76
 t75:=Tryd.underlying80
 a75:=Tryd.isAgg80
 z75:=Tryd.sizeOf80
 v75:=Tryd.zeroValue80
 t76:=Tryd.underlying81
 a76:=Tryd.isAgg81
 z76:=Tryd.sizeOf81
 v76:=Tryd.zeroValue81
 t127:=Tryd.underlying119
 a127:=Tryd.isAgg119
 z127:=Tryd.sizeOf119
 v127:=Tryd.zeroValue119
 t164:=Tryd.underlying141
 a164:=Tryd.isAgg141
 z164:=Tryd.sizeOf141
 v164:=Tryd.zeroValue141 }
theorem Tryd.Builder_Extra_156 : Builder.Extra Tryd.prog Tryd.lays156_ren:={
 sizeBuilder:=by kernel_rfl
 liesBuilder:=by kernel_rfl
 t5:=Tryd.underlying5
 a5:=Tryd.isAgg5
 z5:=Tryd.sizeOf5
 v5:=Tryd.zeroValue5
 infoByte:=by kernel_rfl
 cellsByte:=by kernel_rfl
 sizeByte:=by kernel_rfl
 neB5:=by decide }
open Go.RowKit in
open Go.RowKit in
theorem Tryd.strings_Join (bk o c : Nat) (xs : List ByteArray) (sep : ByteArray) (w : World) (hcells : ∀ (j : Nat) x,xs[j]?=some x→w.cell? ⟨bk,o + j,none⟩=some (.string x)) (hbk : bk < w.heap.size) (hN : xs.length≤140737488355328) (hcap : xs.length≤c) (hlen : (Lib.join (xs.map (·.data.toList)) sep.data.toList).length≤140737488355328) :
  Calls Tryd.prog 64 #[.slice (some ⟨bk,o,none⟩) xs.length c,.string sep] w fun e w' => e=.returned (.string ⟨(Lib.join (xs.map (·.data.toList)) sep.data.toList).toArray⟩)∧Below w.heap.size w w':=Any.strings_Join Tryd.lays156 Tryd.Builder_Extra_156 bk o c xs sep w hcells hbk hN hcap hlen
def Tryd.lays119_ren : Go.Shelf.Ren:=⟨fun|119 => 120|n => n,fun|21 => 21|4 => 4|n => n,fun|n => n⟩
theorem Tryd.lays119 : Go.Proofs.Lays.n119 Tryd.prog Tryd.lays119_ren:={
 mixed:=by kernel_rfl
 f119:=Tryd.func120.trans (congrArg some (by kernel_rfl))
 t4:=Tryd.underlying4
 a4:=Tryd.isAgg4
 z4:=Tryd.sizeOf4
 v4:=Tryd.zeroValue4
 t21:=Tryd.underlying21
 a21:=Tryd.isAgg21
 z21:=Tryd.sizeOf21
 v21:=Tryd.zeroValue21 }
theorem Tryd.utf8_ValidRune (r : Int) (w : World) :
  Calls Tryd.prog 120 #[.int .i32 r] w fun e w' => e=.returned (.bool (Lib.validRune r))∧w'=w:=Any.utf8_ValidRune Tryd.lays119 r w
open Go.RowKit in
open Go.RowKit in
open Go.RowKit in
open Go.RowKit in
open Go.RowKit in
open Go.RowKit in
open Go.RowKit in
open Go.RowKit in
open Go.RowKit in
open Go.RowKit Go.Lib in
open Go.RowKit Go.Lib in
open Go.RowKit Go.Lib in
open Go.RowKit Go.Lib in
open Go.RowKit Go.Lib in
open Go.RowKit Go.Lib in
open Go.RowKit Go.Lib in
open Go.RowKit Go.Lib in
open Go.RowKit Go.Lib in
def Tryd.lays145_ren : Go.Shelf.Ren:=⟨fun|145 => 88|220 => 107|219 => 113|217 => 124|225 => 125|224 => 126|267 => 127|266 => 131|314 => 132|n => n,fun|9 => 9|4 => 4|59 => 128|3 => 3|5 => 5|46 => 140|146 => 170|51 => 169|n => n,fun|1 => 0|n => n⟩
theorem Tryd.lays145 : Go.Proofs.Lays.n145 Tryd.prog Tryd.lays145_ren:={
 mixed:=by kernel_rfl
 f145:=Tryd.func88.trans (congrArg some (by kernel_rfl))
 f217:=Tryd.func124.trans (congrArg some (by kernel_rfl))
 f219:=Tryd.func113.trans (congrArg some (by kernel_rfl))
 f220:=Tryd.func107.trans (congrArg some (by kernel_rfl))
 f224:=Tryd.func126.trans (congrArg some (by kernel_rfl))
 f225:=Tryd.func125.trans (congrArg some (by kernel_rfl))
 f266:=Tryd.func131.trans (congrArg some (by kernel_rfl))
 f267:=Tryd.func127.trans (congrArg some (by kernel_rfl))
 f314:=Tryd.func132.trans (congrArg some (by kernel_rfl))
 t3:=Tryd.underlying3
 a3:=Tryd.isAgg3
 z3:=Tryd.sizeOf3
 v3:=Tryd.zeroValue3
 t4:=Tryd.underlying4
 a4:=Tryd.isAgg4
 z4:=Tryd.sizeOf4
 v4:=Tryd.zeroValue4
 t5:=Tryd.underlying5
 a5:=Tryd.isAgg5
 z5:=Tryd.sizeOf5
 v5:=Tryd.zeroValue5
 t9:=Tryd.underlying9
 a9:=Tryd.isAgg9
 z9:=Tryd.sizeOf9
 v9:=Tryd.zeroValue9
 t46:=Tryd.underlying140
 a46:=Tryd.isAgg140
 z46:=Tryd.sizeOf140
 v46:=Tryd.zeroValue140
 t51:=Tryd.underlying169
 a51:=Tryd.isAgg169
 z51:=Tryd.sizeOf169
 v51:=Tryd.zeroValue169
 t59:=Tryd.underlying128
 a59:=Tryd.isAgg128
 z59:=Tryd.sizeOf128
 v59:=Tryd.zeroValue128
 t146:=Tryd.underlying170
 a146:=Tryd.isAgg170
 z146:=Tryd.sizeOf170
 v146:=Tryd.zeroValue170
 g1:=by kernel_rfl }
open Go.RowKit Go.Lib in
theorem Tryd.strings_Cut (s sep : ByteArray) (m : Int) (w : World) (hs : s.size < 4294967281) (hm : w.cell? ⟨0,0,none⟩=some (.int .i64 m)) :
  Calls Tryd.prog 88 #[.string s,.string sep] w fun e w' => e=.returned (.tuple #[.string ⟨(Lib.cut s.data.toList sep.data.toList).1.toArray⟩,.string ⟨(Lib.cut s.data.toList sep.data.toList).2.1.toArray⟩,.bool (Lib.cut s.data.toList sep.data.toList).2.2])∧∃ n,w'=w.drewN n:=Any.strings_Cut Tryd.lays145 s sep m w hs hm
open Go.RowKit Go.Lib in
open Go.RowKit Go.Lib in
open Go.RowKit Go.Lib in
open Go.RowKit Go.Lib in
open Go.RowKit Go.Lib in
open Go.RowKit Go.Lib in
open Go.RowKit Go.Lib in
open Go.RowKit Go.Lib in
open Go.RowKit Go.Lib in
open Go.RowKit Go.Lib in
open Go.RowKit Go.Lib in
def Tryd.lays146_ren : Go.Shelf.Ren:=⟨fun|146 => 62|221 => 87|268 => 106|138 => 93|143 => 94|195 => 111|197 => 95|218 => 112|219 => 113|260 => 114|217 => 124|225 => 125|224 => 126|267 => 127|266 => 131|314 => 132|n => n,fun|9 => 9|31 => 33|3 => 3|4 => 4|0 => 0|105 => 137|21 => 21|5 => 5|46 => 140|119 => 65|139 => 164|138 => 163|146 => 170|51 => 169|n => n,fun|1 => 0|3 => 1|4 => 2|n => n⟩
theorem Tryd.lays146 : Go.Proofs.Lays.n146 Tryd.prog Tryd.lays146_ren:={
 mixed:=by kernel_rfl
 f138:=Tryd.func93.trans (congrArg some (by kernel_rfl))
 f143:=Tryd.func94.trans (congrArg some (by kernel_rfl))
 f146:=Tryd.func62.trans (congrArg some (by kernel_rfl))
 f195:=Tryd.func111.trans (congrArg some (by kernel_rfl))
 f197:=Tryd.func95.trans (congrArg some (by kernel_rfl))
 f217:=Tryd.func124.trans (congrArg some (by kernel_rfl))
 f218:=Tryd.func112.trans (congrArg some (by kernel_rfl))
 f219:=Tryd.func113.trans (congrArg some (by kernel_rfl))
 f221:=Tryd.func87.trans (congrArg some (by kernel_rfl))
 f224:=Tryd.func126.trans (congrArg some (by kernel_rfl))
 f225:=Tryd.func125.trans (congrArg some (by kernel_rfl))
 f260:=Tryd.func114.trans (congrArg some (by kernel_rfl))
 f266:=Tryd.func131.trans (congrArg some (by kernel_rfl))
 f267:=Tryd.func127.trans (congrArg some (by kernel_rfl))
 f268:=Tryd.func106.trans (congrArg some (by kernel_rfl))
 f314:=Tryd.func132.trans (congrArg some (by kernel_rfl))
 t0:=Tryd.underlying0
 a0:=Tryd.isAgg0
 z0:=Tryd.sizeOf0
 v0:=Tryd.zeroValue0
 t3:=Tryd.underlying3
 a3:=Tryd.isAgg3
 z3:=Tryd.sizeOf3
 v3:=Tryd.zeroValue3
 t4:=Tryd.underlying4
 a4:=Tryd.isAgg4
 z4:=Tryd.sizeOf4
 v4:=Tryd.zeroValue4
 t5:=Tryd.underlying5
 a5:=Tryd.isAgg5
 z5:=Tryd.sizeOf5
 v5:=Tryd.zeroValue5
 t9:=Tryd.underlying9
 a9:=Tryd.isAgg9
 z9:=Tryd.sizeOf9
 v9:=Tryd.zeroValue9
 t21:=Tryd.underlying21
 a21:=Tryd.isAgg21
 z21:=Tryd.sizeOf21
 v21:=Tryd.zeroValue21
 t31:=Tryd.underlying33
 a31:=Tryd.isAgg33
 z31:=Tryd.sizeOf33
 v31:=Tryd.zeroValue33
 t46:=Tryd.underlying140
 a46:=Tryd.isAgg140
 z46:=Tryd.sizeOf140
 v46:=Tryd.zeroValue140
 t51:=Tryd.underlying169
 a51:=Tryd.isAgg169
 z51:=Tryd.sizeOf169
 v51:=Tryd.zeroValue169
 t105:=Tryd.underlying137
 a105:=Tryd.isAgg137
 z105:=Tryd.sizeOf137
 v105:=Tryd.zeroValue137
 t119:=Tryd.underlying65
 a119:=Tryd.isAgg65
 z119:=Tryd.sizeOf65
 t138:=Tryd.underlying163
 a138:=Tryd.isAgg163
 z138:=Tryd.sizeOf163
 v138:=Tryd.zeroValue163
 t139:=Tryd.underlying164
 a139:=Tryd.isAgg164
 z139:=Tryd.sizeOf164
 v139:=Tryd.zeroValue164
 t146:=Tryd.underlying170
 a146:=Tryd.isAgg170
 z146:=Tryd.sizeOf170
 v146:=Tryd.zeroValue170
 g1:=by kernel_rfl
 g3:=by kernel_rfl
 g4:=by kernel_rfl }
open Go.RowKit Go.Lib in
theorem Tryd.strings_Split (s sep : ByteArray) (m : Int) (w : World) (hs : s.size < 4294967281) (hm : w.cell? ⟨0,0,none⟩=some (.int .i64 m)) (h1 : 1≤sep.size) :
  Calls Tryd.prog 62 #[.string s,.string sep] w fun e w' =>
   e=.returned (.slice (some ⟨w.heap.size,0,none⟩) (Lib.countB s sep + 1) (Lib.countB s sep + 1))∧w'=w.alloc (.cells ((Lib.splitB sep 0 (Lib.countB s sep) s).map Value.string).toArray 9):=Any.strings_Split Tryd.lays146 (by kernel_rfl) s sep m w hs hm h1
open Go.RowKit Go.Lib in
open Go.RowKit Go.Lib in
open Go.RowKit Go.Lib in
open Go.RowKit Go.Lib in
open Go.RowKit Go.Lib in
def Tryd.lays197_ren : Go.Shelf.Ren:=⟨fun|197 => 95|260 => 114|n => n,fun|9 => 9|21 => 21|3 => 3|4 => 4|5 => 5|105 => 137|119 => 65|0 => 0|46 => 140|139 => 164|138 => 163|n => n,fun|3 => 1|4 => 2|n => n⟩
theorem Tryd.lays197 : Go.Proofs.Lays.n197 Tryd.prog Tryd.lays197_ren:={
 mixed:=by kernel_rfl
 f197:=Tryd.func95.trans (congrArg some (by kernel_rfl))
 f260:=Tryd.func114.trans (congrArg some (by kernel_rfl))
 t0:=Tryd.underlying0
 a0:=Tryd.isAgg0
 z0:=Tryd.sizeOf0
 v0:=Tryd.zeroValue0
 t3:=Tryd.underlying3
 a3:=Tryd.isAgg3
 z3:=Tryd.sizeOf3
 v3:=Tryd.zeroValue3
 t4:=Tryd.underlying4
 a4:=Tryd.isAgg4
 z4:=Tryd.sizeOf4
 v4:=Tryd.zeroValue4
 t5:=Tryd.underlying5
 a5:=Tryd.isAgg5
 z5:=Tryd.sizeOf5
 v5:=Tryd.zeroValue5
 t9:=Tryd.underlying9
 a9:=Tryd.isAgg9
 z9:=Tryd.sizeOf9
 v9:=Tryd.zeroValue9
 t21:=Tryd.underlying21
 a21:=Tryd.isAgg21
 z21:=Tryd.sizeOf21
 v21:=Tryd.zeroValue21
 t46:=Tryd.underlying140
 a46:=Tryd.isAgg140
 z46:=Tryd.sizeOf140
 v46:=Tryd.zeroValue140
 t105:=Tryd.underlying137
 a105:=Tryd.isAgg137
 z105:=Tryd.sizeOf137
 v105:=Tryd.zeroValue137
 t119:=Tryd.underlying65
 a119:=Tryd.isAgg65
 z119:=Tryd.sizeOf65
 t138:=Tryd.underlying163
 a138:=Tryd.isAgg163
 z138:=Tryd.sizeOf163
 v138:=Tryd.zeroValue163
 t139:=Tryd.underlying164
 a139:=Tryd.isAgg164
 z139:=Tryd.sizeOf164
 v139:=Tryd.zeroValue164
 g3:=by kernel_rfl
 g4:=by kernel_rfl }
open Go.RowKit Go.Lib in
def Tryd.lays260_ren : Go.Shelf.Ren:=⟨fun|260 => 114|n => n,fun|9 => 9|21 => 21|3 => 3|4 => 4|5 => 5|119 => 65|0 => 0|46 => 140|139 => 164|138 => 163|n => n,fun|3 => 1|4 => 2|n => n⟩
theorem Tryd.lays260 : Go.Proofs.Lays.n260 Tryd.prog Tryd.lays260_ren:={
 mixed:=by kernel_rfl
 f260:=Tryd.func114.trans (congrArg some (by kernel_rfl))
 t0:=Tryd.underlying0
 a0:=Tryd.isAgg0
 z0:=Tryd.sizeOf0
 v0:=Tryd.zeroValue0
 t3:=Tryd.underlying3
 a3:=Tryd.isAgg3
 z3:=Tryd.sizeOf3
 v3:=Tryd.zeroValue3
 t4:=Tryd.underlying4
 a4:=Tryd.isAgg4
 z4:=Tryd.sizeOf4
 v4:=Tryd.zeroValue4
 t5:=Tryd.underlying5
 a5:=Tryd.isAgg5
 z5:=Tryd.sizeOf5
 v5:=Tryd.zeroValue5
 t9:=Tryd.underlying9
 a9:=Tryd.isAgg9
 z9:=Tryd.sizeOf9
 v9:=Tryd.zeroValue9
 t21:=Tryd.underlying21
 a21:=Tryd.isAgg21
 z21:=Tryd.sizeOf21
 v21:=Tryd.zeroValue21
 t46:=Tryd.underlying140
 a46:=Tryd.isAgg140
 z46:=Tryd.sizeOf140
 v46:=Tryd.zeroValue140
 t119:=Tryd.underlying65
 a119:=Tryd.isAgg65
 z119:=Tryd.sizeOf65
 t138:=Tryd.underlying163
 a138:=Tryd.isAgg163
 z138:=Tryd.sizeOf163
 v138:=Tryd.zeroValue163
 t139:=Tryd.underlying164
 a139:=Tryd.isAgg164
 z139:=Tryd.sizeOf164
 v139:=Tryd.zeroValue164
 g3:=by kernel_rfl
 g4:=by kernel_rfl }
open Go.RowKit Go.Lib in
open Go.RowKit Go.Lib in
theorem Tryd.utf8_DecodeRuneInString (s : ByteArray) (w : World) (hT : Lib.Utf8Tabs 1 2 w) :
  Calls Tryd.prog 95 #[.string s] w fun e w' => e=.returned (.tuple #[.int .i32 (Lib.decodeGo s).1,.int .i64 (Lib.decodeGo s).2])∧Below w.heap.size w w':=Any.utf8_DecodeRuneInString Tryd.lays197 s w hT
end Go.Proofs
