/- The rules of the walks once more, with their closed conditions as one equation: the printed walks are shorter. -/
import Derived.Shelf.Small.Bits
import Derived.Shelf.Utf8.RuneCount
import Derived.Shelf.Strconv.Itoa0
import Derived.Shelf.Strings.Search1
import Derived.Shelf.Strings.Search2
import Derived.Shelf.Strings.Search3
import Derived.Shelf.Strings.Count
import Derived.Shelf.LaysM
import Derived.Shelf.Strings.Shaped
import Derived.Shelf.Sort.Plain
import Derived.Shelf.GgClosure.StringsIndexFunc
import Derived.Ground.GgwProg
import Derived.Shelf.GgClosure.StringsIndexFuncTop
import Derived.Shelf.Strings.Split
import Derived.Shelf.Strings.SplitShaped
import Derived.Shelf.Unicode.Decode
import Derived.Shelf.Strings.RuneCount
import Derived.Shelf.Strings.Explode
import Derived.Shelf.Unicode.DecodeSlow
import Derived.Shelf.Unicode.DecodeAny
import Derived.Shelf.Strings.FuncGrows
import Derived.Shelf.Slices.CompactS
import Derived.Ground.Names2Prog
import Derived.Shelf.Slices.SearchI
import Derived.Shelf.Slices.Cells
import Derived.Shelf.Slices.In.SortNone
import Derived.Shelf.SlSortCmp.NoneTotal
import Derived.Shelf.SlGeneric
import Derived.Ground.SlsfProg
import Derived.Test.YtmpeiadlohbikaaGreatDoorProg
import Derived.Test.YtmpeiadlohbikaaGreatDoorAx1
import Derived.Test.YtmpeiadlohbikaaGreatDoorCards
import Derived.Test.YtmpeiadlohbikaaGreatDoorTie
import Derived.HandedShaped
import Derived.Lay
import Derived.MakeChecks
import Derived.LaidMore
import Derived.SevenTiedAt
import Derived.Test.YtmpeiadlohbikaaGreatDoorAx13
import Derived.Test.YtmpeiadlohbikaaGreatDoorAx14
import Derived.Test.YtmpeiadlohbikaaGreatDoorAx12
import Derived.Test.YtmpeiadlohbikaaGreatDoorAx3
import Derived.Lib.AppendZerosOnto
import Derived.Lib.Overlaps
import Derived.Test.YtmpeiadlohbikaaGreatDoorAx2
section
namespace Go.Proofs
open Go.Shelf
def Tryz.laysM219_ren:Go.Shelf.Ren:=⟨fun|219=>229|217=>239|225=>240|224=>241|267=>242|266=>245|314=>246|n=>n,fun|9=>9|3=>3|4=>4|5=>5|46=>216|146=>325|51=>28|n=>n,fun|1=>0|n=>n⟩
theorem Tryz.laysM219:Go.Proofs.LaysM.n219 Tryz.prog Tryz.laysM219_ren:={
 mixed:=by kernel_rfl
 f217:=Tryz.func239.trans (congrArg some (by kernel_rfl))
 f219:=Tryz.func229.trans (congrArg some (by kernel_rfl))
 f224:=Tryz.func241.trans (congrArg some (by kernel_rfl))
 f225:=Tryz.func240.trans (congrArg some (by kernel_rfl))
 f266:=Tryz.func245.trans (congrArg some (by kernel_rfl))
 f267:=Tryz.func242.trans (congrArg some (by kernel_rfl))
 f314:=Tryz.func246.trans (congrArg some (by kernel_rfl))
 t3:=Tryz.underlying3
 a3:=Tryz.isAgg3
 z3:=Tryz.sizeOf3
 v3:=Tryz.zeroValue3
 t4:=Tryz.underlying4
 a4:=Tryz.isAgg4
 z4:=Tryz.sizeOf4
 v4:=Tryz.zeroValue4
 t5:=Tryz.underlying5
 a5:=Tryz.isAgg5
 z5:=Tryz.sizeOf5
 v5:=Tryz.zeroValue5
 t9:=Tryz.underlying9
 a9:=Tryz.isAgg9
 z9:=Tryz.sizeOf9
 v9:=Tryz.zeroValue9
 t46:=Tryz.underlying216
 a46:=Tryz.isAgg216
 z46:=Tryz.sizeOf216
 v46:=Tryz.zeroValue216
 t51:=Tryz.underlying28
 a51:=Tryz.isAgg28
 z51:=Tryz.sizeOf28
 v51:=Tryz.zeroValue28
 t146:=Tryz.underlying325
 a146:=Tryz.isAgg325
 z146:=Tryz.sizeOf325
 v146:=Tryz.zeroValue325
 g1:=by kernel_rfl
 i3:=by kernel_rfl
 i4:=by kernel_rfl
 i5:=by kernel_rfl
 i9:=by kernel_rfl
 i46:=by kernel_rfl
 i51:=by kernel_rfl
 i146:=by kernel_rfl
 m1:=by kernel_rfl
 s1_3:=fun w h=>Go.Proofs.cell_of_shapedOpen_int (zero:= #[.int .i64 0]) (t:=3) h (of_decide_eq_true (by kernel_rfl)) (by kernel_rfl) rfl (by kernel_rfl) (by kernel_rfl) Tryz.underlying3}
def Tryz.lays190_ren:Go.Shelf.Ren:=⟨fun|190=>118|125=>116|258=>174|128=>172|129=>173|302=>202|303=>203|304=>204|305=>205|306=>206|307=>207|308=>208|309=>209|310=>210|333=>231|329=>198|330=>199|334=>232|335=>233|336=>117|344=>243|n=>n,fun|31=>25|9=>9|3=>3|46=>216|0=>0|51=>28|53=>24|4=>4|183=>262|182=>261|131=>191|5=>5|218=>283|222=>287|228=>312|229=>101|n=>n,fun|n=>n⟩
theorem Tryz.lays190:Go.Proofs.Lays.n190 Tryz.prog Tryz.lays190_ren:={
 mixed:=by kernel_rfl
 f125:=Tryz.func116.trans (congrArg some (by kernel_rfl))
 f128:=Tryz.func172.trans (congrArg some (by kernel_rfl))
 f129:=Tryz.func173.trans (congrArg some (by kernel_rfl))
 f190:=Tryz.func118.trans (congrArg some (by kernel_rfl))
 f258:=Tryz.func174.trans (congrArg some (by kernel_rfl))
 f302:=Tryz.func202.trans (congrArg some (by kernel_rfl))
 f303:=Tryz.func203.trans (congrArg some (by kernel_rfl))
 f304:=Tryz.func204.trans (congrArg some (by kernel_rfl))
 f305:=Tryz.func205.trans (congrArg some (by kernel_rfl))
 f306:=Tryz.func206.trans (congrArg some (by kernel_rfl))
 f307:=Tryz.func207.trans (congrArg some (by kernel_rfl))
 f308:=Tryz.func208.trans (congrArg some (by kernel_rfl))
 f309:=Tryz.func209.trans (congrArg some (by kernel_rfl))
 f310:=Tryz.func210.trans (congrArg some (by kernel_rfl))
 f329:=Tryz.func198.trans (congrArg some (by kernel_rfl))
 f330:=Tryz.func199.trans (congrArg some (by kernel_rfl))
 f333:=Tryz.func231.trans (congrArg some (by kernel_rfl))
 f334:=Tryz.func232.trans (congrArg some (by kernel_rfl))
 f335:=Tryz.func233.trans (congrArg some (by kernel_rfl))
 f336:=Tryz.func117.trans (congrArg some (by kernel_rfl))
 f344:=Tryz.func243.trans (congrArg some (by kernel_rfl))
 t0:=Tryz.underlying0
 a0:=Tryz.isAgg0
 z0:=Tryz.sizeOf0
 v0:=Tryz.zeroValue0
 t3:=Tryz.underlying3
 a3:=Tryz.isAgg3
 z3:=Tryz.sizeOf3
 v3:=Tryz.zeroValue3
 t4:=Tryz.underlying4
 a4:=Tryz.isAgg4
 z4:=Tryz.sizeOf4
 v4:=Tryz.zeroValue4
 t5:=Tryz.underlying5
 a5:=Tryz.isAgg5
 z5:=Tryz.sizeOf5
 v5:=Tryz.zeroValue5
 t9:=Tryz.underlying9
 a9:=Tryz.isAgg9
 z9:=Tryz.sizeOf9
 v9:=Tryz.zeroValue9
 t31:=Tryz.underlying25
 a31:=Tryz.isAgg25
 z31:=Tryz.sizeOf25
 v31:=Tryz.zeroValue25
 t46:=Tryz.underlying216
 a46:=Tryz.isAgg216
 z46:=Tryz.sizeOf216
 v46:=Tryz.zeroValue216
 t51:=Tryz.underlying28
 a51:=Tryz.isAgg28
 z51:=Tryz.sizeOf28
 v51:=Tryz.zeroValue28
 t53:=Tryz.underlying24
 a53:=Tryz.isAgg24
 z53:=Tryz.sizeOf24
 v53:=Tryz.zeroValue24
 t131:=Tryz.underlying191
 a131:=Tryz.isAgg191
 z131:=Tryz.sizeOf191
 v131:=Tryz.zeroValue191
 t182:=Tryz.underlying261
 a182:=Tryz.isAgg261
 z182:=Tryz.sizeOf261
 v182:=Tryz.zeroValue261
 t183:=Tryz.underlying262
 a183:=Tryz.isAgg262
 z183:=Tryz.sizeOf262
 v183:=Tryz.zeroValue262
 t218:=Tryz.underlying283
 a218:=Tryz.isAgg283
 z218:=Tryz.sizeOf283
 v218:=Tryz.zeroValue283
 t222:=Tryz.underlying287
 a222:=Tryz.isAgg287
 z222:=Tryz.sizeOf287
 v222:=Tryz.zeroValue287
 t228:=Tryz.underlying312
 a228:=Tryz.isAgg312
 z228:=Tryz.sizeOf312
 v228:=Tryz.zeroValue312
 t229:=Tryz.underlying101
 a229:=Tryz.isAgg101
 z229:=Tryz.sizeOf101
 v229:=Tryz.zeroValue101}
open Go.Sort Go.RowKit in
theorem Tryz.slices_Sort_string(blk off cap:Nat)(ss:List (List UInt8))(w:World)(hH:Holds encStr w blk off ss.toArray)(hblk:blk<w.heap.size)(hsz:ss.length<4611686018427387904):
  Calls Tryz.prog 118 #[.slice (some ⟨blk,off,none⟩) ss.length cap] w fun e w'=>
   e= .returned (.tuple #[])∧ ∃n os,w'=grow (putRow encStr (Sort.ahead w n) blk off (ss.mergeSort fun x y=>decide (x≤y)).toArray) os:=Any.slices_Sort_string Tryz.lays190 blk off cap ss w hH hblk hsz
def Tryz.lays146_ren:Go.Shelf.Ren:=⟨fun|146=>104|221=>160|268=>194|138=>195|143=>196|195=>226|197=>227|218=>228|219=>229|260=>238|217=>239|225=>240|224=>241|267=>242|266=>245|314=>246|n=>n,fun|9=>9|31=>25|3=>3|4=>4|0=>0|105=>309|21=>21|5=>5|46=>216|119=>321|139=>324|138=>323|146=>325|51=>28|n=>n,fun|1=>0|3=>1|4=>2|n=>n⟩
theorem Tryz.lays146:Go.Proofs.Lays.n146 Tryz.prog Tryz.lays146_ren:={
 mixed:=by kernel_rfl
 f138:=Tryz.func195.trans (congrArg some (by kernel_rfl))
 f143:=Tryz.func196.trans (congrArg some (by kernel_rfl))
 f146:=Tryz.func104.trans (congrArg some (by kernel_rfl))
 f195:=Tryz.func226.trans (congrArg some (by kernel_rfl))
 f197:=Tryz.func227.trans (congrArg some (by kernel_rfl))
 f217:=Tryz.func239.trans (congrArg some (by kernel_rfl))
 f218:=Tryz.func228.trans (congrArg some (by kernel_rfl))
 f219:=Tryz.func229.trans (congrArg some (by kernel_rfl))
 f221:=Tryz.func160.trans (congrArg some (by kernel_rfl))
 f224:=Tryz.func241.trans (congrArg some (by kernel_rfl))
 f225:=Tryz.func240.trans (congrArg some (by kernel_rfl))
 f260:=Tryz.func238.trans (congrArg some (by kernel_rfl))
 f266:=Tryz.func245.trans (congrArg some (by kernel_rfl))
 f267:=Tryz.func242.trans (congrArg some (by kernel_rfl))
 f268:=Tryz.func194.trans (congrArg some (by kernel_rfl))
 f314:=Tryz.func246.trans (congrArg some (by kernel_rfl))
 t0:=Tryz.underlying0
 a0:=Tryz.isAgg0
 z0:=Tryz.sizeOf0
 v0:=Tryz.zeroValue0
 t3:=Tryz.underlying3
 a3:=Tryz.isAgg3
 z3:=Tryz.sizeOf3
 v3:=Tryz.zeroValue3
 t4:=Tryz.underlying4
 a4:=Tryz.isAgg4
 z4:=Tryz.sizeOf4
 v4:=Tryz.zeroValue4
 t5:=Tryz.underlying5
 a5:=Tryz.isAgg5
 z5:=Tryz.sizeOf5
 v5:=Tryz.zeroValue5
 t9:=Tryz.underlying9
 a9:=Tryz.isAgg9
 z9:=Tryz.sizeOf9
 v9:=Tryz.zeroValue9
 t21:=Tryz.underlying21
 a21:=Tryz.isAgg21
 z21:=Tryz.sizeOf21
 v21:=Tryz.zeroValue21
 t31:=Tryz.underlying25
 a31:=Tryz.isAgg25
 z31:=Tryz.sizeOf25
 v31:=Tryz.zeroValue25
 t46:=Tryz.underlying216
 a46:=Tryz.isAgg216
 z46:=Tryz.sizeOf216
 v46:=Tryz.zeroValue216
 t51:=Tryz.underlying28
 a51:=Tryz.isAgg28
 z51:=Tryz.sizeOf28
 v51:=Tryz.zeroValue28
 t105:=Tryz.underlying309
 a105:=Tryz.isAgg309
 z105:=Tryz.sizeOf309
 v105:=Tryz.zeroValue309
 t119:=Tryz.underlying321
 a119:=Tryz.isAgg321
 z119:=Tryz.sizeOf321
 t138:=Tryz.underlying323
 a138:=Tryz.isAgg323
 z138:=Tryz.sizeOf323
 v138:=Tryz.zeroValue323
 t139:=Tryz.underlying324
 a139:=Tryz.isAgg324
 z139:=Tryz.sizeOf324
 v139:=Tryz.zeroValue324
 t146:=Tryz.underlying325
 a146:=Tryz.isAgg325
 z146:=Tryz.sizeOf325
 v146:=Tryz.zeroValue325
 g1:=by kernel_rfl
 g3:=by kernel_rfl
 g4:=by kernel_rfl}
open Go.RowKit Go.Lib in
theorem Tryz.strings_Split(s sep:ByteArray)(m:Int)(w:World)(hs:s.size<4294967281)(hm:w.cell? ⟨0,0,none⟩=some (.int .i64 m))(h1:1≤sep.size):
  Calls Tryz.prog 104 #[.string s,.string sep] w fun e w'=>
   e= .returned (.slice (some ⟨w.heap.size,0,none⟩) (Lib.countB s sep+1) (Lib.countB s sep+1))∧w'=w.alloc (.cells ((Lib.splitB sep 0 (Lib.countB s sep) s).map Value.string).toArray 9):=Any.strings_Split Tryz.lays146 (by kernel_rfl) s sep m w hs hm h1
open Go.RowKit Go.Sort in
theorem Tryz.slices_Sort_string_none(p:Option Addr)(cap:Nat)(w:World):
  Calls Tryz.prog 118 #[.slice p 0 cap] w fun e w'=>e= .returned (.tuple #[])∧w'=w:=Any.slices_Sort_string_none Tryz.lays190 p cap w
def Tryz.laysSortTag_ren:Go.Shelf.Ren:=⟨fun|6=>91|15=>116|14=>154|28=>172|29=>173|20=>185|21=>186|22=>187|23=>188|24=>189|25=>190|26=>191|27=>192|46=>222|47=>198|48=>199|49=>223|50=>224|57=>237|n=>n,fun|22=>36|24=>61|25=>181|3=>3|39=>216|0=>0|53=>28|55=>24|4=>4|46=>262|45=>261|50=>191|5=>5|9=>9|66=>283|70=>287|76=>312|77=>101|n=>n,fun|n=>n⟩
theorem Tryz.laysSortTag:Go.Proofs.SlLaysF0.n6 Tryz.prog Tryz.laysSortTag_ren:={
 mixed:=by kernel_rfl
 f6:=⟨Tryz.f91.name,by decide,Tryz.func91.trans (congrArg some (by kernel_rfl))⟩
 f14:=⟨Tryz.f154.name,by decide,Tryz.func154.trans (congrArg some (by kernel_rfl))⟩
 f15:=Tryz.func116.trans (congrArg some (by kernel_rfl))
 f20:=⟨Tryz.f185.name,by decide,Tryz.func185.trans (congrArg some (by kernel_rfl))⟩
 f21:=⟨Tryz.f186.name,by decide,Tryz.func186.trans (congrArg some (by kernel_rfl))⟩
 f22:=⟨Tryz.f187.name,by decide,Tryz.func187.trans (congrArg some (by kernel_rfl))⟩
 f23:=⟨Tryz.f188.name,by decide,Tryz.func188.trans (congrArg some (by kernel_rfl))⟩
 f24:=⟨Tryz.f189.name,by decide,Tryz.func189.trans (congrArg some (by kernel_rfl))⟩
 f25:=⟨Tryz.f190.name,by decide,Tryz.func190.trans (congrArg some (by kernel_rfl))⟩
 f26:=⟨Tryz.f191.name,by decide,Tryz.func191.trans (congrArg some (by kernel_rfl))⟩
 f27:=⟨Tryz.f192.name,by decide,Tryz.func192.trans (congrArg some (by kernel_rfl))⟩
 f28:=Tryz.func172.trans (congrArg some (by kernel_rfl))
 f29:=Tryz.func173.trans (congrArg some (by kernel_rfl))
 f46:=⟨Tryz.f222.name,by decide,Tryz.func222.trans (congrArg some (by kernel_rfl))⟩
 f47:=Tryz.func198.trans (congrArg some (by kernel_rfl))
 f48:=Tryz.func199.trans (congrArg some (by kernel_rfl))
 f49:=⟨Tryz.f223.name,by decide,Tryz.func223.trans (congrArg some (by kernel_rfl))⟩
 f50:=⟨Tryz.f224.name,by decide,Tryz.func224.trans (congrArg some (by kernel_rfl))⟩
 f57:=⟨Tryz.f237.name,by decide,Tryz.func237.trans (congrArg some (by kernel_rfl))⟩
 t0:=Tryz.underlying0
 a0:=Tryz.isAgg0
 z0:=Tryz.sizeOf0
 v0:=Tryz.zeroValue0
 t3:=Tryz.underlying3
 a3:=Tryz.isAgg3
 z3:=Tryz.sizeOf3
 v3:=Tryz.zeroValue3
 t4:=Tryz.underlying4
 a4:=Tryz.isAgg4
 z4:=Tryz.sizeOf4
 v4:=Tryz.zeroValue4
 t5:=Tryz.underlying5
 a5:=Tryz.isAgg5
 z5:=Tryz.sizeOf5
 v5:=Tryz.zeroValue5
 t9:=Tryz.underlying9
 a9:=Tryz.isAgg9
 z9:=Tryz.sizeOf9
 v9:=Tryz.zeroValue9
 t22:=Tryz.underlying36
 a22:=Tryz.isAgg36
 z22:=Tryz.sizeOf36
 v22:=Tryz.zeroValue36
 t25:=Tryz.underlying181
 a25:=Tryz.isAgg181
 z25:=Tryz.sizeOf181
 v25:=Tryz.zeroValue181
 t39:=Tryz.underlying216
 a39:=Tryz.isAgg216
 z39:=Tryz.sizeOf216
 v39:=Tryz.zeroValue216
 t45:=Tryz.underlying261
 a45:=Tryz.isAgg261
 z45:=Tryz.sizeOf261
 v45:=Tryz.zeroValue261
 t46:=Tryz.underlying262
 a46:=Tryz.isAgg262
 z46:=Tryz.sizeOf262
 v46:=Tryz.zeroValue262
 t50:=Tryz.underlying191
 a50:=Tryz.isAgg191
 z50:=Tryz.sizeOf191
 v50:=Tryz.zeroValue191
 t53:=Tryz.underlying28
 a53:=Tryz.isAgg28
 z53:=Tryz.sizeOf28
 v53:=Tryz.zeroValue28
 t55:=Tryz.underlying24
 a55:=Tryz.isAgg24
 z55:=Tryz.sizeOf24
 v55:=Tryz.zeroValue24
 t66:=Tryz.underlying283
 a66:=Tryz.isAgg283
 z66:=Tryz.sizeOf283
 v66:=Tryz.zeroValue283
 t70:=Tryz.underlying287
 a70:=Tryz.isAgg287
 z70:=Tryz.sizeOf287
 v70:=Tryz.zeroValue287
 t76:=Tryz.underlying312
 a76:=Tryz.isAgg312
 z76:=Tryz.sizeOf312
 v76:=Tryz.zeroValue312
 t77:=Tryz.underlying101
 a77:=Tryz.isAgg101
 z77:=Tryz.sizeOf101
 v77:=Tryz.zeroValue101}
def Tryz.laysSortItem_ren:Go.Shelf.Ren:=⟨fun|6=>46|15=>116|14=>115|28=>172|29=>173|20=>164|21=>165|22=>166|23=>167|24=>168|25=>169|26=>170|27=>171|46=>197|47=>198|48=>199|49=>200|50=>201|57=>230|n=>n,fun|22=>73|24=>144|25=>147|3=>3|39=>216|0=>0|53=>28|55=>24|4=>4|46=>262|45=>261|50=>191|5=>5|9=>9|66=>283|70=>287|76=>312|77=>101|n=>n,fun|n=>n⟩
theorem Tryz.laysSortItem:Go.Proofs.SlLaysF0.n6 Tryz.prog Tryz.laysSortItem_ren:={
 mixed:=by kernel_rfl
 f6:=⟨Tryz.f46.name,by decide,Tryz.func46.trans (congrArg some (by kernel_rfl))⟩
 f14:=⟨Tryz.f115.name,by decide,Tryz.func115.trans (congrArg some (by kernel_rfl))⟩
 f15:=Tryz.func116.trans (congrArg some (by kernel_rfl))
 f20:=⟨Tryz.f164.name,by decide,Tryz.func164.trans (congrArg some (by kernel_rfl))⟩
 f21:=⟨Tryz.f165.name,by decide,Tryz.func165.trans (congrArg some (by kernel_rfl))⟩
 f22:=⟨Tryz.f166.name,by decide,Tryz.func166.trans (congrArg some (by kernel_rfl))⟩
 f23:=⟨Tryz.f167.name,by decide,Tryz.func167.trans (congrArg some (by kernel_rfl))⟩
 f24:=⟨Tryz.f168.name,by decide,Tryz.func168.trans (congrArg some (by kernel_rfl))⟩
 f25:=⟨Tryz.f169.name,by decide,Tryz.func169.trans (congrArg some (by kernel_rfl))⟩
 f26:=⟨Tryz.f170.name,by decide,Tryz.func170.trans (congrArg some (by kernel_rfl))⟩
 f27:=⟨Tryz.f171.name,by decide,Tryz.func171.trans (congrArg some (by kernel_rfl))⟩
 f28:=Tryz.func172.trans (congrArg some (by kernel_rfl))
 f29:=Tryz.func173.trans (congrArg some (by kernel_rfl))
 f46:=⟨Tryz.f197.name,by decide,Tryz.func197.trans (congrArg some (by kernel_rfl))⟩
 f47:=Tryz.func198.trans (congrArg some (by kernel_rfl))
 f48:=Tryz.func199.trans (congrArg some (by kernel_rfl))
 f49:=⟨Tryz.f200.name,by decide,Tryz.func200.trans (congrArg some (by kernel_rfl))⟩
 f50:=⟨Tryz.f201.name,by decide,Tryz.func201.trans (congrArg some (by kernel_rfl))⟩
 f57:=⟨Tryz.f230.name,by decide,Tryz.func230.trans (congrArg some (by kernel_rfl))⟩
 t0:=Tryz.underlying0
 a0:=Tryz.isAgg0
 z0:=Tryz.sizeOf0
 v0:=Tryz.zeroValue0
 t3:=Tryz.underlying3
 a3:=Tryz.isAgg3
 z3:=Tryz.sizeOf3
 v3:=Tryz.zeroValue3
 t4:=Tryz.underlying4
 a4:=Tryz.isAgg4
 z4:=Tryz.sizeOf4
 v4:=Tryz.zeroValue4
 t5:=Tryz.underlying5
 a5:=Tryz.isAgg5
 z5:=Tryz.sizeOf5
 v5:=Tryz.zeroValue5
 t9:=Tryz.underlying9
 a9:=Tryz.isAgg9
 z9:=Tryz.sizeOf9
 v9:=Tryz.zeroValue9
 t22:=Tryz.underlying73
 a22:=Tryz.isAgg73
 z22:=Tryz.sizeOf73
 v22:=Tryz.zeroValue73
 t25:=Tryz.underlying147
 a25:=Tryz.isAgg147
 z25:=Tryz.sizeOf147
 v25:=Tryz.zeroValue147
 t39:=Tryz.underlying216
 a39:=Tryz.isAgg216
 z39:=Tryz.sizeOf216
 v39:=Tryz.zeroValue216
 t45:=Tryz.underlying261
 a45:=Tryz.isAgg261
 z45:=Tryz.sizeOf261
 v45:=Tryz.zeroValue261
 t46:=Tryz.underlying262
 a46:=Tryz.isAgg262
 z46:=Tryz.sizeOf262
 v46:=Tryz.zeroValue262
 t50:=Tryz.underlying191
 a50:=Tryz.isAgg191
 z50:=Tryz.sizeOf191
 v50:=Tryz.zeroValue191
 t53:=Tryz.underlying28
 a53:=Tryz.isAgg28
 z53:=Tryz.sizeOf28
 v53:=Tryz.zeroValue28
 t55:=Tryz.underlying24
 a55:=Tryz.isAgg24
 z55:=Tryz.sizeOf24
 v55:=Tryz.zeroValue24
 t66:=Tryz.underlying283
 a66:=Tryz.isAgg283
 z66:=Tryz.sizeOf283
 v66:=Tryz.zeroValue283
 t70:=Tryz.underlying287
 a70:=Tryz.isAgg287
 z70:=Tryz.sizeOf287
 v70:=Tryz.zeroValue287
 t76:=Tryz.underlying312
 a76:=Tryz.isAgg312
 z76:=Tryz.sizeOf312
 v76:=Tryz.zeroValue312
 t77:=Tryz.underlying101
 a77:=Tryz.isAgg101
 z77:=Tryz.sizeOf101
 v77:=Tryz.zeroValue101}
def Tryz.laysSortRec_ren:Go.Shelf.Ren:=⟨fun|6=>126|15=>116|14=>176|28=>172|29=>173|20=>211|21=>212|22=>213|23=>214|24=>215|25=>216|26=>217|27=>218|46=>234|47=>198|48=>199|49=>235|50=>236|57=>244|n=>n,fun|22=>91|24=>110|25=>161|3=>3|39=>216|0=>0|53=>28|55=>24|4=>4|46=>262|45=>261|50=>191|5=>5|9=>9|66=>283|70=>287|76=>312|77=>101|n=>n,fun|n=>n⟩
theorem Tryz.laysSortRec:Go.Proofs.SlLaysF0.n6 Tryz.prog Tryz.laysSortRec_ren:={
 mixed:=by kernel_rfl
 f6:=⟨Tryz.f126.name,by decide,Tryz.func126.trans (congrArg some (by kernel_rfl))⟩
 f14:=⟨Tryz.f176.name,by decide,Tryz.func176.trans (congrArg some (by kernel_rfl))⟩
 f15:=Tryz.func116.trans (congrArg some (by kernel_rfl))
 f20:=⟨Tryz.f211.name,by decide,Tryz.func211.trans (congrArg some (by kernel_rfl))⟩
 f21:=⟨Tryz.f212.name,by decide,Tryz.func212.trans (congrArg some (by kernel_rfl))⟩
 f22:=⟨Tryz.f213.name,by decide,Tryz.func213.trans (congrArg some (by kernel_rfl))⟩
 f23:=⟨Tryz.f214.name,by decide,Tryz.func214.trans (congrArg some (by kernel_rfl))⟩
 f24:=⟨Tryz.f215.name,by decide,Tryz.func215.trans (congrArg some (by kernel_rfl))⟩
 f25:=⟨Tryz.f216.name,by decide,Tryz.func216.trans (congrArg some (by kernel_rfl))⟩
 f26:=⟨Tryz.f217.name,by decide,Tryz.func217.trans (congrArg some (by kernel_rfl))⟩
 f27:=⟨Tryz.f218.name,by decide,Tryz.func218.trans (congrArg some (by kernel_rfl))⟩
 f28:=Tryz.func172.trans (congrArg some (by kernel_rfl))
 f29:=Tryz.func173.trans (congrArg some (by kernel_rfl))
 f46:=⟨Tryz.f234.name,by decide,Tryz.func234.trans (congrArg some (by kernel_rfl))⟩
 f47:=Tryz.func198.trans (congrArg some (by kernel_rfl))
 f48:=Tryz.func199.trans (congrArg some (by kernel_rfl))
 f49:=⟨Tryz.f235.name,by decide,Tryz.func235.trans (congrArg some (by kernel_rfl))⟩
 f50:=⟨Tryz.f236.name,by decide,Tryz.func236.trans (congrArg some (by kernel_rfl))⟩
 f57:=⟨Tryz.f244.name,by decide,Tryz.func244.trans (congrArg some (by kernel_rfl))⟩
 t0:=Tryz.underlying0
 a0:=Tryz.isAgg0
 z0:=Tryz.sizeOf0
 v0:=Tryz.zeroValue0
 t3:=Tryz.underlying3
 a3:=Tryz.isAgg3
 z3:=Tryz.sizeOf3
 v3:=Tryz.zeroValue3
 t4:=Tryz.underlying4
 a4:=Tryz.isAgg4
 z4:=Tryz.sizeOf4
 v4:=Tryz.zeroValue4
 t5:=Tryz.underlying5
 a5:=Tryz.isAgg5
 z5:=Tryz.sizeOf5
 v5:=Tryz.zeroValue5
 t9:=Tryz.underlying9
 a9:=Tryz.isAgg9
 z9:=Tryz.sizeOf9
 v9:=Tryz.zeroValue9
 t22:=Tryz.underlying91
 a22:=Tryz.isAgg91
 z22:=Tryz.sizeOf91
 v22:=Tryz.zeroValue91
 t25:=Tryz.underlying161
 a25:=Tryz.isAgg161
 z25:=Tryz.sizeOf161
 v25:=Tryz.zeroValue161
 t39:=Tryz.underlying216
 a39:=Tryz.isAgg216
 z39:=Tryz.sizeOf216
 v39:=Tryz.zeroValue216
 t45:=Tryz.underlying261
 a45:=Tryz.isAgg261
 z45:=Tryz.sizeOf261
 v45:=Tryz.zeroValue261
 t46:=Tryz.underlying262
 a46:=Tryz.isAgg262
 z46:=Tryz.sizeOf262
 v46:=Tryz.zeroValue262
 t50:=Tryz.underlying191
 a50:=Tryz.isAgg191
 z50:=Tryz.sizeOf191
 v50:=Tryz.zeroValue191
 t53:=Tryz.underlying28
 a53:=Tryz.isAgg28
 z53:=Tryz.sizeOf28
 v53:=Tryz.zeroValue28
 t55:=Tryz.underlying24
 a55:=Tryz.isAgg24
 z55:=Tryz.sizeOf24
 v55:=Tryz.zeroValue24
 t66:=Tryz.underlying283
 a66:=Tryz.isAgg283
 z66:=Tryz.sizeOf283
 v66:=Tryz.zeroValue283
 t70:=Tryz.underlying287
 a70:=Tryz.isAgg287
 z70:=Tryz.sizeOf287
 v70:=Tryz.zeroValue287
 t76:=Tryz.underlying312
 a76:=Tryz.isAgg312
 z76:=Tryz.sizeOf312
 v76:=Tryz.zeroValue312
 t77:=Tryz.underlying101
 a77:=Tryz.isAgg101
 z77:=Tryz.sizeOf101
 v77:=Tryz.zeroValue101}
end Go.Proofs
end

section
namespace Go.Proofs.YtmpeiadlohbikaaGreatDoor
open Go.ChangeShapes Go.WideShapes Go.ChangeAt Go.RowKit Go.Joins
set_option maxRecDepth 100000 in
theorem xw{f:FuncId}{fn:Func}{s:ChangeSpec}{tb:TypeId}{laid:List (String×DataW Unit)}(hfn:Tryz.prog.funcs[f]? =some fn)(hinit:Tryz.prog.inits.idxOf? f=none)(hv:s.vars= [])(hr:fn.resultTypes= #[tb])(htb:Tryz.prog.underlying tb=some .bool)(hread:oW Tryz.prog fn.params.toList=true)
  (hspec: ∀(H:Type) (ds:List (DataW H)),ds.length=fn.params.toList.length→s.fn H ds={results:= [.lit (.bool true)],args:=ds})
  (walk: ∀(W:World) (args:Array Value),zD fn W args→W.ShapedOpen Tryz.prog→laidMetH Tryz.prog laid W→Fn Tryz.prog f args.toList W fun v w'=>v= .bool true∧Fr [] W w')
  (os:Os) (started:os.Started) (H:Type) (enc:TypeId×Value→H)
  (witness: ∃(w:World) (tape:Tape) (i:Input),w.os=os∧(w.forCall tape i).Shaped Tryz.checked.prog∧i.vars= []∧Input.okWide Tryz.checked.prog (w.forCall tape i) .any w.heap.size f i∧
   ((s.pre enc Tryz.checked.prog fn [] false (w.forCall tape i).memory i.args∧laidMetH Tryz.prog laid (w.forCall tape i).memory)∧sizedMet enc Tryz.checked.prog fn (OpenSpec.ofChange s) false (w.forCall tape i).memory i.args)∧({}:Assume).holds Tryz.checked.prog (lone (Frame.enter Tryz.checked.prog f i.args .normal) [] (w.forCall tape i))):
  ReturnsInHanded {} Tryz.checked os f .any (fun w args=>(s.pre enc Tryz.prog fn [] false w args∧laidMetH Tryz.prog laid w)∧sizedMet enc Tryz.prog fn (OpenSpec.ofChange s) false w args) (s.post enc Tryz.prog fn false true false false):=by
 refine returnsInHanded_of_calls Tryz.own' started hinit witness ?_;intro w tape i _ hsh _ hok hpre hholds;obtain⟨_,_,_,fn',hfn',_,_,_,_,hval⟩:=hok;have e:fn'=fn:=Option.some.inj (hfn'.symm.trans hfn);subst e;obtain⟨⟨⟨ds,gs,before,hw,hc⟩,hx⟩,hz⟩:=hpre;have hw':=DataW.Whole.of_heap (w':=w.forCall tape i) (by rfl) hw;have hX:laidMetH Tryz.prog laid (w.forCall tape i):=hx.of_heap (by rfl);have hW':DataW.Whole enc Tryz.prog fn'.params.toList s.vars false (w.forCall tape i) i.args.toList ds gs before:=hw';have hlt: ∀x∈before,x.block<(w.forCall tape i).heap.size:=fun x hx=>hW'.lt x hx;obtain⟨p,q,hA,hV,hps,_,_⟩:=id hW';have hlen:ds.length=fn'.params.toList.length:=by
  have key: ∀(W:World) (ts:List TypeId) (vs:List Value) (ds:List (DataW H)) (ps:List MemPlace),DataW.TrodAll enc Tryz.prog W 0 (fun _=>true) true ts vs ds ps→ds.length=ts.length:=by
   intro W ts;induction ts with
   |nil=>intro vs ds ps h;obtain⟨_,rfl,_⟩:=trodAll_nil h;rfl
   |cons t ts ih=>intro vs ds ps h;obtain⟨v,vs,d,ds,p,q,rfl,rfl,rfl,_,h1⟩:=trodAll_cons h;simp[ih _ _ _ h1]
  exact key _ _ _ _ _ hA
 have hcl:=(walk (w.forCall tape i) i.args ⟨H,enc,w.heap.size,ds,p,hval,hA,fun x hx=>hlt x (by rw[hps];exact List.mem_append_left _ hx)⟩ hsh hX).2;rw[Array.toArray_toList]at hcl;refine Calls.mono hcl fun e W' ⟨v,he,hv',hF⟩=>?_;subst he;subst hv';exact ChangeSpec.post_blind (zC hv hW' (hspec H ds hlen) hr htb hread hF.below)
end Go.Proofs.YtmpeiadlohbikaaGreatDoor
end

section
set_option linter.unusedVariables false
set_option linter.unusedSimpArgs false
namespace Go.Proofs.YtmpeiadlohbikaaGreatDoor.V
open Go.ChangeShapes Go.WideShapes Go.ChangeAt Go.RowKit Go.Joins
theorem Dq{f:FuncId}{c:aW U}{xs:List (Va U)}{vs:List Value}{W:World}(hk:bi Tryz.prog U f c)(hg:Gv W)(hv: ∀(F:am) (ρ:Nat→Rz),bK (@Vw F U gB W ρ 0 []) xs vs)
  (hr:c.run xs [] fun r es=>r= .v ⟨false,[(1,.d .bool true)]⟩∧es= []):Fn Tryz.prog f vs W fun v w'=>v= .bool true∧Fr [] W w':=by
 obtain⟨b,bx,bp⟩: ∃b:Bx,b.f.xf=gB∧b.f.pr=Tryz.prog:=⟨⟨⟨gB,Tryz.prog⟩⟩,rfl,rfl⟩;have M:=Jz (F0:=b.f) (U:=U) (X:=gB) (w:=W) (ρ0:=fun _=>⟨none,0⟩) (fun x hx=>hg.lt x hx) (fun z hz=>bx▸hz) ⟨fun z hz=>bx▸hz,fun w hw=>hw▸hg⟩;refine Fn.mono (@hk b.f bp gB W _ [] xs vs _ M (hv b.f _) hr) fun v w'=>?_;rintro⟨r,es',ρ',⟨rfl,rfl⟩,hav,M',st⟩;have st:=bM.i (F0:=b.f) st;exact⟨@sZ dfs0 b.f _ _ _ _ _ _ 1 true v hav,st.fr⟩
theorem JS{W:World}(h:W.ShapedOpen Tryz.prog):Bs W:=fun g hg j v hc=>by
 have e:g=0:=by simpa[gB]using hg
 subst e;obtain⟨cs,hh,hs,_⟩:=h.1 0 #[.int .i64 0] 3 (of_decide_eq_true (by kernel_rfl)) (by kernel_rfl);have hs:cs.size=1:=hs;have h1:cs[j]? =some v:=by simpa[World.cell?,hh]using hc
 have:=(Array.getElem?_eq_some_iff.1 h1).1;omega
section
variable {W:World}
set_option maxRecDepth 20000
theorem o3:nA Tryz.prog U W 3 (.int .i64):=vA Tryz.underlying3
theorem o2:nA Tryz.prog U W 2 (.int .i64):=vA Tryz.underlying2
theorem o9:nA Tryz.prog U W 9 .str:=BL Tryz.underlying9
theorem SG:nA Tryz.prog U W 54 (.st 1):=jI Tryz.underlying54 (by kernel_rfl) (.cons _ _ _ _ _ _ rfl (by kernel_rfl) o3 (.cons _ _ _ _ _ _ rfl (by kernel_rfl) o9 (.cons _ _ _ _ _ _ rfl (by kernel_rfl) o2 (.nil _)))) (fun _=>trivial)
end
end Go.Proofs.YtmpeiadlohbikaaGreatDoor.V
end

section
set_option linter.unusedVariables false
set_option linter.unusedSimpArgs false
namespace Go.Proofs.YtmpeiadlohbikaaGreatDoor.V
open Go.RowKit
def Hh(ρf:Nat→Nat):Operand→Operand
 | .func f=> .func (ρf f)
 |x=>x
def CR(ρf ρt:Nat→Nat)(c:Go.Call):Go.Call:={c with callee:=(match c.callee with| .value x=> .value (Hh ρf x)|x=>x),args:=(c.args.toList.map (Hh ρf)).toArray,argTypes:=(c.argTypes.toList.map ρt).toArray}
def JF(ρf ρt:Nat→Nat):Op→Op
 | .alloc t=> .alloc (ρt t)
 | .box t x=> .box (ρt t) x
 | .buildSlice t k ps=> .buildSlice (ρt t) k ps
 | .load t x=> .load (ρt t) x
 | .store t x y=> .store (ρt t) x y
 | .binOp b t x y u=> .binOp b (ρt t) x y (ρt u)
 | .unOp b t x=> .unOp b (ρt t) x
 | .convert t u x=> .convert (ρt t) (ρt u) x
 | .makeSlice t x y=> .makeSlice (ρt t) x y
 | .slice t x l h m=> .slice (ρt t) x l h m
 | .indexAddr t x y=> .indexAddr (ρt t) x y
 | .index t x y=> .index (ρt t) x y
 | .call c=> .call (CR ρf ρt c)
 | .range t x=> .range (ρt t) x
 |o=>o
def Ng(ρf ρt:Nat→Nat)(o:Oper):Oper:={o with op:=JF ρf ρt o.op,type:=ρt o.type}
def dS(ρf ρt:Nat→Nat):Code→Code
 | .region i ops d=> .region i (ops.toList.map (Ng ρf ρt)).toArray d
 | .seq a b=> .seq (dS ρf ρt a) (dS ρf ρt b)
 | .cond c a b=> .cond c (dS ρf ρt a) (dS ρf ρt b)
 | .block i a=> .block i (dS ρf ρt a)
 | .loop a=> .loop (dS ρf ρt a)
 | .rangeFunc g ps a b=> .rangeFunc (Hh ρf g) ps (dS ρf ρt a) (dS ρf ρt b)
 |c=>c
def cw(fn:Go.Func):Code:=match fn.body with|some c=>c|none=> .skip
structure Em(U:bG)(Y:List Nat)(w:World)(s:aZ) where
 x:TT U.ty s
 c:List Value
 den:aC U Y (· =w) s x c
section
variable {U:bG} {Y:List Nat} {w:World} {s:aZ}
theorem Em.hl(e:Em U Y w s):e.c.length=aM U s:=e.den.length
theorem Em.h1(e:Em U Y w s): ∀v∈e.c,v.oneCell'=true:=e.den.one
theorem wk: ∀{xs:List (TT U.ty s)} {cs:List Value},aT U Y (· =w) s xs cs→ ∃l:List (Em U Y w s),l.map (·.x)=xs∧l.flatMap (·.c)=cs
 | [],cs,h=>⟨[],rfl,(h.nil_inv).symm⟩
 |x::xs,cs,h=>by
  obtain⟨v1,v2,rfl,h1,hl,hr⟩:=h.cons_inv;obtain⟨l,e1,e2⟩:=wk hr;exact⟨⟨x,v1,h1⟩::l,by simp[e1],by simp[e2]⟩
theorem iw: ∀(l:List (Em U Y w s)),aT U Y (· =w) s (l.map (·.x)) (l.flatMap (·.c))
 | []=> .nil s
 |e::l=> .cons s e.x _ e.c _ e.den e.den.length (iw l)
end
end Go.Proofs.YtmpeiadlohbikaaGreatDoor.V
end

section
set_option linter.unusedVariables false
set_option linter.unusedSimpArgs false
namespace Go.Proofs.YtmpeiadlohbikaaGreatDoor
open Go.RowKit
section
variable [bt] {P:Program} {n:Nat} {env:aG} {S:World→Prop} {o:Oper}
theorem uX{x:Operand}{t e:Nat}{b:Option Addr}{l c:Nat}(ho:o.op= .call {callee:= .builtin .cap,args:= #[x],argTypes:= #[t]})(hx:env.ev x=some (.slice b l c))(ht:P.underlying t=some (.slice e)):bY P n env S o (.int .i64 c):=fun a r w _=>
 dN ho (r.eval hx) fun cs=>by
  have h:(Builtin.cap_ #[t] o.type #[.slice b l c]).run P w= .ok (goInt c) w:=by simp[Builtin.cap_,run_underlying ht]
  simp only[builtin,Sem.run_bind,h,Result.andThen_ok];rfl
end
theorem j8{α:Type}{enc:α→List Value}{m:Nat}(u:α)(hm:(enc u).length=m)(k:Nat):Builtin.zeroCells (enc u).toArray k=((List.replicate k u).flatMap enc).toArray:=by
 rw[tU,←mH (enc u) k m hm];unfold Builtin.zeroCells madeCells;simp[hm]
section
variable [bt] {P:Program} {n:Nat} {env:aG} {w:World} {o:Oper} {K:aG→World→Prop} {H:bR}
theorem Aa{α:Type}{enc:α→List Value}{t tn e m by' c l:Nat}{x y:Operand}{A:Option Addr}{xs:List α}{u:α}{z:List Value}{k kn:IntKind}{q:Int}(ho:o.op= .call {callee:= .builtin .append,args:= #[x,y],argTypes:= #[t,tn]}){d:Nat}(hd:o.dst=some d)(hn:Nat.blt d n=true)
  (hx:env.ev x=some (.slice A l c)) (hy:env.ev y=some (.int k q)) (hl:l=xs.length) (ht:ar P t=some (e,m)) (htn:P.underlying tn=some (.int kn)) (hz:zeroCells P e=some z) (hzu:z=enc u) (hby:(P.info? e).map (·.bytes)=some by') (hm: ∀x,(enc x).length=m) (hm0:0<m)
  (hsrc: ∀ad,A=some ad→ ∀j v,(xs.flatMap enc)[j]? =some v→w.cell? (ad.add j)=some v) (hA:A=none→xs.length=0) (h0:0<q) (hg:(c:Int)<l+q) (h63:l+q≤9223372036854775807) (hbytes:(xs.length+q.toNat)*by'≤140737488355328) (h:Hp w H)
  (hK: ∀g c' sp' w',Ow (some ⟨g,0,none⟩) (xs++List.replicate q.toNat u).length c' m ((xs++List.replicate q.toNat u).flatMap enc) sp'→Hp w' (H++ [(some g,Cl ((xs++List.replicate q.toNat u).flatMap enc++sp') e)])→Fr [] w w'→w.heap.size≤g→K ((d,.slice (some ⟨g,0,none⟩) (xs++List.replicate q.toNat u).length c')::env) w'):bH P n env w o K:=by
 subst hl;obtain⟨j,rfl⟩:=Int.eq_ofNat_of_zero_le (Int.le_of_lt h0);simp only[Int.toNat_natCast]at hK hbytes;obtain⟨hu,hs⟩:=bm ht;unfold zeroCells at hz;cases hq:P.info? e with
 |none=>simp[hq]at hz
 |some inf=>
  cases hzz:inf.zero with
  |none=>simp[hq,hzz]at hz
  |some z0=>
   have hz':z0.cells=(enc u).toArray:=by simp[hq,hzz]at hz;rw[←hzu,←hz]
   have hms:inf.size=m:=by simpa[hq]using hs
   have hb:inf.bytes=by':=by simpa[hq]using hby
   have hold:(Builtin.firstCells inf.size xs.length (.slice A xs.length c)).run P w.drew= .ok (xs.flatMap enc).toArray w.drew:=by
    cases A with
    |none=>
     have hx0:xs= []:=List.eq_nil_of_length_eq_zero (hA rfl);subst hx0;simp[Builtin.firstCells]
    |some ad=>exact run_firstCells_some (P:=P) w.drew inf.size xs.length ad xs.length c (xs.flatMap enc) (by rw[ba hm,hms]) (by simpa using hsrc ad rfl)
   have h63':((xs.length+j:Nat):Int)≤9223372036854775807:=by omega
   have hjb:j*inf.bytes≤281474976710656:=by
    rw[hb];have:=Nat.mul_le_mul_right by' (show j≤xs.length+j by omega);omega
   have hrun:=Lib.run_append_grow_zeros (P:=P) w t tn o.type e inf z0 k kn hu htn hq hzz A xs.length c (xs.flatMap enc) hold j (by omega) (by omega) (by omega) h63' hjb (growslice_fits (by omega) (by rw[hb];exact hbytes));rw[hz',j8 u (hm u),j8 u (hm u)]at hrun;have hge:=grownCap_ge w (xs.length+j) c e;have hcm:=grownCap_le_maxLen w (xs.length+j) c e (by unfold maxLen;omega);have e1:((xs.flatMap enc).toArray++((List.replicate j u).flatMap enc).toArray++((List.replicate (grownCap w (xs.length+j) c e -(xs.length+j)) u).flatMap enc).toArray)=((xs++List.replicate j u).flatMap enc++(List.replicate (grownCap w (xs.length+j) c e -(xs.length+j)) u).flatMap enc).toArray:=by simp
   rw[e1]at hrun;have hL:(xs++List.replicate j u).length=xs.length+j:=by simp
   have:=hK w.heap.size (grownCap w (xs.length+j) c e) ((List.replicate (grownCap w (xs.length+j) c e -(xs.length+j)) u).flatMap enc) _ ⟨by rw[ba hm],.inr ⟨_,rfl,by rw[←List.flatMap_append,ba hm,List.length_append,hL,List.length_replicate];congr 1;omega,by rw[hL];exact hge,hcm⟩⟩ (h.drew.alloc _) ((Fr.drew w).step0 (Fr.alloc w.drew _)) (Nat.le_refl _);rw[hL]at this;refine eR hd hn (fun a r=>?_) this;refine dh ho (r.eval hx) (r.eval hy) fun cs=>?_;simp only[builtin,Sem.run_bind,hrun,Result.andThen_ok];rfl
omit [bt]in
theorem xI{α:Type}{enc:α→List Value}{m:Nat}(hm: ∀x,(enc x).length=m)(xs ys:List α)(sp:List Value)(p:Nat)(h:p+ys.length≤xs.length):
  (xs.flatMap enc++sp).take (0+p*m)++ys.flatMap enc++(xs.flatMap enc++sp).drop (0+p*m+(ys.flatMap enc).length)=(xs.take p++ys++xs.drop (p+ys.length)).flatMap enc++sp:=by
 have hlen:=ba hm xs;have h1:p*m≤xs.length*m:=Nat.mul_le_mul_right m (by omega);have h2:(p+ys.length)*m≤xs.length*m:=Nat.mul_le_mul_right m h;rw[Nat.zero_add,ba hm ys,←Nat.add_mul,List.take_append_of_le_length (by rw[hlen];exact h1),List.drop_append_of_le_length (by rw[hlen];exact h2),kN hm,kM hm];simp
theorem wE{α:Type}{enc:α→List Value}{t t' e m g dc g2 b2 sl sc i l c dl k:Nat}{x y:Operand}{xs ys:List α}{sp:List Value}{p:Int}(ho:o.op= .call {callee:= .builtin .copy,args:= #[x,y],argTypes:= #[t,t']}){d:Nat}(hd:o.dst=some d)(hn:Nat.blt d n=true)
  (hx:env.ev x=some (.slice (some ⟨g,0+p.toNat*m,none⟩) dl dc)) (hy:env.ev y=some (.slice (some ⟨g2,b2,none⟩) sl sc)) (ht:ar P t=some (e,m)) (hm: ∀x,(enc x).length=m) (hm0:0<m) (h1: ∀x,∀v∈enc x,v.oneCell'=true) (hk:Nat.min sl dl=ys.length)
  (hvs:w.rangeAt g2 b2 (ys.flatMap enc)) (how:Ow (some ⟨g,0,none⟩) l c m (xs.flatMap enc) sp) (hl:l=xs.length) (h:Hp w H) (hi:H[i]? =some (ah (some ⟨g,0,none⟩),Cl (xs.flatMap enc++sp) k)) (hfit:p.toNat+ys.length≤xs.length)
  (hK: ∀w',Ow (some ⟨g,0,none⟩) l c m ((xs.take p.toNat++ys++xs.drop (p.toNat+ys.length)).flatMap enc) sp→Hp w' (H.set i (ah (some ⟨g,0,none⟩),Cl ((xs.take p.toNat++ys++xs.drop (p.toNat+ys.length)).flatMap enc++sp) k))→Fr [g] w w'→K ((d,(.int .i64 ys.length))::env) w'):bH P n env w o K:=by
 subst hl;have hlen:=ba hm xs;have hys:=ba hm ys;have h2:(p.toNat+ys.length)*m≤xs.length*m:=Nat.mul_le_mul_right m hfit;rw[Nat.add_mul]at h2;refine u4 ho hd hn hx hy ht hk hvs hys (fun v hv=>by obtain⟨x,_,hx⟩:=List.mem_flatMap.1 hv;exact h1 x v hx) h hi (by rw[List.length_append,hlen,hys];omega) fun w' hp hf _=>?_;rw[xI hm xs ys sp p.toNat hfit]at hp;have hL:(xs.take p.toNat++ys++xs.drop (p.toNat+ys.length)).length=xs.length:=by simp;omega
 refine hK w' ⟨by rw[ba hm,hL],?_⟩ hp hf;rcases how.2 with⟨h3,_⟩|⟨g',e2,h3,h4,h5⟩
 ·cases h3
 ·exact .inr ⟨g',e2,by rw[←h3,List.length_append,List.length_append,ba hm,hL,hlen],h4,h5⟩
theorem uY{f t tR e m g b g2 b2 la ca lb cb i j ti tj:Nat}{fn:Func}{xs:List Operand}{ts:Array TypeId}{cs cs2:List Value}(ho:o.op= .call {callee:= .value (.func f),args:=xs.toArray,argTypes:=ts}){d:Nat}(hd:o.dst=some d)(hn:Nat.blt d n=true)
  (hf:P.funcs[f]? =some fn) (hname:(fn.name== "runtime.NumGoroutine")=false) (hb:fn.body.isNone=true) (hnx:Extern.findNext fn=none) (hx:Extern.find fn=some (Extern.SlicesOverlaps.overlaps #[t,t] #[tR])) (ht:ar P t=some (e,m))
  (hxs:env.evs xs=some [.slice (some ⟨g,b,none⟩) la ca,.slice (some ⟨g2,b2,none⟩) lb cb]) (h:Hp w H) (hi:H[i]? =some (some g,Cl cs ti)) (hj:H[j]? =some (some g2,Cl cs2 tj)) (hij:i≠j) (hc:cs2.length≠0)
  (hK:K ((d,.bool false)::env) w):bH P n env w o K:=by
 obtain⟨hu,hs⟩:=bm ht;have hg:=h.at hi;have hg2:=h.at hj;have hne:=h.ne hi hj hij;have hov:=Lib.run_overlaps_apart (P:=P) w t tR e hu m (fun w=>bO hs w) ⟨g,b,none⟩ ⟨g2,b2,none⟩ la ca lb cb hne ti tj cs.length cs2.length (by simp[World.shape?,hg]) (by simp[World.shape?,hg2]) hc (by simp[World.frozen?,hg]) (by simp[World.frozen?,hg]);refine eR hd hn (v:= .bool false) (w':=w) (fun a r=>?_) hK;have e':(xs.toArray.map a.eval)= #[.slice (some ⟨g,b,none⟩) la ca,.slice (some ⟨g2,b2,none⟩) lb cb]:=by rw[List.map_toArray,r.evals hxs]
 unfold execOp;simp only[ho,resolve,e',Act.eval,Deferred.ofValue,Sem.run_bind,Sem.run_pure,Result.andThen_ok,invoke];simp[run_callFunc_extern hf hname hb hnx hx,hov]
theorem Dw{α:Type}{enc:α→List Value}{t t' e m g dc sl sc j dl ty mm:Nat}{x y:Operand}{xs:List α}{sp:List Value}{p i:Int}(ho:o.op= .call {callee:= .builtin .copy,args:= #[x,y],argTypes:= #[t,t']}){d:Nat}(hd:o.dst=some d)(hn:Nat.blt d n=true)
  (hx:env.ev x=some (.slice (some ⟨g,0+p.toNat*m,none⟩) dl dc)) (hy:env.ev y=some (.slice (some ⟨g,0+i.toNat*m,none⟩) sl sc)) (ht:ar P t=some (e,m)) (hm: ∀x,(enc x).length=m) (h1: ∀x,∀v∈enc x,v.oneCell'=true) (h0:0≤i) (hp:p.toNat=i.toNat+mm) (hin:i≤xs.length) (hk:Nat.min sl dl=xs.length - i.toNat)
  (h:Hp w H) (hi:H[j]? =some (some g,Cl (xs.flatMap enc++sp) ty)) (hsp:mm*m≤sp.length)
  (hK: ∀hole w',hole.length=mm*m→Hp w' (H.set j (some g,Cl ((xs.take i.toNat).flatMap enc++hole++((xs.drop i.toNat).flatMap enc++sp.drop (mm*m))) ty))→Fr [g] w w'→K ((d,(.int .i64 ((xs.length - i.toNat:Nat):Int)))::env) w'):bH P n env w o K:=by
 have hil:i.toNat≤xs.length:=by omega
 have hlen:=ba hm xs;have hle:i.toNat*m≤xs.length*m:=Nat.mul_le_mul_right m hil;have hA:=kN hm (l:=xs) (k:=i.toNat);have hB:=kM hm (l:=xs) (k:=i.toNat);have hAl:((xs.take i.toNat).flatMap enc).length=i.toNat*m:=by rw[ba hm,List.length_take];congr 1;omega
 have hBl:((xs.drop i.toNat).flatMap enc).length=(xs.length - i.toNat)*m:=by rw[ba hm,List.length_drop]
 have hsplit:xs.flatMap enc=(xs.take i.toNat).flatMap enc++(xs.drop i.toNat).flatMap enc:=by rw[←List.flatMap_append,List.take_append_drop]
 have hvs:w.rangeAt g (0+i.toNat*m) ((xs.drop i.toNat).flatMap enc):=by
  have:=pM (k:=0+i.toNat*m) (m:=((xs.drop i.toNat).flatMap enc).length) h hi;rw[hsplit,Nat.zero_add,List.append_assoc,←hAl,List.drop_left,List.take_left]at this;rw[Nat.zero_add,←hAl];exact this
 have hs:(xs.length - i.toNat)*m=xs.length*m - i.toNat*m:=Nat.sub_mul ..;refine u4 (vs:=(xs.drop i.toNat).flatMap enc) ho hd hn hx hy ht hk hvs hBl (fun v hv=>by obtain⟨x,_,hx⟩:=List.mem_flatMap.1 hv;exact h1 x v hx) h hi (by rw[List.length_append,hlen,hBl,hp,Nat.add_mul];omega) fun w' hp' hf _=>?_;refine hK (((xs.drop i.toNat).flatMap enc++sp).take (mm*m)) w' (by rw[List.length_take,List.length_append];omega) ?_ hf;have e1:(xs.flatMap enc++sp).take (0+p.toNat*m)=(xs.take i.toNat).flatMap enc++((xs.drop i.toNat).flatMap enc++sp).take (mm*m):=by
  rw[Nat.zero_add,hp,Nat.add_mul,hsplit,List.append_assoc,List.take_append,hAl,Nat.add_sub_cancel_left,List.take_of_length_le (by rw[hAl];omega)]
 have e2:(xs.flatMap enc++sp).drop (0+p.toNat*m+((xs.drop i.toNat).flatMap enc).length)=sp.drop (mm*m):=by
  rw[Nat.zero_add,hp,Nat.add_mul,hBl,List.drop_append,List.drop_of_length_le (by omega),List.nil_append,hlen];congr 1;omega
 rw[e1,e2]at hp';simpa only[List.append_assoc]using hp'
theorem HP{α:Type}{enc:α→List Value}{t t' e m g dc g2 b2 sl sc j dl ty:Nat}{x y:Operand}{ys:List α}{us hole bs:List Value}{i:Int}(ho:o.op= .call {callee:= .builtin .copy,args:= #[x,y],argTypes:= #[t,t']}){d:Nat}(hd:o.dst=some d)(hn:Nat.blt d n=true)
  (hx:env.ev x=some (.slice (some ⟨g,0+i.toNat*m,none⟩) dl dc)) (hy:env.ev y=some (.slice (some ⟨g2,b2,none⟩) sl sc)) (ht:ar P t=some (e,m)) (hm: ∀x,(enc x).length=m) (h1: ∀x,∀v∈enc x,v.oneCell'=true) (hk:Nat.min sl dl=ys.length)
  (hvs:w.rangeAt g2 b2 (ys.flatMap enc)) (h:Hp w H) (hi:H[j]? =some (some g,Cl (us++hole++bs) ty)) (ha:us.length=i.toNat*m) (hh:hole.length=ys.length*m)
  (hK: ∀w',Hp w' (H.set j (some g,Cl (us++ys.flatMap enc++bs) ty))→Fr [g] w w'→K ((d,(.int .i64 (ys.length:Int)))::env) w'):bH P n env w o K:=by
 have hys:=ba hm ys;refine u4 (vs:=ys.flatMap enc) ho hd hn hx hy ht hk hvs hys (fun v hv=>by obtain⟨x,_,hx⟩:=List.mem_flatMap.1 hv;exact h1 x v hx) h hi (by rw[List.length_append,List.length_append,ha,hys,hh];omega) fun w' hp hf _=>hK w' ?_ hf;have e1:(us++hole++bs).take (0+i.toNat*m)=us:=by rw[Nat.zero_add,←ha,List.append_assoc,List.take_left]
 have e2:(us++hole++bs).drop (0+i.toNat*m+(ys.flatMap enc).length)=bs:=by
  rw[Nat.zero_add,hys,←hh,←ha,←List.length_append,List.drop_left]
 rw[e1,e2]at hp;exact hp
end
section
variable [bt] {P:Program} {n:Nat} {env:aG} {S:World→Prop} {o:Oper}
theorem jm{t e m l c g:Nat}{x:Operand}{lo hi:Option Operand}{p q:Int}(ho:o.op= .slice t x lo hi none)(hx:env.ev x=some (.slice (some ⟨g,0,none⟩) l c))(ht:ar P t=some (e,m))(hlo:ij env lo=some p)(hhi:ik env l hi=some q)
  (h0:0≤p) (h1:p≤q) (h2:q≤c) (hlc:l≤c) (hpc:p<c):bY P n env S o (.slice (some ⟨g,0+p.toNat*m,none⟩) (q.toNat - p.toNat) (c - p.toNat)):=by
 have:=oo (P:=P) (n:=n) (S:=S) ho hx ht hlo hhi h0 h1 h2 hlc;rw[mF (by omega)]at this;exact this
theorem HQ{t e m l c g:Nat}{x:Operand}{hi:Option Operand}{q:Int}(ho:o.op= .slice t x none hi none)(hx:env.ev x=some (.slice (some ⟨g,0,none⟩) l c))(ht:ar P t=some (e,m))(hhi:ik env l hi=some q)
  (h1:0≤q) (h2:q≤c) (hlc:l≤c) (hpc:0<c):bY P n env S o (.slice (some ⟨g,0,none⟩) q.toNat c):=by
 have:=jm (P:=P) (n:=n) (S:=S) ho hx ht (p:=0) rfl hhi (by omega) h1 h2 hlc (by omega);simpa using this
end
section
variable {w:World} {H:bR} {α:Type} {enc:α→List Value} {m i e g:Nat} {xs:List α} {sp:List Value}
theorem qD{us:List Value}(h:Hp w H)(hi:H[i]? =some (some g,Cl (us++sp) e)):w.rangeAt g 0 us:=by
 have:=pM (k:=0) (m:=us.length) h hi;rw[List.drop_zero,List.take_left]at this;exact this
theorem uZ(hm: ∀x,(enc x).length=m)(h:Hp w H)(hi:H[i]? =some (some g,Cl (xs.flatMap enc++sp) e))(p:Nat):w.rangeAt g (0+p*m) ((xs.drop p).flatMap enc):=by
 rcases Nat.le_total p xs.length with hp|hp
 ·have:=pM (k:=0+p*m) (m:=((xs.drop p).flatMap enc).length) h hi;have hA:((xs.take p).flatMap enc).length=p*m:=by rw[ba hm,List.length_take];congr 1;omega
  have hs:xs.flatMap enc=(xs.take p).flatMap enc++(xs.drop p).flatMap enc:=by rw[←List.flatMap_append,List.take_append_drop]
  rw[hs,Nat.zero_add,List.append_assoc,←hA,List.drop_left,List.take_left]at this;rw[Nat.zero_add,←hA];exact this
 ·rw[List.drop_of_length_le hp];intro j v hj;simp at hj
theorem Ab(hm: ∀x,(enc x).length=m)(h:Hp w H)(hi:H[i]? =some (some g,Cl (xs.flatMap enc++sp) e))(p:Nat): ∀ad,some (⟨g,0+(0:Int).toNat*m,none⟩:Addr)=some ad→ ∀j v,((xs.take p).flatMap enc)[j]? =some v→w.cell? (ad.add j)=some v:=fun ad e j v hj=>by
 injection e with e;subst e;have h0:(xs.flatMap enc++sp)[j]? =some v:=by
  have hs:xs.flatMap enc=(xs.take p).flatMap enc++(xs.drop p).flatMap enc:=by rw[←List.flatMap_append,List.take_append_drop]
  rw[hs,List.append_assoc,List.getElem?_append_left (List.getElem?_eq_some_iff.1 hj).1];exact hj
 rw[Addr.add_mid];have:=iq h hi h0;simpa using this
end
theorem Ow.lc{A:Option Addr}{l c m:Nat}{xs sp:List Value}(h:Ow A l c m xs sp):l≤c∧c≤9223372036854775807:=by
 rcases h.2 with⟨_,h0,h1,_⟩|⟨g,_,_,h1,h2⟩
 ·omega
 ·unfold maxLen at h2;omega
theorem Ow.room{A:Option Addr}{l c m k:Nat}{xs sp:List Value}(h:Ow A l c m xs sp)(hl:l+k≤c):k*m≤sp.length:=by
 have h0:=h.1;rcases h.2 with⟨_,h2,h3,h4⟩|⟨g,_,h2,h3,h4⟩
 ·have:k=0:=by omega
  subst this;simp
 ·rw[List.length_append,h0]at h2;have:=Nat.mul_le_mul_right m hl;rw[Nat.add_mul]at this;omega
theorem rW{α:Type}(s v:List α){i:Int}(h:i=s.length):s.take i.toNat++v++s.drop i.toNat=s++v:=by
 subst h;simp
theorem pv{α:Type}(s v:List α)(z:α){i q k:Nat}(hi:i≤s.length)(hq:q=i+v.length)(hk:k=s.length+v.length - i):
  s.take i++v++s.drop i=((((s.take i++List.replicate k z).take i++v++(s.take i++List.replicate k z).drop (i+v.length)).take q)++s.drop i++((s.take i++List.replicate k z).take i++v++(s.take i++List.replicate k z).drop (i+v.length)).drop (q+(s.drop i).length)):=by
 subst hq hk;have h1:(s.take i).length=i:=by rw[List.length_take];omega
 have e1:(s.take i++List.replicate (s.length+v.length - i) z).take i=s.take i:=by
  rw[List.take_append_of_le_length (by omega),List.take_of_length_le (by omega)]
 rw[e1];have h3:((s.take i++List.replicate (s.length+v.length - i) z).drop (i+v.length)).length=(s.drop i).length:=by
  rw[List.length_drop,List.length_append,h1,List.length_replicate,List.length_drop];omega
 revert h3;generalize (s.take i++List.replicate (s.length+v.length - i) z).drop (i+v.length)=R;intro h3;have e2:(s.take i++v).length=i+v.length:=by rw[List.length_append,h1]
 generalize s.take i++v=T at e2⊢;generalize s.drop i=D at h3⊢;rw[←e2,List.take_left,List.drop_of_length_le (by rw[List.length_append];omega),List.append_nil]
theorem Ow.ins{α:Type}{enc:α→List Value}{m l c g:Nat}{s v:List α}{sp:List Value}{i:Nat}(hm: ∀x,(enc x).length=m)(h:Ow (some ⟨g,0,none⟩) l c m (s.flatMap enc) sp)(hl:l=s.length)(hi:i≤s.length)(hc:l+v.length≤c):Ow (some ⟨g,0,none⟩) (s.take i++v++s.drop i).length c m ((s.take i++v++s.drop i).flatMap enc) (sp.drop (v.length*m)):=by
 subst hl;have hroom:=h.room hc;have hL:(s.take i++v++s.drop i).length=s.length+v.length:=by simp;omega
 refine⟨ba hm _,?_⟩;rcases h.2 with⟨h0,_⟩|⟨g',h1,h2,h3,h4⟩
 ·cases h0
 ·refine .inr ⟨g',h1,?_,by omega,h4⟩;rw[List.length_append,ba hm]at h2;rw[List.length_append,ba hm,hL,List.length_drop,Nat.add_mul];omega
end Go.Proofs.YtmpeiadlohbikaaGreatDoor
end

section
set_option linter.unusedVariables false
set_option linter.unusedSimpArgs false
namespace Go.Proofs.YtmpeiadlohbikaaGreatDoor
open Go.RowKit
section
variable [bt] {P:Program} {n d:Nat} {Q:EQ} {env:aG} {w:World} {o:Oper} {ops:Array Oper} {l:List Oper} {v:Value} {x y:Operand} {K:aG→World→Prop} {c:Code}
theorem sq{x y:Code}(h: ∀K:aG→World→Prop,(∀e v,Wp P n y Q e v→K e v)→Wp P n x (Th K Q) env w):Wp P n (.seq x y) Q env w:=pE h
theorem rg{id:Nat}{l:List Oper}(h:Ls P n l.toArray Q l env w)(hnd:l.all pU=true:=by rfl):Wp P n (.region id l.toArray false) Q env w:=qK h hnd
theorem Ln(hK: ∀e v,Wp P n c Q e v→K e v)(h:Wp P n c Q env w):Ls P n ops (Th K Q) [] env w:=ch (ck (hK _ _ h))
theorem sk(hK: ∀e v,Wp P n c Q e v→K e v)(h:Wp P n c Q env w):Wp P n .skip (Th K Q) env w:=dt (ck (hK _ _ h))
theorem Ly(h:(o.guard,o.dst,Nat.blt d n)=(none,some d,true))(hy:bY P n env (· =w) o v)(hk:Ls P n ops Q l ((d,v)::env) w):Ls P n ops Q (o::l) env w:=by
 simp only[Prod.mk.injEq]at h;exact DN (fP h.1) h.2.1 h.2.2 hy hk
theorem La(h:o.guard=none)(hk:bH P n env w o (fun env' w'=>Ls P n ops Q l env' w')):Ls P n ops Q (o::l) env w:=DO (fP h) hk
theorem Lm(h:(o.guard,o.dst,Nat.blt d n,o.op,env.ev x)=(none,some d,true,.move x,some v))(hk:Ls P n ops Q l ((d,v)::env) w):Ls P n ops Q (o::l) env w:=by
 simp only[Prod.mk.injEq]at h;exact S3 h.1 h.2.1 h.2.2.1 h.2.2.2.1 h.2.2.2.2 hk
theorem dr(h:(o.guard,o.dst,Nat.blt d n,o.op,env.ev x)=(none,some d,true,.assign x,some v))(hk:Ls P n ops Q l ((d,v)::env) w):Ls P n ops Q (o::l) env w:=by
 simp only[Prod.mk.injEq]at h;exact S4 h.1 h.2.1 h.2.2.1 h.2.2.2.1 h.2.2.2.2 hk
theorem Lx{i:Nat}{vs:Array Value}(h:(o.guard,o.dst,Nat.blt d n,o.op,env.ev x,vs[i]?)=(none,some d,true,.extract x i,some (.tuple vs),some v))(hk:Ls P n ops Q l ((d,v)::env) w):Ls P n ops Q (o::l) env w:=by
 simp only[Prod.mk.injEq]at h;exact S5 h.1 h.2.1 h.2.2.1 h.2.2.2.1 h.2.2.2.2.1 h.2.2.2.2.2 hk
section
variable {b:Operand} {c1 c2:Code} {t:Bool} {p:Prop} [Decidable p]
theorem cB(hb:env.ev b=some (.bool t))(h1:t=true→Wp P n c1 Q env w)(h2: ¬t=true→Wp P n c2 Q env w):Wp P n (.cond b c1 c2) Q env w:=fy hb h1 fun h=>h2 (by simp[h])
theorem cD(hb:env.ev b=some (.bool (decide p)))(h1:p→Wp P n c1 Q env w)(h2: ¬p→Wp P n c2 Q env w):Wp P n (.cond b c1 c2) Q env w:=fy hb (fun h=>h1 (of_decide_eq_true h)) fun h=>h2 (of_decide_eq_false h)
theorem cE{α:Type} [BEq α] [LawfulBEq α]{p q:α}(hb:env.ev b=some (.bool (p==q)))(h1:p=q→Wp P n c1 Q env w)(h2: ¬p=q→Wp P n c2 Q env w):Wp P n (.cond b c1 c2) Q env w:=fy hb (fun h=>h1 (by simpa using h)) fun h=>h2 (by simpa using h)
theorem cN{α:Type} [BEq α] [LawfulBEq α]{p q:α}(hb:env.ev b=some (.bool (p !=q)))(h1: ¬p=q→Wp P n c1 Q env w)(h2:p=q→Wp P n c2 Q env w):Wp P n (.cond b c1 c2) Q env w:=fy hb (fun h=>h1 (by simpa using h)) fun h=>h2 (by simpa using h)
theorem O4(hb:env.ev b=some (.bool (!t)))(h1: ¬t=true→Wp P n c1 Q env w)(h2:t=true→Wp P n c2 Q env w):Wp P n (.cond b c1 c2) Q env w:=fy hb (fun h=>h1 (by simpa using h)) fun h=>h2 (by simpa using h)
variable {s:Nat}
theorem bN{α:Type} [BEq α] [LawfulBEq α]{p q:α}(hb:env.get s=some (.bool (p !=q)))(h1: ¬p=q→Ls P n ops Q l ((s,.bool true)::env) w)(h2:p=q→Ls P n ops Q l ((s,.bool false)::env) w):Ls P n ops Q l env w:=DA s hb (fun h=>h1 (by simpa using h)) fun h=>h2 (by simpa using h)
end
end
section
variable [bt] {P:Program} {n:Nat} {env:aG} {S:World→Prop} {o:Oper} {v:Value} {x y:Operand} {t u:Nat} {k:IntKind} {p q:Int}
theorem yn{b:Bool}(h:(o.op,env.ev x)=(.unOp .not t x,some (.bool b))):bY P n env S o (.bool !b):=by simp only[Prod.mk.injEq]at h;exact Ax h.1 h.2
theorem O5(h:(o.op,env.ev x,env.ev y)=(.binOp .eql t x y u,some (.int k p),some (.int k q))):bY P n env S o (.bool (p==q)):=by simp only[Prod.mk.injEq]at h;exact Km h.1 h.2.1 h.2.2
theorem x7(h:(o.op,env.ev x,env.ev y)=(.binOp .lss t x y u,some (.int k p),some (.int k q))):bY P n env S o (.bool (decide (p<q))):=by simp only[Prod.mk.injEq]at h;exact Ko h.1 h.2.1 h.2.2
theorem QH(h:(o.op,env.ev x,env.ev y)=(.binOp .gtr t x y u,some (.int k p),some (.int k q))):bY P n env S o (.bool (decide (q<p))):=by simp only[Prod.mk.injEq]at h;exact Kp h.1 h.2.1 h.2.2
theorem sg{e:Nat}{b:Option Addr}{l c:Nat}(h:(o.op,env.ev x)=(.call {callee:= .builtin .len,args:= #[x],argTypes:= #[t]},some (.slice b l c)))(ht:P.underlying t=some (.slice e)):bY P n env S o (.int .i64 l):=by simp only[Prod.mk.injEq]at h;exact pK h.1 h.2 ht
end
section
variable [bt] {P:Program} {n d:Nat} {env:aG} {o:Oper} {v u:Value} {x y:Operand} {t:Nat} {X X0:List Nat} {w w0:World} {H:bR} {K:List Kf} {cs ds us:List Value} {g k m ty:Nat} {Kk:aG→World→Prop}
theorem yl(i:Nat)(ht:c6 P t=true)(st:St X w H K)(h:(o.op,env.ev x,H[i]?,cs[k]?)=(.load t x,some (.pointer (some ⟨g,k,none⟩)),some (some g,Cl cs ty),some v)):bY P n env (· =w) o v:=by
 simp only[Prod.mk.injEq]at h;exact r9 h.1 h.2.1 ht (fun _ e=>e▸st.hp) h.2.2.1 h.2.2.2
theorem yw(i:Nat)(ht:bf P t=some m)(st:St X w H K)(h:(o.op,env.ev x,H[i]?,cs.length)=(.load t x,some (.pointer (some ⟨g,0,none⟩)),some (some g,Cl cs ty),m)):bY P n env (· =w) o (.agg cs.toArray):=by
 simp only[Prod.mk.injEq]at h;exact sd h.1 h.2.1 ht (fun _ e=>e▸st.hp) h.2.2.1 h.2.2.2
theorem SZ(hz:zeroCells P t=some cs)(st:St X w H K)(hF:Fr X0 w0 w)(h:(o.op,o.dst,Nat.blt d n)=(.alloc t,some d,true))(hk: ∀g w',St X w' (H++ [(some g,Cl cs t)]) K→Fr X0 w0 w'→w0.heap.size≤g→Kk ((d,.pointer (some ⟨g,0,none⟩))::env) w'):bH P n env w o Kk:=by
 simp only[Prod.mk.injEq]at h;exact ow h.1 h.2.1 h.2.2 hz st.hp fun g w' hp hf hg=>hk g w' (st.push hp hf hg) (hF.step0 hf) (Nat.le_trans hF.size hg)
omit [bt]in
theorem S0{g:Nat}{w':World}(hF:Fr X0 w0 w)(hf:Fr [g] w w')(hg:g∈X0∨w0.heap.size≤g):Fr X0 w0 w':=hF.step hf fun y hy=>by simp only[List.mem_singleton]at hy;subst hy;exact hg
omit [bt]in
theorem Dt(h:us.all Value.oneCell'=true): ∀v∈us,v.oneCell'=true:=fun v hv=>List.all_eq_true.1 h v hv
theorem S1(i:Nat)(ht:(P.info? t).map (·.size)=some m)(st:St X w H K)(hF:Fr X0 w0 w)(hg:g∈X0∨w0.heap.size≤g)(h:(o.op,o.dst,env.ev x,env.ev y,us.length,us.all Value.oneCell',H[i]?,cs.length)=(.store t x y,none,some (.pointer (some ⟨g,0,none⟩)),some (.agg us.toArray),m,true,some (some g,Cl cs ty),us.length))(hk: ∀w',St X w' (H.set i (some g,Cl us ty)) K→Fr X0 w0 w'→Kk env w'):bH P n env w o Kk:=by
 simp only[Prod.mk.injEq]at h;obtain⟨h1,h2,h3,h4,h5,h6,h7,h8⟩:=h;exact pN (i:=i) h1 h2 h3 h4 ht h5 (Dt h6) st.hp h7 h8 fun w' hp hf _=>hk w' (st.set h7 hp hf) (S0 hF hf hg)
theorem QI{f:FuncId}{xs:List Operand}{ts:Array TypeId}{vs:List Value}(st:St X w H K)(hF:Fr X0 w0 w)(h:(o.op,o.dst,Nat.blt d n,env.evs xs)=(.call {callee:= .value (.func f),args:=xs.toArray,argTypes:=ts},some d,true,some vs))(hc:Fn P f vs w (fun v' w'=>v'=v∧Fr [] w w'))(hk: ∀w',St X w' H K→Fr X0 w0 w'→Kk ((d,v)::env) w'):bH P n env w o Kk:=by
 simp only[Prod.mk.injEq]at h;exact ve h.1 h.2.1 h.2.2.1 h.2.2.2 hc fun v' w' ⟨hv,hf⟩=>by subst hv;exact hk w' (st.keep0 hf) (hF.step0 hf)
theorem O6{f:Operand}{fv:Value}{xs:List Operand}{ts:Array TypeId}{vs:List Value}(st:St X w H K)(hF:Fr X0 w0 w)(h:(o.op,o.dst,Nat.blt d n,env.ev f,env.evs xs)=(.call {callee:= .value f,args:=xs.toArray,argTypes:=ts},some d,true,some fv,some vs))(hc:po P fv vs w (fun v' w'=>v'=v∧Fr [] w w'))(hk: ∀w',St X w' H K→Fr X0 w0 w'→Kk ((d,v)::env) w'):bH P n env w o Kk:=by
 simp only[Prod.mk.injEq]at h;exact mE h.1 h.2.1 h.2.2.1 h.2.2.2.1 h.2.2.2.2 hc fun v' w' ⟨hv,hf⟩=>by subst hv;exact hk w' (st.keep0 hf) (hF.step0 hf)
omit [bt]in
theorem St.q{A:Option Addr}{l c m:Nat}{cs:List Value}(h:St X w H K)(i:Nat)(hi:K[i]? =some (kS A l c m cs)):gy (aR H++X) w A l c m cs:=h.k hi
end
theorem O7{X0:List Nat}{w0:World}{g:Nat}(h:w0.heap.size≤g): ∀g',ah (some (⟨g,0,none⟩:Addr))=some g'→g'∈X0∨w0.heap.size≤g':=fun g' hg=>by simp[ah]at hg;subst hg;exact .inr h
theorem O8{X0:List Nat}{w0:World}: ∀g',ah none=some g'→g'∈X0∨w0.heap.size≤g':=fun g' hg=>by cases hg
section
variable [bt] {α:Type} {enc:α→List Value} {P:Program} {n d:Nat} {env:aG} {o:Oper} {x y:Operand} {t e m by' c sc:Nat} {X X0:List Nat} {w w0:World} {H:bR} {K:List Kf} {A B:Option Addr} {sp z:List Value} {xs ys:List α} {Kk:aG→World→Prop}
theorem MO(xs ys:List α)(i:Nat)(ht:ar P t=some (e,m))(hz:zeroCells P e=some z)(hby:(P.info? e).map (·.bytes)=some by')(hm: ∀x,(enc x).length=m)(h1: ∀x,∀v∈enc x,v.oneCell'=true)(how:Ow A xs.length c m (xs.flatMap enc) sp)(hn: ∀g,ah A=some g→g∈X0∨w0.heap.size≤g)(st:St X w H K)(hF:Fr X0 w0 w)
  (hsrc: ∀ad,B=some ad→ ∀j u,(ys.flatMap enc)[j]? =some u→w.cell? (ad.add j)=some u) (hB:B=none→ys.length=0)
  (h:(o.op,o.dst,Nat.blt d n,env.ev x,env.ev y,z.length,Nat.blt 0 m,H[i]?)=(.call {callee:= .builtin .append,args:= #[x,y],argTypes:= #[t,t]},some d,true,some (.slice A xs.length c),some (.slice B ys.length sc),m,true,some (ah A,Cl (xs.flatMap enc++sp) e))) (h63:xs.length+ys.length≤9223372036854775807) (hbytes:(xs.length+ys.length)*by'≤140737488355328)
  (hk: ∀A' c' sp' w',Ow A' (xs++ys).length c' m ((xs++ys).flatMap enc) sp'→(∀g,ah A'=some g→g∈X0∨w0.heap.size≤g)→St X w' (H.set i (ah A',Cl ((xs++ys).flatMap enc++sp') e)) K→Fr X0 w0 w'→Kk ((d,(.slice A' (xs++ys).length c'))::env) w'):bH P n env w o Kk:=by
 simp only[Prod.mk.injEq]at h;obtain⟨h2,h3,h4,h5,h6,h7,h8,h9⟩:=h;exact H7 (i:=i) h2 rfl h3 h4 h5 h6 ht hz h7 hby (by simpa using h8) hm how st.hp h9 hsrc hB h1 (by unfold maxLen;omega) hbytes fun A' c' sp' w' how' hp hf hnw=>hk A' c' sp' w' how' (fun g hg=>(hnw g hg).elim (hn g) (fun h=> .inr (Nat.le_trans hF.size h))) (st.setAny h9 hp hf hnw) (hF.step hf fun y hy=>hn y (by simpa using hy))
theorem S2(ht:ar P t=some (e,m))(hz:zeroCells P e=some z)(st:St X w H K)(hF:Fr X0 w0 w)(h:(o.op,o.dst,Nat.blt d n)=(.buildSlice t 0 #[],some d,true))
  (hk: ∀g w',Ow (some ⟨g,0,none⟩) ([]:List α).length 0 m (([]:List α).flatMap enc) []→(∀g',ah (some ⟨g,0,none⟩)=some g'→g'∈X0∨w0.heap.size≤g')→St X w' (H++ [(ah (some ⟨g,0,none⟩),Cl (([]:List α).flatMap enc++ []) e)]) K→Fr X0 w0 w'→Kk ((d,.slice (some ⟨g,0,none⟩) ([]:List α).length 0)::env) w'):bH P n env w o Kk:=by
 simp only[Prod.mk.injEq]at h;refine HU h.1 h.2.1 h.2.2 ht hz st.hp fun g w' hp hf hg=>?_;exact hk g w' ⟨by simp,.inr ⟨g,rfl,by simp,Nat.le_refl _,by unfold maxLen;decide⟩⟩ (O7 (Nat.le_trans hF.size hg)) (st.push hp hf hg) (hF.step0 hf)
omit [bt]in
theorem St.rowN(enc:α→List Value)(st:St X w H K)(hF:Fr X0 w0 w)(m ty:Nat):St X w (H++ [(ah none,Cl (([]:List α).flatMap enc++ []) ty)]) K∧Ow none ([]:List α).length 0 m (([]:List α).flatMap enc) []∧(∀g',ah none=some g'→g'∈X0∨w0.heap.size≤g'):=⟨st.addN _,Ow.nil m,O8⟩
end
section
variable [bt] {P:Program} {n:Nat} {env:aG} {w:World} {c y:Code} {Q Q1:EQ} {K:aG→World→Prop}
theorem lp(J:Option Nat→aG→World→Prop)(m0:Nat)(e0:aG)(hle:aG.Le e0 env)(h0:J (some m0) e0 w)(hK: ∀e v,Wp P n y Q e v→K e v)(hM: ∀e w,J none e w→Wp P n y Q e w)
  (h:(∀e' e w,aG.Le e e'→J none e w→K e' w)→ ∀m e w,J (some m) e w→Wp P n c (Th (fun env' w'=> ∃m' e',m'<m∧aG.Le e' env'∧J (some m') e' w') Q1) e w):Wp P n (.loop c) Q1 env w:=
 DG hK (J none) hM fun ho=>tN (fun m=>J (some m)) m0 e0 hle h0 (h ho)
def jq(q:Option Nat)(f:Nat→Prop)(p:Prop):Prop:=match q with|some m=>f m|none=>p
end
section
variable [bt] {P:Program} {n d i:Nat} {env:aG} {S:World→Prop} {Q:EQ} {w:World} {o:Oper} {ops:Array Oper} {pl:List (Bool×Nat)} {v:Value} {x:Operand}
theorem Py(h:(ops[i]?,o.guard,o.dst,Nat.blt d n)=(some o,none,some d,true))(hy:bY P n env S o v)(hk:Pl P n ops S Q pl ((d,v)::env) w):Pl P n ops S Q ((true,i)::pl) env w:=by
 simp only[Prod.mk.injEq]at h;exact r5 h.1 (fP h.2.1) h.2.2.1 h.2.2.2 hy hk
theorem Pm(h:(ops[i]?,o.guard,o.dst,Nat.blt d n,o.op,env.ev x)=(some o,none,some d,true,.move x,some v))(hk:Pl P n ops S Q pl ((d,v)::env) w):Pl P n ops S Q ((true,i)::pl) env w:=by
 simp only[Prod.mk.injEq]at h;exact S6 h.1 h.2.1 h.2.2.1 h.2.2.2.1 h.2.2.2.2.1 h.2.2.2.2.2 hk
end
theorem Du{X:List Nat}{w:World}(hX:Lo X w):St X w [] []:=St.nil hX
theorem HL{X:List Nat}{w:World}{A0:Option Addr}{l0 c0 m0:Nat}{s0:List Value}(hX:Lo X w)(h0:gy X w A0 l0 c0 m0 s0):St X w [] [kS A0 l0 c0 m0 s0]:=(Du hX).addK (kS A0 l0 c0 m0 s0) h0
theorem O9{X:List Nat}{w:World}{A0:Option Addr}{l0 c0 m0:Nat}{s0:List Value}{A1:Option Addr}{l1 c1 m1:Nat}{s1:List Value}(hX:Lo X w)(h0:gy X w A0 l0 c0 m0 s0)(h1:gy X w A1 l1 c1 m1 s1):St X w [] [kS A0 l0 c0 m0 s0,kS A1 l1 c1 m1 s1]:=(HL hX h0).addK (kS A1 l1 c1 m1 s1) h1
theorem Pa{X:List Nat}{w:World}{A0:Option Addr}{l0 c0 m0:Nat}{s0:List Value}{A1:Option Addr}{l1 c1 m1:Nat}{s1:List Value}{A2:Option Addr}{l2 c2 m2:Nat}{s2:List Value}(hX:Lo X w)(h0:gy X w A0 l0 c0 m0 s0)(h1:gy X w A1 l1 c1 m1 s1)(h2:gy X w A2 l2 c2 m2 s2):St X w [] [kS A0 l0 c0 m0 s0,kS A1 l1 c1 m1 s1,kS A2 l2 c2 m2 s2]:=(O9 hX h0 h1).addK (kS A2 l2 c2 m2 s2) h2
end Go.Proofs.YtmpeiadlohbikaaGreatDoor
end
