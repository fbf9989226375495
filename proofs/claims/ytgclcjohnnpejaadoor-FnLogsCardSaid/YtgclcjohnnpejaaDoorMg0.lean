-- texts of this session, and of the kit's print, cut to what the claim leans on
import Derived.Shelf.Strings.Builder1
import Derived.Shelf.Strings.Builder2
import Derived.Shelf.Strings.OnBuilder
import Derived.Shelf.Small.Strs
import Derived.Shelf.Strconv.Itoa0
import Derived.Shelf.Strconv.Itoa1
import Derived.Shelf.LaysM
import Derived.Shelf.Strconv.Itoa2
import Derived.Shelf.Strconv.Itoa3
import Derived.Shelf.Strings.Search1
import Derived.Shelf.Strings.Search2
import Derived.Shelf.Strings.Search3
import Derived.Shelf.Strings.Cut
import Derived.Shelf.Strings.Count
import Derived.Shelf.Strings.Shaped
import Derived.Shelf.Strings.Split
import Derived.Shelf.Strings.SplitShaped
import Derived.Shelf.Unicode.DecodeSlow
import Derived.Test.YtgclcjohnnpejaaDoorProg
section
namespace Go.Proofs
open Go.Shelf
def Tryd.laysM171_ren : Go.Shelf.Ren := ⟨fun | 171 => 78 | 243 => 105 | 246 => 118 | 283 => 134 | 284 => 135 | 285 => 136 | 286 => 137 | 129 => 144 | 317 => 143 | 318 => 145 | 319 => 146 | 320 => 147 | 337 => 150 | 338 => 151 | n => n, fun | 3 => 3 | 9 => 9 | 2 => 2 | 4 => 4 | 171 => 139 | 0 => 0 | 53 => 81 | 37 => 22 | 5 => 5 | 173 => 142 | 212 => 153 | 51 => 149 | 20 => 20 | 213 => 154 | 46 => 125 | 232 => 165 | 233 => 166 | n => n, fun | 17 => 3 | 18 => 6 | 19 => 7 | n => n⟩
theorem Tryd.laysM171 : Go.Proofs.LaysM.n171 Tryd.prog Tryd.laysM171_ren := {
 mixed := by kernel_rfl
 f129 := Tryd.func144.trans (congrArg some (by kernel_rfl))
 f171 := Tryd.func78.trans (congrArg some (by kernel_rfl))
 f243 := Tryd.func105.trans (congrArg some (by kernel_rfl))
 f246 := Tryd.func118.trans (congrArg some (by kernel_rfl))
 f283 := Tryd.func134.trans (congrArg some (by kernel_rfl))
 f284 := Tryd.func135.trans (congrArg some (by kernel_rfl))
 f285 := Tryd.func136.trans (congrArg some (by kernel_rfl))
 f286 := Tryd.func137.trans (congrArg some (by kernel_rfl))
 f317 := Tryd.func143.trans (congrArg some (by kernel_rfl))
 f318 := Tryd.func145.trans (congrArg some (by kernel_rfl))
 f319 := Tryd.func146.trans (congrArg some (by kernel_rfl))
 f320 := Tryd.func147.trans (congrArg some (by kernel_rfl))
 f337 := Tryd.func150.trans (congrArg some (by kernel_rfl))
 f338 := Tryd.func151.trans (congrArg some (by kernel_rfl))
 t0 := Tryd.underlying0
 a0 := Tryd.isAgg0
 z0 := Tryd.sizeOf0
 v0 := Tryd.zeroValue0
 t2 := Tryd.underlying2
 a2 := Tryd.isAgg2
 z2 := Tryd.sizeOf2
 v2 := Tryd.zeroValue2
 t3 := Tryd.underlying3
 a3 := Tryd.isAgg3
 z3 := Tryd.sizeOf3
 v3 := Tryd.zeroValue3
 t4 := Tryd.underlying4
 a4 := Tryd.isAgg4
 z4 := Tryd.sizeOf4
 v4 := Tryd.zeroValue4
 t5 := Tryd.underlying5
 a5 := Tryd.isAgg5
 z5 := Tryd.sizeOf5
 v5 := Tryd.zeroValue5
 t9 := Tryd.underlying9
 a9 := Tryd.isAgg9
 z9 := Tryd.sizeOf9
 v9 := Tryd.zeroValue9
 t20 := Tryd.underlying20
 a20 := Tryd.isAgg20
 z20 := Tryd.sizeOf20
 v20 := Tryd.zeroValue20
 t37 := Tryd.underlying22
 a37 := Tryd.isAgg22
 z37 := Tryd.sizeOf22
 v37 := Tryd.zeroValue22
 t46 := Tryd.underlying125
 a46 := Tryd.isAgg125
 z46 := Tryd.sizeOf125
 v46 := Tryd.zeroValue125
 t51 := Tryd.underlying149
 a51 := Tryd.isAgg149
 z51 := Tryd.sizeOf149
 v51 := Tryd.zeroValue149
 t53 := Tryd.underlying81
 a53 := Tryd.isAgg81
 z53 := Tryd.sizeOf81
 v53 := Tryd.zeroValue81
 t171 := Tryd.underlying139
 a171 := Tryd.isAgg139
 z171 := Tryd.sizeOf139
 v171 := Tryd.zeroValue139
 t173 := Tryd.underlying142
 a173 := Tryd.isAgg142
 z173 := Tryd.sizeOf142
 v173 := Tryd.zeroValue142
 t212 := Tryd.underlying153
 a212 := Tryd.isAgg153
 z212 := Tryd.sizeOf153
 v212 := Tryd.zeroValue153
 t213 := Tryd.underlying154
 a213 := Tryd.isAgg154
 z213 := Tryd.sizeOf154
 t232 := Tryd.underlying165
 a232 := Tryd.isAgg165
 z232 := Tryd.sizeOf165
 v232 := Tryd.zeroValue165
 t233 := Tryd.underlying166
 a233 := Tryd.isAgg166
 z233 := Tryd.sizeOf166
 v233 := Tryd.zeroValue166
 g17 := by kernel_rfl
 g18 := by kernel_rfl
 g19 := by kernel_rfl
 i0 := by kernel_rfl
 i2 := by kernel_rfl
 i3 := by kernel_rfl
 i4 := by kernel_rfl
 i5 := by kernel_rfl
 i9 := by kernel_rfl
 i20 := by kernel_rfl
 i37 := by kernel_rfl
 i46 := by kernel_rfl
 i51 := by kernel_rfl
 i53 := by kernel_rfl
 i171 := by kernel_rfl
 i173 := by kernel_rfl
 i212 := by kernel_rfl
 i232 := by kernel_rfl
 i233 := by kernel_rfl
 m17 := by kernel_rfl
 m18 := by kernel_rfl
 m19 := by kernel_rfl }
open Go.RowKit Go.Sort Go.Lib in
theorem Tryd.strconv_Itoa (n : Int) (h0 : -9223372036854775808 ≤ n) (h1 : n ≤ 9223372036854775807) (w : World) (htab : Lib.TabIs Tryd.prog w "internal/strconv.uint64pow10" .u64 Lib.pow10Tab) :
  Calls Tryd.prog 78 #[.int .i64 n] w fun e w' => e = .returned (.string ⟨(Lib.itoa n).toArray⟩) ∧ ∃ k os, w' = grow (w.drewN k) os := Any.strconv_Itoa Tryd.laysM171 n h0 h1 w htab
def Tryd.lays144_ren : Go.Shelf.Ren := ⟨fun | 144 => 71 | 143 => 100 | 219 => 115 | 217 => 112 | 225 => 129 | 224 => 130 | 267 => 131 | 266 => 125 | 314 => 142 | n => n, fun | 9 => 9 | 4 => 4 | 3 => 3 | 5 => 5 | 46 => 125 | 146 => 150 | 51 => 149 | n => n, fun | 1 => 0 | n => n⟩
theorem Tryd.lays144 : Go.Proofs.Lays.n144 Tryd.prog Tryd.lays144_ren := {
 mixed := by kernel_rfl
 f143 := Tryd.func100.trans (congrArg some (by kernel_rfl))
 f144 := Tryd.func71.trans (congrArg some (by kernel_rfl))
 f217 := Tryd.func112.trans (congrArg some (by kernel_rfl))
 f219 := Tryd.func115.trans (congrArg some (by kernel_rfl))
 f224 := Tryd.func130.trans (congrArg some (by kernel_rfl))
 f225 := Tryd.func129.trans (congrArg some (by kernel_rfl))
 f266 := Tryd.func125.trans (congrArg some (by kernel_rfl))
 f267 := Tryd.func131.trans (congrArg some (by kernel_rfl))
 f314 := Tryd.func142.trans (congrArg some (by kernel_rfl))
 t3 := Tryd.underlying3
 a3 := Tryd.isAgg3
 z3 := Tryd.sizeOf3
 v3 := Tryd.zeroValue3
 t4 := Tryd.underlying4
 a4 := Tryd.isAgg4
 z4 := Tryd.sizeOf4
 v4 := Tryd.zeroValue4
 t5 := Tryd.underlying5
 a5 := Tryd.isAgg5
 z5 := Tryd.sizeOf5
 v5 := Tryd.zeroValue5
 t9 := Tryd.underlying9
 a9 := Tryd.isAgg9
 z9 := Tryd.sizeOf9
 v9 := Tryd.zeroValue9
 t46 := Tryd.underlying125
 a46 := Tryd.isAgg125
 z46 := Tryd.sizeOf125
 v46 := Tryd.zeroValue125
 t51 := Tryd.underlying149
 a51 := Tryd.isAgg149
 z51 := Tryd.sizeOf149
 v51 := Tryd.zeroValue149
 t146 := Tryd.underlying150
 a146 := Tryd.isAgg150
 z146 := Tryd.sizeOf150
 v146 := Tryd.zeroValue150
 g1 := by kernel_rfl }
open Go.RowKit Go.Lib in
theorem Tryd.strings_Contains_one (s : ByteArray) (c : UInt8) (w : World) :
  Calls Tryd.prog 71 #[.string s, .string ⟨#[c]⟩] w fun e w' => e = .returned (.bool (decide (0 ≤ Lib.indexByte s.data.toList c))) ∧ w' = w := Any.strings_Contains_one Tryd.lays144 s c w
def Tryd.lays145_ren : Go.Shelf.Ren := ⟨fun | 145 => 108 | 220 => 119 | 219 => 115 | 217 => 112 | 225 => 129 | 224 => 130 | 267 => 131 | 266 => 125 | 314 => 142 | n => n, fun | 9 => 9 | 4 => 4 | 59 => 120 | 3 => 3 | 5 => 5 | 46 => 125 | 146 => 150 | 51 => 149 | n => n, fun | 1 => 0 | n => n⟩
theorem Tryd.lays145 : Go.Proofs.Lays.n145 Tryd.prog Tryd.lays145_ren := {
 mixed := by kernel_rfl
 f145 := Tryd.func108.trans (congrArg some (by kernel_rfl))
 f217 := Tryd.func112.trans (congrArg some (by kernel_rfl))
 f219 := Tryd.func115.trans (congrArg some (by kernel_rfl))
 f220 := Tryd.func119.trans (congrArg some (by kernel_rfl))
 f224 := Tryd.func130.trans (congrArg some (by kernel_rfl))
 f225 := Tryd.func129.trans (congrArg some (by kernel_rfl))
 f266 := Tryd.func125.trans (congrArg some (by kernel_rfl))
 f267 := Tryd.func131.trans (congrArg some (by kernel_rfl))
 f314 := Tryd.func142.trans (congrArg some (by kernel_rfl))
 t3 := Tryd.underlying3
 a3 := Tryd.isAgg3
 z3 := Tryd.sizeOf3
 v3 := Tryd.zeroValue3
 t4 := Tryd.underlying4
 a4 := Tryd.isAgg4
 z4 := Tryd.sizeOf4
 v4 := Tryd.zeroValue4
 t5 := Tryd.underlying5
 a5 := Tryd.isAgg5
 z5 := Tryd.sizeOf5
 v5 := Tryd.zeroValue5
 t9 := Tryd.underlying9
 a9 := Tryd.isAgg9
 z9 := Tryd.sizeOf9
 v9 := Tryd.zeroValue9
 t46 := Tryd.underlying125
 a46 := Tryd.isAgg125
 z46 := Tryd.sizeOf125
 v46 := Tryd.zeroValue125
 t51 := Tryd.underlying149
 a51 := Tryd.isAgg149
 z51 := Tryd.sizeOf149
 v51 := Tryd.zeroValue149
 t59 := Tryd.underlying120
 a59 := Tryd.isAgg120
 z59 := Tryd.sizeOf120
 v59 := Tryd.zeroValue120
 t146 := Tryd.underlying150
 a146 := Tryd.isAgg150
 z146 := Tryd.sizeOf150
 v146 := Tryd.zeroValue150
 g1 := by kernel_rfl }
open Go.RowKit Go.Lib in
theorem Tryd.strings_Cut (s sep : ByteArray) (m : Int) (w : World) (hs : s.size < 4294967281) (hm : w.cell? ⟨0, 0, none⟩ = some (.int .i64 m)) :
  Calls Tryd.prog 108 #[.string s, .string sep] w fun e w' => e = .returned (.tuple #[.string ⟨(Lib.cut s.data.toList sep.data.toList).1.toArray⟩, .string ⟨(Lib.cut s.data.toList sep.data.toList).2.1.toArray⟩, .bool (Lib.cut s.data.toList sep.data.toList).2.2]) ∧ ∃ n, w' = w.drewN n := Any.strings_Cut Tryd.lays145 s sep m w hs hm
def Tryd.laysM145_ren : Go.Shelf.Ren := ⟨fun | 145 => 108 | 220 => 119 | 219 => 115 | 217 => 112 | 225 => 129 | 224 => 130 | 267 => 131 | 266 => 125 | 314 => 142 | n => n, fun | 9 => 9 | 4 => 4 | 59 => 120 | 3 => 3 | 5 => 5 | 46 => 125 | 146 => 150 | 51 => 149 | n => n, fun | 1 => 0 | n => n⟩
theorem Tryd.laysM145 : Go.Proofs.LaysM.n145 Tryd.prog Tryd.laysM145_ren := {
 mixed := by kernel_rfl
 f145 := Tryd.func108.trans (congrArg some (by kernel_rfl))
 f217 := Tryd.func112.trans (congrArg some (by kernel_rfl))
 f219 := Tryd.func115.trans (congrArg some (by kernel_rfl))
 f220 := Tryd.func119.trans (congrArg some (by kernel_rfl))
 f224 := Tryd.func130.trans (congrArg some (by kernel_rfl))
 f225 := Tryd.func129.trans (congrArg some (by kernel_rfl))
 f266 := Tryd.func125.trans (congrArg some (by kernel_rfl))
 f267 := Tryd.func131.trans (congrArg some (by kernel_rfl))
 f314 := Tryd.func142.trans (congrArg some (by kernel_rfl))
 t3 := Tryd.underlying3
 a3 := Tryd.isAgg3
 z3 := Tryd.sizeOf3
 v3 := Tryd.zeroValue3
 t4 := Tryd.underlying4
 a4 := Tryd.isAgg4
 z4 := Tryd.sizeOf4
 v4 := Tryd.zeroValue4
 t5 := Tryd.underlying5
 a5 := Tryd.isAgg5
 z5 := Tryd.sizeOf5
 v5 := Tryd.zeroValue5
 t9 := Tryd.underlying9
 a9 := Tryd.isAgg9
 z9 := Tryd.sizeOf9
 v9 := Tryd.zeroValue9
 t46 := Tryd.underlying125
 a46 := Tryd.isAgg125
 z46 := Tryd.sizeOf125
 v46 := Tryd.zeroValue125
 t51 := Tryd.underlying149
 a51 := Tryd.isAgg149
 z51 := Tryd.sizeOf149
 v51 := Tryd.zeroValue149
 t59 := Tryd.underlying120
 a59 := Tryd.isAgg120
 z59 := Tryd.sizeOf120
 v59 := Tryd.zeroValue120
 t146 := Tryd.underlying150
 a146 := Tryd.isAgg150
 z146 := Tryd.sizeOf150
 v146 := Tryd.zeroValue150
 g1 := by kernel_rfl
 i3 := by kernel_rfl
 i4 := by kernel_rfl
 i5 := by kernel_rfl
 i9 := by kernel_rfl
 i46 := by kernel_rfl
 i51 := by kernel_rfl
 i59 := by kernel_rfl
 i146 := by kernel_rfl
 m1 := by kernel_rfl
 s1_3 := fun w h => Go.Proofs.cell_of_shapedOpen_int (zero := #[.int .i64 0]) (t := 3) h (of_decide_eq_true (by kernel_rfl)) (by kernel_rfl) rfl (by kernel_rfl) (by kernel_rfl) Tryd.underlying3 }
end Go.Proofs
end
