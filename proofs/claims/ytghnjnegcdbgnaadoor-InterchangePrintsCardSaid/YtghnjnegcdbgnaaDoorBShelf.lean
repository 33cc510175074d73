/- The shelf's contracts of Go's library at this seat's translation, laid by the kit's own tools in plain words; those that our proofs use. -/
import Derived.Test.YtghnjnegcdbgnaaDoorProg
import Derived.Shelf.Strings.Builder1
import Derived.Shelf.Strings.Trim
import Derived.Shelf.Small.Utf8
import Derived.Shelf.Small.Strs
import Derived.Shelf.Strings.BuilderF
import Derived.Shelf.Strings.BuilderK
import Derived.Shelf.Utf8.RuneCount
import Derived.Shelf.Strconv.Atoi
import Derived.Shelf.Strconv.Itoa0
import Derived.Shelf.Strconv.Itoa1
import Derived.Shelf.LaysM
import Derived.Shelf.Strconv.Itoa2
import Derived.Shelf.Strconv.Itoa3
import Derived.Shelf.Strconv.AtoiErrFast
import Derived.Shelf.Strconv.ParseIntEmpty
import Derived.Shelf.Strconv.AtoiFail
import Derived.Shelf.Strconv.Clone
import Derived.Shelf.Strconv.SyntaxError
import Derived.Shelf.LaysC
import Derived.Shelf.Strconv.ToError
import Derived.Shelf.Strconv.Lower
import Derived.Shelf.Strconv.ParseUint10
import Derived.Shelf.Strconv.ParseUint10Empty
import Derived.Shelf.Strconv.ParseUint10Any
import Derived.Shelf.Strconv.ParseInt10
import Derived.Shelf.Strconv.AtoiLong
import Derived.Shelf.Strconv.AtoiInnerAll
import Derived.Shelf.Strconv.RangeError
import Derived.Shelf.Strconv.ToErrorRange
import Derived.Shelf.Strconv.AtoiAll
import Derived.Shelf.Strconv.ErrVarAll
import Derived.Shelf.Strconv.ParseUintEmpty
import Derived.Shelf.Strconv.ParseUint10b64
import Derived.Shelf.Strconv.ParseUint10b32
import Derived.Shelf.Strconv.ParseUint10b16
import Derived.Shelf.Strconv.ParseUint10b8
import Derived.Shelf.Strings.Search1
import Derived.Shelf.Strings.Search2
import Derived.Shelf.Strings.Search3
import Derived.Shelf.Strings.Cut
import Derived.Shelf.Strings.Count
import Derived.Shelf.Strings.Shaped
import Derived.Shelf.Strings.Prefix
import Derived.Shelf.Strings.Split
import Derived.Shelf.Strings.SplitShaped
import Derived.Shelf.Unicode.Decode
import Derived.Shelf.Strings.Runes
import Derived.Shelf.Strings.RuneCount
import Derived.Shelf.Strings.AsciiSet
import Derived.Shelf.Strings.Explode
import Derived.Shelf.Unicode.DecodeSlow
import Derived.Shelf.Unicode.DecodeAny
import Derived.Shelf.Unicode.DecodeLast
import Derived.Shelf.Strings.BuilderCap
import Derived.Shelf.Strings.SlTrimAscii
namespace Go.Proofs
open Go.Shelf Go.RowKit
def Tryd.lays169_ren : Go.Shelf.Ren := ⟨fun | 169 => 31 | n => n, fun | 70 => 63 | 9 => 9 | 0 => 0 | 72 => 66 | 37 => 64 | 127 => 76 | 3 => 3 | 5 => 5 | n => n, fun | n => n⟩
theorem Tryd.lays169 : Go.Proofs.Lays.n169 Tryd.prog Tryd.lays169_ren := {
 mixed := by kernel_rfl
 f169 := Tryd.func31.trans (congrArg some (by kernel_rfl))
 t0 := Tryd.underlying0
 a0 := Tryd.isAgg0
 z0 := Tryd.sizeOf0
 v0 := Tryd.zeroValue0
 t3 := Tryd.underlying3
 a3 := Tryd.isAgg3
 z3 := Tryd.sizeOf3
 v3 := Tryd.zeroValue3
 t9 := Tryd.underlying9
 a9 := Tryd.isAgg9
 z9 := Tryd.sizeOf9
 v9 := Tryd.zeroValue9
 t37 := Tryd.underlying64
 a37 := Tryd.isAgg64
 z37 := Tryd.sizeOf64
 v37 := Tryd.zeroValue64
 t70 := Tryd.underlying63
 a70 := Tryd.isAgg63
 z70 := Tryd.sizeOf63
 v70 := Tryd.zeroValue63
 t72 := Tryd.underlying66
 a72 := Tryd.isAgg66
 z72 := Tryd.sizeOf66
 v72 := Tryd.zeroValue66
 t127 := Tryd.underlying76
 a127 := Tryd.isAgg76
 z127 := Tryd.sizeOf76
 v127 := Tryd.zeroValue76 }
theorem Tryd.Builder_Extra_169 : Builder.Extra Tryd.prog Tryd.lays169_ren := {
 sizeBuilder := by kernel_rfl
 liesBuilder := by kernel_rfl
 t5 := Tryd.underlying5
 a5 := Tryd.isAgg5
 z5 := Tryd.sizeOf5
 v5 := Tryd.zeroValue5
 infoByte := by kernel_rfl
 cellsByte := by kernel_rfl
 sizeByte := by kernel_rfl
 neB5 := by decide }
open Go.RowKit in
theorem Tryd.Builder_String_any (B b : Nat) (l : List UInt8) (w : World) (h : Lib.IsBuilder 66 5 B b (Lib.byteCells l) w) (hBw : B ≤ w.heap.size) :
 Calls Tryd.prog 31 #[.pointer (some ⟨b, 0, none⟩)] w fun e w' => e = .returned (.string ⟨l.toArray⟩) ∧ Below B w w' := Any.Builder_String_any Tryd.lays169 Tryd.Builder_Extra_169 B b l w h hBw
def Tryd.lays160_ren : Go.Shelf.Ren := ⟨fun | 160 => 53 | 232 => 64 | 231 => 63 | 227 => 65 | 234 => 67 | 233 => 66 | 236 => 69 | 235 => 68 | 228 => 78 | 271 => 80 | 151 => 79 | 197 => 50 | 120 => 89 | 152 => 88 | 260 => 61 | 137 => 93 | 119 => 94 | 224 => 47 | 225 => 46 | 217 => 45 | 266 => 59 | n => n, fun | 9 => 9 | 4 => 4 | 3 => 3 | 5 => 5 | 117 => 102 | 116 => 101 | 0 => 0 | 124 => 105 | 21 => 21 | 105 => 87 | 46 => 86 | 119 => 111 | 139 => 114 | 138 => 113 | n => n, fun | 3 => 2 | 4 => 3 | n => n⟩
theorem Tryd.lays160 : Go.Proofs.Lays.n160 Tryd.prog Tryd.lays160_ren := {
 mixed := by kernel_rfl
 f119 := Tryd.func94.trans (congrArg some (by kernel_rfl))
 f120 := Tryd.func89.trans (congrArg some (by kernel_rfl))
 f137 := Tryd.func93.trans (congrArg some (by kernel_rfl))
 f151 := Tryd.func79.trans (congrArg some (by kernel_rfl))
 f152 := Tryd.func88.trans (congrArg some (by kernel_rfl))
 f160 := Tryd.func53.trans (congrArg some (by kernel_rfl))
 f197 := Tryd.func50.trans (congrArg some (by kernel_rfl))
 f217 := Tryd.func45.trans (congrArg some (by kernel_rfl))
 f224 := Tryd.func47.trans (congrArg some (by kernel_rfl))
 f225 := Tryd.func46.trans (congrArg some (by kernel_rfl))
 f227 := Tryd.func65.trans (congrArg some (by kernel_rfl))
 f228 := Tryd.func78.trans (congrArg some (by kernel_rfl))
 f231 := Tryd.func63.trans (congrArg some (by kernel_rfl))
 f232 := Tryd.func64.trans (congrArg some (by kernel_rfl))
 f233 := Tryd.func66.trans (congrArg some (by kernel_rfl))
 f234 := Tryd.func67.trans (congrArg some (by kernel_rfl))
 f235 := Tryd.func68.trans (congrArg some (by kernel_rfl))
 f236 := Tryd.func69.trans (congrArg some (by kernel_rfl))
 f260 := Tryd.func61.trans (congrArg some (by kernel_rfl))
 f266 := Tryd.func59.trans (congrArg some (by kernel_rfl))
 f271 := Tryd.func80.trans (congrArg some (by kernel_rfl))
 t0 := Tryd.underlying0
 a0 := Tryd.isAgg0
 z0 := Tryd.sizeOf0
 v0 := Tryd.zeroValue0
 t3 := Tryd.underlying3
 a3 := Tryd.isAgg3
 z3 := Tryd.sizeOf3
 v3 := Tryd.zeroValue3
 t4 := Tryd.underlying4
 a4 := Tryd.isAgg4
 z4 := Tryd.sizeOf4
 v4 := Tryd.zeroValue4
 t5 := Tryd.underlying5
 a5 := Tryd.isAgg5
 z5 := Tryd.sizeOf5
 v5 := Tryd.zeroValue5
 t9 := Tryd.underlying9
 a9 := Tryd.isAgg9
 z9 := Tryd.sizeOf9
 v9 := Tryd.zeroValue9
 t21 := Tryd.underlying21
 a21 := Tryd.isAgg21
 z21 := Tryd.sizeOf21
 v21 := Tryd.zeroValue21
 t46 := Tryd.underlying86
 a46 := Tryd.isAgg86
 z46 := Tryd.sizeOf86
 v46 := Tryd.zeroValue86
 t105 := Tryd.underlying87
 a105 := Tryd.isAgg87
 z105 := Tryd.sizeOf87
 v105 := Tryd.zeroValue87
 t116 := Tryd.underlying101
 a116 := Tryd.isAgg101
 z116 := Tryd.sizeOf101
 t117 := Tryd.underlying102
 a117 := Tryd.isAgg102
 z117 := Tryd.sizeOf102
 v117 := Tryd.zeroValue102
 t119 := Tryd.underlying111
 a119 := Tryd.isAgg111
 z119 := Tryd.sizeOf111
 t124 := Tryd.underlying105
 a124 := Tryd.isAgg105
 z124 := Tryd.sizeOf105
 v124 := Tryd.zeroValue105
 t138 := Tryd.underlying113
 a138 := Tryd.isAgg113
 z138 := Tryd.sizeOf113
 v138 := Tryd.zeroValue113
 t139 := Tryd.underlying114
 a139 := Tryd.isAgg114
 z139 := Tryd.sizeOf114
 v139 := Tryd.zeroValue114
 g3 := by kernel_rfl
 g4 := by kernel_rfl }
def Tryd.laysM171_ren : Go.Shelf.Ren := ⟨fun | 171 => 30 | 243 => 37 | 246 => 44 | 283 => 55 | 284 => 56 | 285 => 57 | 286 => 58 | 129 => 73 | 317 => 72 | 318 => 74 | 319 => 75 | 320 => 76 | 337 => 86 | 338 => 87 | n => n, fun | 3 => 3 | 9 => 9 | 2 => 2 | 4 => 4 | 171 => 90 | 0 => 0 | 53 => 91 | 37 => 64 | 5 => 5 | 173 => 94 | 212 => 108 | 51 => 96 | 20 => 20 | 213 => 109 | 46 => 86 | 232 => 131 | 233 => 132 | n => n, fun | 17 => 1 | 18 => 6 | 19 => 7 | n => n⟩
theorem Tryd.laysM171 : Go.Proofs.LaysM.n171 Tryd.prog Tryd.laysM171_ren := {
 mixed := by kernel_rfl
 f129 := Tryd.func73.trans (congrArg some (by kernel_rfl))
 f171 := Tryd.func30.trans (congrArg some (by kernel_rfl))
 f243 := Tryd.func37.trans (congrArg some (by kernel_rfl))
 f246 := Tryd.func44.trans (congrArg some (by kernel_rfl))
 f283 := Tryd.func55.trans (congrArg some (by kernel_rfl))
 f284 := Tryd.func56.trans (congrArg some (by kernel_rfl))
 f285 := Tryd.func57.trans (congrArg some (by kernel_rfl))
 f286 := Tryd.func58.trans (congrArg some (by kernel_rfl))
 f317 := Tryd.func72.trans (congrArg some (by kernel_rfl))
 f318 := Tryd.func74.trans (congrArg some (by kernel_rfl))
 f319 := Tryd.func75.trans (congrArg some (by kernel_rfl))
 f320 := Tryd.func76.trans (congrArg some (by kernel_rfl))
 f337 := Tryd.func86.trans (congrArg some (by kernel_rfl))
 f338 := Tryd.func87.trans (congrArg some (by kernel_rfl))
 t0 := Tryd.underlying0
 a0 := Tryd.isAgg0
 z0 := Tryd.sizeOf0
 v0 := Tryd.zeroValue0
 t2 := Tryd.underlying2
 a2 := Tryd.isAgg2
 z2 := Tryd.sizeOf2
 v2 := Tryd.zeroValue2
 t3 := Tryd.underlying3
 a3 := Tryd.isAgg3
 z3 := Tryd.sizeOf3
 v3 := Tryd.zeroValue3
 t4 := Tryd.underlying4
 a4 := Tryd.isAgg4
 z4 := Tryd.sizeOf4
 v4 := Tryd.zeroValue4
 t5 := Tryd.underlying5
 a5 := Tryd.isAgg5
 z5 := Tryd.sizeOf5
 v5 := Tryd.zeroValue5
 t9 := Tryd.underlying9
 a9 := Tryd.isAgg9
 z9 := Tryd.sizeOf9
 v9 := Tryd.zeroValue9
 t20 := Tryd.underlying20
 a20 := Tryd.isAgg20
 z20 := Tryd.sizeOf20
 v20 := Tryd.zeroValue20
 t37 := Tryd.underlying64
 a37 := Tryd.isAgg64
 z37 := Tryd.sizeOf64
 v37 := Tryd.zeroValue64
 t46 := Tryd.underlying86
 a46 := Tryd.isAgg86
 z46 := Tryd.sizeOf86
 v46 := Tryd.zeroValue86
 t51 := Tryd.underlying96
 a51 := Tryd.isAgg96
 z51 := Tryd.sizeOf96
 v51 := Tryd.zeroValue96
 t53 := Tryd.underlying91
 a53 := Tryd.isAgg91
 z53 := Tryd.sizeOf91
 v53 := Tryd.zeroValue91
 t171 := Tryd.underlying90
 a171 := Tryd.isAgg90
 z171 := Tryd.sizeOf90
 v171 := Tryd.zeroValue90
 t173 := Tryd.underlying94
 a173 := Tryd.isAgg94
 z173 := Tryd.sizeOf94
 v173 := Tryd.zeroValue94
 t212 := Tryd.underlying108
 a212 := Tryd.isAgg108
 z212 := Tryd.sizeOf108
 v212 := Tryd.zeroValue108
 t213 := Tryd.underlying109
 a213 := Tryd.isAgg109
 z213 := Tryd.sizeOf109
 t232 := Tryd.underlying131
 a232 := Tryd.isAgg131
 z232 := Tryd.sizeOf131
 v232 := Tryd.zeroValue131
 t233 := Tryd.underlying132
 a233 := Tryd.isAgg132
 z233 := Tryd.sizeOf132
 v233 := Tryd.zeroValue132
 g17 := by kernel_rfl
 g18 := by kernel_rfl
 g19 := by kernel_rfl
 i0 := by kernel_rfl
 i2 := by kernel_rfl
 i3 := by kernel_rfl
 i4 := by kernel_rfl
 i5 := by kernel_rfl
 i9 := by kernel_rfl
 i20 := by kernel_rfl
 i37 := by kernel_rfl
 i46 := by kernel_rfl
 i51 := by kernel_rfl
 i53 := by kernel_rfl
 i171 := by kernel_rfl
 i173 := by kernel_rfl
 i212 := by kernel_rfl
 i232 := by kernel_rfl
 i233 := by kernel_rfl
 m17 := by kernel_rfl
 m18 := by kernel_rfl
 m19 := by kernel_rfl }
open Go.RowKit Go.Sort Go.Lib in
theorem Tryd.strconv_Itoa (n : Int) (h0 : -9223372036854775808 ≤ n) (h1 : n ≤ 9223372036854775807) (w : World) (htab : Lib.TabIs Tryd.prog w "internal/strconv.uint64pow10" .u64 Lib.pow10Tab) :
 Calls Tryd.prog 30 #[.int .i64 n] w fun e w' => e = .returned (.string ⟨(Lib.itoa n).toArray⟩) ∧ ∃ k os, w' = grow (w.drewN k) os := Any.strconv_Itoa Tryd.laysM171 n h0 h1 w htab
def Tryd.laysC172_ren : Go.Shelf.Ren := ⟨fun | 172 => 54 | 244 => 70 | 245 => 71 | 247 => 81 | 279 => 82 | 280 => 83 | 281 => 84 | 282 => 85 | 287 => 90 | 316 => 91 | 171 => 30 | 205 => 92 | 321 => 95 | 322 => 96 | 243 => 37 | 246 => 44 | 283 => 55 | 284 => 56 | 285 => 57 | 286 => 58 | 129 => 73 | 317 => 72 | 318 => 74 | 319 => 75 | 320 => 76 | 337 => 86 | 338 => 87 | n => n, fun | 9 => 9 | 3 => 3 | 75 => 68 | 76 => 69 | 4 => 4 | 5 => 5 | 167 => 117 | 37 => 64 | 0 => 0 | 85 => 118 | 2 => 2 | 168 => 120 | 53 => 91 | 175 => 125 | 46 => 86 | 210 => 129 | 127 => 76 | 145 => 137 | 143 => 135 | 21 => 21 | 171 => 90 | 173 => 94 | 212 => 108 | 51 => 96 | 20 => 20 | 213 => 109 | 232 => 131 | 233 => 132 | 80 => 71 | n => n, fun | 15 => 4 | 16 => 5 | 17 => 1 | 18 => 6 | 19 => 7 | n => n⟩
theorem Tryd.laysC172 : Go.Proofs.LaysC.n172 Tryd.prog Tryd.laysC172_ren := {
 mixed := by kernel_rfl
 f129 := Tryd.func73.trans (congrArg some (by kernel_rfl))
 f171 := Tryd.func30.trans (congrArg some (by kernel_rfl))
 f172 := Tryd.func54.trans (congrArg some (by kernel_rfl))
 f205 := Tryd.func92.trans (congrArg some (by kernel_rfl))
 f243 := Tryd.func37.trans (congrArg some (by kernel_rfl))
 f244 := Tryd.func70.trans (congrArg some (by kernel_rfl))
 f245 := Tryd.func71.trans (congrArg some (by kernel_rfl))
 f246 := Tryd.func44.trans (congrArg some (by kernel_rfl))
 f247 := Tryd.func81.trans (congrArg some (by kernel_rfl))
 f279 := Tryd.func82.trans (congrArg some (by kernel_rfl))
 f280 := Tryd.func83.trans (congrArg some (by kernel_rfl))
 f281 := Tryd.func84.trans (congrArg some (by kernel_rfl))
 f282 := Tryd.func85.trans (congrArg some (by kernel_rfl))
 f283 := Tryd.func55.trans (congrArg some (by kernel_rfl))
 f284 := Tryd.func56.trans (congrArg some (by kernel_rfl))
 f285 := Tryd.func57.trans (congrArg some (by kernel_rfl))
 f286 := Tryd.func58.trans (congrArg some (by kernel_rfl))
 f287 := Tryd.func90.trans (congrArg some (by kernel_rfl))
 f316 := Tryd.func91.trans (congrArg some (by kernel_rfl))
 f317 := Tryd.func72.trans (congrArg some (by kernel_rfl))
 f318 := Tryd.func74.trans (congrArg some (by kernel_rfl))
 f319 := Tryd.func75.trans (congrArg some (by kernel_rfl))
 f320 := Tryd.func76.trans (congrArg some (by kernel_rfl))
 f321 := Tryd.func95.trans (congrArg some (by kernel_rfl))
 f322 := Tryd.func96.trans (congrArg some (by kernel_rfl))
 f337 := Tryd.func86.trans (congrArg some (by kernel_rfl))
 f338 := Tryd.func87.trans (congrArg some (by kernel_rfl))
 t0 := Tryd.underlying0
 a0 := Tryd.isAgg0
 z0 := Tryd.sizeOf0
 v0 := Tryd.zeroValue0
 t2 := Tryd.underlying2
 a2 := Tryd.isAgg2
 z2 := Tryd.sizeOf2
 v2 := Tryd.zeroValue2
 t3 := Tryd.underlying3
 a3 := Tryd.isAgg3
 z3 := Tryd.sizeOf3
 v3 := Tryd.zeroValue3
 t4 := Tryd.underlying4
 a4 := Tryd.isAgg4
 z4 := Tryd.sizeOf4
 v4 := Tryd.zeroValue4
 t5 := Tryd.underlying5
 a5 := Tryd.isAgg5
 z5 := Tryd.sizeOf5
 v5 := Tryd.zeroValue5
 t9 := Tryd.underlying9
 a9 := Tryd.isAgg9
 z9 := Tryd.sizeOf9
 v9 := Tryd.zeroValue9
 t20 := Tryd.underlying20
 a20 := Tryd.isAgg20
 z20 := Tryd.sizeOf20
 v20 := Tryd.zeroValue20
 t21 := Tryd.underlying21
 a21 := Tryd.isAgg21
 z21 := Tryd.sizeOf21
 v21 := Tryd.zeroValue21
 t37 := Tryd.underlying64
 a37 := Tryd.isAgg64
 z37 := Tryd.sizeOf64
 v37 := Tryd.zeroValue64
 t46 := Tryd.underlying86
 a46 := Tryd.isAgg86
 z46 := Tryd.sizeOf86
 v46 := Tryd.zeroValue86
 t51 := Tryd.underlying96
 a51 := Tryd.isAgg96
 z51 := Tryd.sizeOf96
 v51 := Tryd.zeroValue96
 t53 := Tryd.underlying91
 a53 := Tryd.isAgg91
 z53 := Tryd.sizeOf91
 v53 := Tryd.zeroValue91
 t75 := Tryd.underlying68
 a75 := Tryd.isAgg68
 z75 := Tryd.sizeOf68
 v75 := Tryd.zeroValue68
 t76 := Tryd.underlying69
 a76 := Tryd.isAgg69
 z76 := Tryd.sizeOf69
 v76 := Tryd.zeroValue69
 t85 := Tryd.underlying118
 a85 := Tryd.isAgg118
 z85 := Tryd.sizeOf118
 v85 := Tryd.zeroValue118
 t127 := Tryd.underlying76
 a127 := Tryd.isAgg76
 z127 := Tryd.sizeOf76
 v127 := Tryd.zeroValue76
 t143 := Tryd.underlying135
 a143 := Tryd.isAgg135
 z143 := Tryd.sizeOf135
 v143 := Tryd.zeroValue135
 t145 := Tryd.underlying137
 a145 := Tryd.isAgg137
 z145 := Tryd.sizeOf137
 v145 := Tryd.zeroValue137
 t167 := Tryd.underlying117
 a167 := Tryd.isAgg117
 z167 := Tryd.sizeOf117
 v167 := Tryd.zeroValue117
 t168 := Tryd.underlying120
 a168 := Tryd.isAgg120
 z168 := Tryd.sizeOf120
 v168 := Tryd.zeroValue120
 t171 := Tryd.underlying90
 a171 := Tryd.isAgg90
 z171 := Tryd.sizeOf90
 v171 := Tryd.zeroValue90
 t173 := Tryd.underlying94
 a173 := Tryd.isAgg94
 z173 := Tryd.sizeOf94
 v173 := Tryd.zeroValue94
 t175 := Tryd.underlying125
 a175 := Tryd.isAgg125
 z175 := Tryd.sizeOf125
 v175 := Tryd.zeroValue125
 t210 := Tryd.underlying129
 a210 := Tryd.isAgg129
 z210 := Tryd.sizeOf129
 v210 := Tryd.zeroValue129
 t212 := Tryd.underlying108
 a212 := Tryd.isAgg108
 z212 := Tryd.sizeOf108
 v212 := Tryd.zeroValue108
 t213 := Tryd.underlying109
 a213 := Tryd.isAgg109
 z213 := Tryd.sizeOf109
 t232 := Tryd.underlying131
 a232 := Tryd.isAgg131
 z232 := Tryd.sizeOf131
 v232 := Tryd.zeroValue131
 t233 := Tryd.underlying132
 a233 := Tryd.isAgg132
 z233 := Tryd.sizeOf132
 v233 := Tryd.zeroValue132
 g15 := by kernel_rfl
 g16 := by kernel_rfl
 g17 := by kernel_rfl
 g18 := by kernel_rfl
 g19 := by kernel_rfl
 t80 := Tryd.underlying71
 a80 := Tryd.isAgg71
 z80 := Tryd.sizeOf71
 v80 := Tryd.zeroValue71
 i0 := by kernel_rfl
 i2 := by kernel_rfl
 i3 := by kernel_rfl
 i4 := by kernel_rfl
 i5 := by kernel_rfl
 i9 := by kernel_rfl
 i20 := by kernel_rfl
 i21 := by kernel_rfl
 i37 := by kernel_rfl
 i46 := by kernel_rfl
 i51 := by kernel_rfl
 i53 := by kernel_rfl
 i75 := by kernel_rfl
 i76 := by kernel_rfl
 i80 := by kernel_rfl
 i85 := by kernel_rfl
 i127 := by kernel_rfl
 i143 := by kernel_rfl
 i145 := by kernel_rfl
 i167 := by kernel_rfl
 i168 := by kernel_rfl
 i171 := by kernel_rfl
 i173 := by kernel_rfl
 i175 := by kernel_rfl
 i210 := by kernel_rfl
 i212 := by kernel_rfl
 i232 := by kernel_rfl
 i233 := by kernel_rfl
 m15 := by kernel_rfl
 m16 := by kernel_rfl
 m17 := by kernel_rfl
 m18 := by kernel_rfl
 m19 := by kernel_rfl
 c0 := by kernel_rfl
 c2 := by kernel_rfl
 c3 := by kernel_rfl
 c4 := by kernel_rfl
 c5 := by kernel_rfl
 c9 := by kernel_rfl
 c20 := by kernel_rfl
 c21 := by kernel_rfl
 c37 := by kernel_rfl
 c46 := by kernel_rfl
 c51 := by kernel_rfl
 c53 := by kernel_rfl
 c75 := by kernel_rfl
 c76 := by kernel_rfl
 c80 := by kernel_rfl
 c85 := by kernel_rfl
 c127 := by kernel_rfl
 c143 := by kernel_rfl
 c145 := by kernel_rfl
 c167 := by kernel_rfl
 c168 := by kernel_rfl
 c171 := by kernel_rfl
 c173 := by kernel_rfl
 c175 := by kernel_rfl
 c210 := by kernel_rfl
 c212 := by kernel_rfl
 c213 := by kernel_rfl
 c232 := by kernel_rfl
 c233 := by kernel_rfl }
open Go.RowKit in
theorem Tryd.strconv_Atoi_ok (s : ByteArray) (hmax : s.size ≤ 9223372036854775806) (v : Int) (h : Lib.atoiAll s.data.toList = .ok v) (w : World) :
 Calls Tryd.prog 54 #[.string s] w fun e w' => e = .returned (.tuple #[.int .i64 v, .nilIface]) ∧ (w' = w ∨ ∃ t, w' = Lib.bytesWorld w 5 t) := Any.strconv_Atoi_ok Tryd.laysC172 s hmax v h w
open Go.RowKit in
theorem Tryd.strconv_Atoi_syntax (s : ByteArray) (hlim : s.size ≤ 281474976710656) (hn : ∀ v, Lib.atoiAll s.data.toList ≠ .ok v) (hr : Lib.atoiAll s.data.toList ≠ .range) (ev : Value) (w : World) (hv : w.cell? ⟨4, 0, none⟩ = some ev) (hev : ev = .nilIface ∨ ∃ te pe, ev = .iface te pe) :
  Calls Tryd.prog 54 #[.string s] w fun e w' => ∃ N, e = .returned (.tuple #[.int .i64 (0), .iface 120 (.pointer (some ⟨N, 0, none⟩))]) ∧ w.heap.size ≤ N ∧ w'.heap[N]? = some (.cells #[.string ⟨#[65, 116, 111, 105]⟩, .string s, ev] 129 (0, 0)) ∧ Below w.heap.size w w' := by
 rcases hx : Lib.atoiAll s.data.toList with v | _ | _
 ·exact absurd hx (hn v)
 ·exact Any.strconv_Atoi_syntax Tryd.laysC172 s hlim hx ev w hv hev
 ·exact absurd hx hr
open Go.RowKit in
theorem Tryd.strconv_Atoi_range (s : ByteArray) (hlim : s.size ≤ 281474976710656) (h : Lib.atoiAll s.data.toList = .range) (ev : Value) (w : World) (hv : w.cell? ⟨5, 0, none⟩ = some ev) (hev : ev = .nilIface ∨ ∃ te pe, ev = .iface te pe) :
 Calls Tryd.prog 54 #[.string s] w fun e w' => ∃ N, e = .returned (.tuple #[.int .i64 (Lib.atoiSat s.data.toList), .iface 120 (.pointer (some ⟨N, 0, none⟩))]) ∧ w.heap.size ≤ N ∧ w'.heap[N]? = some (.cells #[.string ⟨#[65, 116, 111, 105]⟩, .string s, ev] 129 (0, 0)) ∧ Below w.heap.size w w' := Any.strconv_Atoi_range Tryd.laysC172 s hlim h ev w hv hev
def Tryd.lays145_ren : Go.Shelf.Ren := ⟨fun | 145 => 23 | 220 => 33 | 219 => 38 | 217 => 45 | 225 => 46 | 224 => 47 | 267 => 48 | 266 => 59 | 314 => 60 | n => n, fun | 9 => 9 | 4 => 4 | 59 => 56 | 3 => 3 | 5 => 5 | 46 => 86 | 146 => 97 | 51 => 96 | n => n, fun | 1 => 0 | n => n⟩
theorem Tryd.lays145 : Go.Proofs.Lays.n145 Tryd.prog Tryd.lays145_ren := {
 mixed := by kernel_rfl
 f145 := Tryd.func23.trans (congrArg some (by kernel_rfl))
 f217 := Tryd.func45.trans (congrArg some (by kernel_rfl))
 f219 := Tryd.func38.trans (congrArg some (by kernel_rfl))
 f220 := Tryd.func33.trans (congrArg some (by kernel_rfl))
 f224 := Tryd.func47.trans (congrArg some (by kernel_rfl))
 f225 := Tryd.func46.trans (congrArg some (by kernel_rfl))
 f266 := Tryd.func59.trans (congrArg some (by kernel_rfl))
 f267 := Tryd.func48.trans (congrArg some (by kernel_rfl))
 f314 := Tryd.func60.trans (congrArg some (by kernel_rfl))
 t3 := Tryd.underlying3
 a3 := Tryd.isAgg3
 z3 := Tryd.sizeOf3
 v3 := Tryd.zeroValue3
 t4 := Tryd.underlying4
 a4 := Tryd.isAgg4
 z4 := Tryd.sizeOf4
 v4 := Tryd.zeroValue4
 t5 := Tryd.underlying5
 a5 := Tryd.isAgg5
 z5 := Tryd.sizeOf5
 v5 := Tryd.zeroValue5
 t9 := Tryd.underlying9
 a9 := Tryd.isAgg9
 z9 := Tryd.sizeOf9
 v9 := Tryd.zeroValue9
 t46 := Tryd.underlying86
 a46 := Tryd.isAgg86
 z46 := Tryd.sizeOf86
 v46 := Tryd.zeroValue86
 t51 := Tryd.underlying96
 a51 := Tryd.isAgg96
 z51 := Tryd.sizeOf96
 v51 := Tryd.zeroValue96
 t59 := Tryd.underlying56
 a59 := Tryd.isAgg56
 z59 := Tryd.sizeOf56
 v59 := Tryd.zeroValue56
 t146 := Tryd.underlying97
 a146 := Tryd.isAgg97
 z146 := Tryd.sizeOf97
 v146 := Tryd.zeroValue97
 g1 := by kernel_rfl }
open Go.RowKit Go.Lib in
theorem Tryd.strings_Cut (s sep : ByteArray) (m : Int) (w : World) (hs : s.size < 4294967281) (hm : w.cell? ⟨0, 0, none⟩ = some (.int .i64 m)) :
 Calls Tryd.prog 23 #[.string s, .string sep] w fun e w' => e = .returned (.tuple #[.string ⟨(Lib.cut s.data.toList sep.data.toList).1.toArray⟩, .string ⟨(Lib.cut s.data.toList sep.data.toList).2.1.toArray⟩, .bool (Lib.cut s.data.toList sep.data.toList).2.2]) ∧ ∃ n, w' = w.drewN n := Any.strings_Cut Tryd.lays145 s sep m w hs hm
def Tryd.lays101_ren : Go.Shelf.Ren := ⟨fun | 101 => 52 | 208 => 62 | 206 => 77 | n => n, fun | 9 => 9 | 4 => 4 | 3 => 3 | n => n, fun | n => n⟩
theorem Tryd.lays101 : Go.Proofs.Lays.n101 Tryd.prog Tryd.lays101_ren := {
 mixed := by kernel_rfl
 f101 := Tryd.func52.trans (congrArg some (by kernel_rfl))
 f206 := Tryd.func77.trans (congrArg some (by kernel_rfl))
 f208 := Tryd.func62.trans (congrArg some (by kernel_rfl))
 t3 := Tryd.underlying3
 a3 := Tryd.isAgg3
 z3 := Tryd.sizeOf3
 v3 := Tryd.zeroValue3
 t4 := Tryd.underlying4
 a4 := Tryd.isAgg4
 z4 := Tryd.sizeOf4
 v4 := Tryd.zeroValue4
 t9 := Tryd.underlying9
 a9 := Tryd.isAgg9
 z9 := Tryd.sizeOf9
 v9 := Tryd.zeroValue9 }
open Go.RowKit Go.Lib in
theorem Tryd.strings_TrimPrefix (s p : ByteArray) (w : World) :
 Calls Tryd.prog 52 #[.string s, .string p] w fun e w' => e = .returned (.string ⟨(Lib.trimPrefix s.data.toList p.data.toList).toArray⟩) ∧ w' = w := Any.strings_TrimPrefix Tryd.lays101 s p w
def Tryd.lays146_ren : Go.Shelf.Ren := ⟨fun | 146 => 24 | 221 => 34 | 268 => 39 | 138 => 40 | 143 => 41 | 195 => 49 | 197 => 50 | 218 => 51 | 219 => 38 | 260 => 61 | 217 => 45 | 225 => 46 | 224 => 47 | 267 => 48 | 266 => 59 | 314 => 60 | n => n, fun | 9 => 9 | 31 => 58 | 3 => 3 | 4 => 4 | 0 => 0 | 105 => 87 | 21 => 21 | 5 => 5 | 46 => 86 | 119 => 111 | 139 => 114 | 138 => 113 | 146 => 97 | 51 => 96 | n => n, fun | 1 => 0 | 3 => 2 | 4 => 3 | n => n⟩
theorem Tryd.lays146 : Go.Proofs.Lays.n146 Tryd.prog Tryd.lays146_ren := {
 mixed := by kernel_rfl
 f138 := Tryd.func40.trans (congrArg some (by kernel_rfl))
 f143 := Tryd.func41.trans (congrArg some (by kernel_rfl))
 f146 := Tryd.func24.trans (congrArg some (by kernel_rfl))
 f195 := Tryd.func49.trans (congrArg some (by kernel_rfl))
 f197 := Tryd.func50.trans (congrArg some (by kernel_rfl))
 f217 := Tryd.func45.trans (congrArg some (by kernel_rfl))
 f218 := Tryd.func51.trans (congrArg some (by kernel_rfl))
 f219 := Tryd.func38.trans (congrArg some (by kernel_rfl))
 f221 := Tryd.func34.trans (congrArg some (by kernel_rfl))
 f224 := Tryd.func47.trans (congrArg some (by kernel_rfl))
 f225 := Tryd.func46.trans (congrArg some (by kernel_rfl))
 f260 := Tryd.func61.trans (congrArg some (by kernel_rfl))
 f266 := Tryd.func59.trans (congrArg some (by kernel_rfl))
 f267 := Tryd.func48.trans (congrArg some (by kernel_rfl))
 f268 := Tryd.func39.trans (congrArg some (by kernel_rfl))
 f314 := Tryd.func60.trans (congrArg some (by kernel_rfl))
 t0 := Tryd.underlying0
 a0 := Tryd.isAgg0
 z0 := Tryd.sizeOf0
 v0 := Tryd.zeroValue0
 t3 := Tryd.underlying3
 a3 := Tryd.isAgg3
 z3 := Tryd.sizeOf3
 v3 := Tryd.zeroValue3
 t4 := Tryd.underlying4
 a4 := Tryd.isAgg4
 z4 := Tryd.sizeOf4
 v4 := Tryd.zeroValue4
 t5 := Tryd.underlying5
 a5 := Tryd.isAgg5
 z5 := Tryd.sizeOf5
 v5 := Tryd.zeroValue5
 t9 := Tryd.underlying9
 a9 := Tryd.isAgg9
 z9 := Tryd.sizeOf9
 v9 := Tryd.zeroValue9
 t21 := Tryd.underlying21
 a21 := Tryd.isAgg21
 z21 := Tryd.sizeOf21
 v21 := Tryd.zeroValue21
 t31 := Tryd.underlying58
 a31 := Tryd.isAgg58
 z31 := Tryd.sizeOf58
 v31 := Tryd.zeroValue58
 t46 := Tryd.underlying86
 a46 := Tryd.isAgg86
 z46 := Tryd.sizeOf86
 v46 := Tryd.zeroValue86
 t51 := Tryd.underlying96
 a51 := Tryd.isAgg96
 z51 := Tryd.sizeOf96
 v51 := Tryd.zeroValue96
 t105 := Tryd.underlying87
 a105 := Tryd.isAgg87
 z105 := Tryd.sizeOf87
 v105 := Tryd.zeroValue87
 t119 := Tryd.underlying111
 a119 := Tryd.isAgg111
 z119 := Tryd.sizeOf111
 t138 := Tryd.underlying113
 a138 := Tryd.isAgg113
 z138 := Tryd.sizeOf113
 v138 := Tryd.zeroValue113
 t139 := Tryd.underlying114
 a139 := Tryd.isAgg114
 z139 := Tryd.sizeOf114
 v139 := Tryd.zeroValue114
 t146 := Tryd.underlying97
 a146 := Tryd.isAgg97
 z146 := Tryd.sizeOf97
 v146 := Tryd.zeroValue97
 g1 := by kernel_rfl
 g3 := by kernel_rfl
 g4 := by kernel_rfl }
open Go.RowKit Go.Lib in
theorem Tryd.strings_Split (s sep : ByteArray) (m : Int) (w : World) (hs : s.size < 4294967281) (hm : w.cell? ⟨0, 0, none⟩ = some (.int .i64 m)) (h1 : 1 ≤ sep.size) :
 Calls Tryd.prog 24 #[.string s, .string sep] w fun e w' =>
  e = .returned (.slice (some ⟨w.heap.size, 0, none⟩) (Lib.countB s sep + 1) (Lib.countB s sep + 1)) ∧ w' = w.alloc (.cells ((Lib.splitB sep 0 (Lib.countB s sep) s).map Value.string).toArray 9) := Any.strings_Split Tryd.lays146 (by kernel_rfl) s sep m w hs hm h1
def Tryd.lays166_ren : Go.Shelf.Ren := ⟨fun | 166 => 29 | 240 => 36 | 276 => 43 | n => n, fun | 0 => 0 | 3 => 3 | 4 => 4 | 5 => 5 | 9 => 9 | 20 => 20 | 37 => 64 | 70 => 63 | 72 => 66 | 75 => 68 | 80 => 71 | 164 => 81 | n => n, fun | n => n⟩
theorem Tryd.lays166 : Go.Proofs.Lays.n166 Tryd.prog Tryd.lays166_ren := {
 mixed := by kernel_rfl
 f166 := Tryd.func29.trans (congrArg some (by kernel_rfl))
 f240 := Tryd.func36.trans (congrArg some (by kernel_rfl))
 f276 := Tryd.func43.trans (congrArg some (by kernel_rfl))
 t0 := Tryd.underlying0
 a0 := Tryd.isAgg0
 z0 := Tryd.sizeOf0
 v0 := Tryd.zeroValue0
 t3 := Tryd.underlying3
 a3 := Tryd.isAgg3
 z3 := Tryd.sizeOf3
 v3 := Tryd.zeroValue3
 t4 := Tryd.underlying4
 a4 := Tryd.isAgg4
 z4 := Tryd.sizeOf4
 v4 := Tryd.zeroValue4
 t9 := Tryd.underlying9
 a9 := Tryd.isAgg9
 z9 := Tryd.sizeOf9
 v9 := Tryd.zeroValue9
 t20 := Tryd.underlying20
 a20 := Tryd.isAgg20
 z20 := Tryd.sizeOf20
 v20 := Tryd.zeroValue20
 t37 := Tryd.underlying64
 a37 := Tryd.isAgg64
 z37 := Tryd.sizeOf64
 v37 := Tryd.zeroValue64
 t70 := Tryd.underlying63
 a70 := Tryd.isAgg63
 z70 := Tryd.sizeOf63
 v70 := Tryd.zeroValue63
 t72 := Tryd.underlying66
 a72 := Tryd.isAgg66
 z72 := Tryd.sizeOf66
 v72 := Tryd.zeroValue66
 t75 := Tryd.underlying68
 a75 := Tryd.isAgg68
 z75 := Tryd.sizeOf68
 v75 := Tryd.zeroValue68
 t164 := Tryd.underlying81
 a164 := Tryd.isAgg81
 z164 := Tryd.sizeOf81
 v164 := Tryd.zeroValue81 }
theorem Tryd.Builder_Extra_166 : Builder.Extra Tryd.prog Tryd.lays166_ren := {
 sizeBuilder := by kernel_rfl
 liesBuilder := by kernel_rfl
 t5 := Tryd.underlying5
 a5 := Tryd.isAgg5
 z5 := Tryd.sizeOf5
 v5 := Tryd.zeroValue5
 infoByte := by kernel_rfl
 cellsByte := by kernel_rfl
 sizeByte := by kernel_rfl
 neB5 := by decide }
theorem Tryd.Builder_WriteString (B b : Nat) (bs : List Value) (s : ByteArray) (w : World) (h : Lib.IsBuilder 66 5 B b bs w) (hlen : bs.length + s.size ≤ 140737488355328) (hBw : B ≤ w.heap.size) :
 Calls Tryd.prog 29 #[.pointer (some ⟨b, 0, none⟩), .string s] w fun e w' => e = .returned (.tuple #[.int .i64 s.size, .nilIface]) ∧ (Lib.BuilderAt 66 5 B b (.pointer (some ⟨b, 0, none⟩)) (bs ++ Lib.strCells s) w' ∧ Below B w w') := Any.Builder_WriteString Tryd.lays166 Tryd.Builder_Extra_166 B b bs s w h hlen hBw
end Go.Proofs
