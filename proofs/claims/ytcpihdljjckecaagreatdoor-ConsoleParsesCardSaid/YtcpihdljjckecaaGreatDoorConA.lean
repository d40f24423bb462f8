import Derived.Shelf.Strconv.Itoa3
import Derived.Shelf.Strconv.AtoiAll
import Derived.Shelf.Strings.Split
import Derived.Shelf.Strings.SplitShaped
import Derived.Test.YtcpihdljjckecaaGreatDoorConEc
import Derived.Test.YtcpihdljjckecaaGreatDoorProg
import Derived.Test.YtcpihdljjckecaaGreatDoorConEb
import Derived.Test.YtcpihdljjckecaaGreatDoorConOc
set_option linter.unusedVariables false
set_option linter.unusedSimpArgs false
/-
  The library's numbers and lines: the shelf's contracts at this program.
-/
namespace Go.Proofs.Con
open Go Go.RowKit Go.Proofs.E
section
open Go.Shelf Go.Lib
def layItoa_ren : Go.Shelf.Ren := ⟨fun | 171 => 89 | 243 => 126 | 246 => 175 | 283 => 233 | 284 => 234 | 285 => 235 | 286 => 236 | 129 => 191 | 317 => 287 | 318 => 288 | 319 => 289 | 320 => 290 | 337 => 313 | 338 => 314 | n => n, fun | 3 => 3 | 9 => 9 | 2 => 2 | 4 => 4 | 171 => 395 | 0 => 0 | 53 => 58 | 37 => 132 | 5 => 5 | 173 => 397 | 212 => 445 | 51 => 324 | 20 => 20 | 213 => 446 | 46 => 249 | 232 => 480 | 233 => 481 | n => n, fun | 17 => 5 | 18 => 6 | 19 => 7 | n => n⟩
theorem layItoa : Go.Proofs.LaysM.n171 Tryz.prog layItoa_ren := {
  mixed := by kernel_rfl,
  f129 := Tryz.func191.trans (congrArg some (by kernel_rfl)),
  f171 := Tryz.func89.trans (congrArg some (by kernel_rfl)),
  f243 := Tryz.func126.trans (congrArg some (by kernel_rfl)),
  f246 := Tryz.func175.trans (congrArg some (by kernel_rfl)),
  f283 := Tryz.func233.trans (congrArg some (by kernel_rfl)),
  f284 := Tryz.func234.trans (congrArg some (by kernel_rfl)),
  f285 := Tryz.func235.trans (congrArg some (by kernel_rfl)),
  f286 := Tryz.func236.trans (congrArg some (by kernel_rfl)),
  f317 := Tryz.func287.trans (congrArg some (by kernel_rfl)),
  f318 := Tryz.func288.trans (congrArg some (by kernel_rfl)),
  f319 := Tryz.func289.trans (congrArg some (by kernel_rfl)),
  f320 := Tryz.func290.trans (congrArg some (by kernel_rfl)),
  f337 := Tryz.func313.trans (congrArg some (by kernel_rfl)),
  f338 := Tryz.func314.trans (congrArg some (by kernel_rfl)),
  t0 := Tryz.underlying0,
  a0 := Tryz.isAgg0,
  z0 := Tryz.sizeOf0,
  v0 := Tryz.zeroValue0,
  t2 := Tryz.underlying2,
  a2 := Tryz.isAgg2,
  z2 := Tryz.sizeOf2,
  v2 := Tryz.zeroValue2,
  t3 := Tryz.underlying3,
  a3 := Tryz.isAgg3,
  z3 := Tryz.sizeOf3,
  v3 := Tryz.zeroValue3,
  t4 := Tryz.underlying4,
  a4 := Tryz.isAgg4,
  z4 := Tryz.sizeOf4,
  v4 := Tryz.zeroValue4,
  t5 := Tryz.underlying5,
  a5 := Tryz.isAgg5,
  z5 := Tryz.sizeOf5,
  v5 := Tryz.zeroValue5,
  t9 := Tryz.underlying9,
  a9 := Tryz.isAgg9,
  z9 := Tryz.sizeOf9,
  v9 := Tryz.zeroValue9,
  t20 := Tryz.underlying20,
  a20 := Tryz.isAgg20,
  z20 := Tryz.sizeOf20,
  v20 := Tryz.zeroValue20,
  t37 := Tryz.underlying132,
  a37 := Tryz.isAgg132,
  z37 := Tryz.sizeOf132,
  v37 := Tryz.zeroValue132,
  t46 := Tryz.underlying249,
  a46 := Tryz.isAgg249,
  z46 := Tryz.sizeOf249,
  v46 := Tryz.zeroValue249,
  t51 := Tryz.underlying324,
  a51 := Tryz.isAgg324,
  z51 := Tryz.sizeOf324,
  v51 := Tryz.zeroValue324,
  t53 := Tryz.underlying58,
  a53 := Tryz.isAgg58,
  z53 := Tryz.sizeOf58,
  v53 := Tryz.zeroValue58,
  t171 := Tryz.underlying395,
  a171 := Tryz.isAgg395,
  z171 := Tryz.sizeOf395,
  v171 := Tryz.zeroValue395,
  t173 := Tryz.underlying397,
  a173 := Tryz.isAgg397,
  z173 := Tryz.sizeOf397,
  v173 := Tryz.zeroValue397,
  t212 := Tryz.underlying445,
  a212 := Tryz.isAgg445,
  z212 := Tryz.sizeOf445,
  v212 := Tryz.zeroValue445,
  t213 := Tryz.underlying446,
  a213 := Tryz.isAgg446,
  z213 := Tryz.sizeOf446,
  t232 := Tryz.underlying480,
  a232 := Tryz.isAgg480,
  z232 := Tryz.sizeOf480,
  v232 := Tryz.zeroValue480,
  t233 := Tryz.underlying481,
  a233 := Tryz.isAgg481,
  z233 := Tryz.sizeOf481,
  v233 := Tryz.zeroValue481,
  g17 := by kernel_rfl,
  g18 := by kernel_rfl,
  g19 := by kernel_rfl,
  i0 := by kernel_rfl,
  i2 := by kernel_rfl,
  i3 := by kernel_rfl,
  i4 := by kernel_rfl,
  i5 := by kernel_rfl,
  i9 := by kernel_rfl,
  i20 := by kernel_rfl,
  i37 := by kernel_rfl,
  i46 := by kernel_rfl,
  i51 := by kernel_rfl,
  i53 := by kernel_rfl,
  i171 := by kernel_rfl,
  i173 := by kernel_rfl,
  i212 := by kernel_rfl,
  i232 := by kernel_rfl,
  i233 := by kernel_rfl,
  m17 := by kernel_rfl,
  m18 := by kernel_rfl,
  m19 := by kernel_rfl }
def layAtoi_ren : Go.Shelf.Ren := ⟨fun | 172 => 50 | 244 => 87 | 245 => 88 | 247 => 121 | 279 => 122 | 280 => 123 | 281 => 124 | 282 => 125 | 287 => 172 | 316 => 173 | 171 => 89 | 205 => 174 | 321 => 231 | 322 => 232 | 243 => 126 | 246 => 175 | 283 => 233 | 284 => 234 | 285 => 235 | 286 => 236 | 129 => 191 | 317 => 287 | 318 => 288 | 319 => 289 | 320 => 290 | 337 => 313 | 338 => 314 | n => n, fun | 9 => 9 | 3 => 3 | 75 => 129 | 76 => 130 | 4 => 4 | 5 => 5 | 167 => 250 | 37 => 132 | 0 => 0 | 85 => 251 | 2 => 2 | 168 => 253 | 53 => 58 | 175 => 327 | 46 => 249 | 210 => 331 | 127 => 337 | 145 => 394 | 143 => 392 | 21 => 21 | 171 => 395 | 173 => 397 | 212 => 445 | 51 => 324 | 20 => 20 | 213 => 446 | 232 => 480 | 233 => 481 | 80 => 263 | n => n, fun | 15 => 3 | 16 => 4 | 17 => 5 | 18 => 6 | 19 => 7 | n => n⟩
theorem layAtoi : Go.Proofs.LaysC.n172 Tryz.prog layAtoi_ren := {
  mixed := by kernel_rfl,
  f129 := Tryz.func191.trans (congrArg some (by kernel_rfl)),
  f171 := Tryz.func89.trans (congrArg some (by kernel_rfl)),
  f172 := Tryz.func50.trans (congrArg some (by kernel_rfl)),
  f205 := Tryz.func174.trans (congrArg some (by kernel_rfl)),
  f243 := Tryz.func126.trans (congrArg some (by kernel_rfl)),
  f244 := Tryz.func87.trans (congrArg some (by kernel_rfl)),
  f245 := Tryz.func88.trans (congrArg some (by kernel_rfl)),
  f246 := Tryz.func175.trans (congrArg some (by kernel_rfl)),
  f247 := Tryz.func121.trans (congrArg some (by kernel_rfl)),
  f279 := Tryz.func122.trans (congrArg some (by kernel_rfl)),
  f280 := Tryz.func123.trans (congrArg some (by kernel_rfl)),
  f281 := Tryz.func124.trans (congrArg some (by kernel_rfl)),
  f282 := Tryz.func125.trans (congrArg some (by kernel_rfl)),
  f283 := Tryz.func233.trans (congrArg some (by kernel_rfl)),
  f284 := Tryz.func234.trans (congrArg some (by kernel_rfl)),
  f285 := Tryz.func235.trans (congrArg some (by kernel_rfl)),
  f286 := Tryz.func236.trans (congrArg some (by kernel_rfl)),
  f287 := Tryz.func172.trans (congrArg some (by kernel_rfl)),
  f316 := Tryz.func173.trans (congrArg some (by kernel_rfl)),
  f317 := Tryz.func287.trans (congrArg some (by kernel_rfl)),
  f318 := Tryz.func288.trans (congrArg some (by kernel_rfl)),
  f319 := Tryz.func289.trans (congrArg some (by kernel_rfl)),
  f320 := Tryz.func290.trans (congrArg some (by kernel_rfl)),
  f321 := Tryz.func231.trans (congrArg some (by kernel_rfl)),
  f322 := Tryz.func232.trans (congrArg some (by kernel_rfl)),
  f337 := Tryz.func313.trans (congrArg some (by kernel_rfl)),
  f338 := Tryz.func314.trans (congrArg some (by kernel_rfl)),
  t0 := Tryz.underlying0,
  a0 := Tryz.isAgg0,
  z0 := Tryz.sizeOf0,
  v0 := Tryz.zeroValue0,
  t2 := Tryz.underlying2,
  a2 := Tryz.isAgg2,
  z2 := Tryz.sizeOf2,
  v2 := Tryz.zeroValue2,
  t3 := Tryz.underlying3,
  a3 := Tryz.isAgg3,
  z3 := Tryz.sizeOf3,
  v3 := Tryz.zeroValue3,
  t4 := Tryz.underlying4,
  a4 := Tryz.isAgg4,
  z4 := Tryz.sizeOf4,
  v4 := Tryz.zeroValue4,
  t5 := Tryz.underlying5,
  a5 := Tryz.isAgg5,
  z5 := Tryz.sizeOf5,
  v5 := Tryz.zeroValue5,
  t9 := Tryz.underlying9,
  a9 := Tryz.isAgg9,
  z9 := Tryz.sizeOf9,
  v9 := Tryz.zeroValue9,
  t20 := Tryz.underlying20,
  a20 := Tryz.isAgg20,
  z20 := Tryz.sizeOf20,
  v20 := Tryz.zeroValue20,
  t21 := Tryz.underlying21,
  a21 := Tryz.isAgg21,
  z21 := Tryz.sizeOf21,
  v21 := Tryz.zeroValue21,
  t37 := Tryz.underlying132,
  a37 := Tryz.isAgg132,
  z37 := Tryz.sizeOf132,
  v37 := Tryz.zeroValue132,
  t46 := Tryz.underlying249,
  a46 := Tryz.isAgg249,
  z46 := Tryz.sizeOf249,
  v46 := Tryz.zeroValue249,
  t51 := Tryz.underlying324,
  a51 := Tryz.isAgg324,
  z51 := Tryz.sizeOf324,
  v51 := Tryz.zeroValue324,
  t53 := Tryz.underlying58,
  a53 := Tryz.isAgg58,
  z53 := Tryz.sizeOf58,
  v53 := Tryz.zeroValue58,
  t75 := Tryz.underlying129,
  a75 := Tryz.isAgg129,
  z75 := Tryz.sizeOf129,
  v75 := Tryz.zeroValue129,
  t76 := Tryz.underlying130,
  a76 := Tryz.isAgg130,
  z76 := Tryz.sizeOf130,
  v76 := Tryz.zeroValue130,
  t85 := Tryz.underlying251,
  a85 := Tryz.isAgg251,
  z85 := Tryz.sizeOf251,
  v85 := Tryz.zeroValue251,
  t127 := Tryz.underlying337,
  a127 := Tryz.isAgg337,
  z127 := Tryz.sizeOf337,
  v127 := Tryz.zeroValue337,
  t143 := Tryz.underlying392,
  a143 := Tryz.isAgg392,
  z143 := Tryz.sizeOf392,
  v143 := Tryz.zeroValue392,
  t145 := Tryz.underlying394,
  a145 := Tryz.isAgg394,
  z145 := Tryz.sizeOf394,
  v145 := Tryz.zeroValue394,
  t167 := Tryz.underlying250,
  a167 := Tryz.isAgg250,
  z167 := Tryz.sizeOf250,
  v167 := Tryz.zeroValue250,
  t168 := Tryz.underlying253,
  a168 := Tryz.isAgg253,
  z168 := Tryz.sizeOf253,
  v168 := Tryz.zeroValue253,
  t171 := Tryz.underlying395,
  a171 := Tryz.isAgg395,
  z171 := Tryz.sizeOf395,
  v171 := Tryz.zeroValue395,
  t173 := Tryz.underlying397,
  a173 := Tryz.isAgg397,
  z173 := Tryz.sizeOf397,
  v173 := Tryz.zeroValue397,
  t175 := Tryz.underlying327,
  a175 := Tryz.isAgg327,
  z175 := Tryz.sizeOf327,
  v175 := Tryz.zeroValue327,
  t210 := Tryz.underlying331,
  a210 := Tryz.isAgg331,
  z210 := Tryz.sizeOf331,
  v210 := Tryz.zeroValue331,
  t212 := Tryz.underlying445,
  a212 := Tryz.isAgg445,
  z212 := Tryz.sizeOf445,
  v212 := Tryz.zeroValue445,
  t213 := Tryz.underlying446,
  a213 := Tryz.isAgg446,
  z213 := Tryz.sizeOf446,
  t232 := Tryz.underlying480,
  a232 := Tryz.isAgg480,
  z232 := Tryz.sizeOf480,
  v232 := Tryz.zeroValue480,
  t233 := Tryz.underlying481,
  a233 := Tryz.isAgg481,
  z233 := Tryz.sizeOf481,
  v233 := Tryz.zeroValue481,
  g15 := by kernel_rfl,
  g16 := by kernel_rfl,
  g17 := by kernel_rfl,
  g18 := by kernel_rfl,
  g19 := by kernel_rfl,
  t80 := Tryz.underlying263,
  a80 := Tryz.isAgg263,
  z80 := Tryz.sizeOf263,
  v80 := Tryz.zeroValue263,
  i0 := by kernel_rfl,
  i2 := by kernel_rfl,
  i3 := by kernel_rfl,
  i4 := by kernel_rfl,
  i5 := by kernel_rfl,
  i9 := by kernel_rfl,
  i20 := by kernel_rfl,
  i21 := by kernel_rfl,
  i37 := by kernel_rfl,
  i46 := by kernel_rfl,
  i51 := by kernel_rfl,
  i53 := by kernel_rfl,
  i75 := by kernel_rfl,
  i76 := by kernel_rfl,
  i80 := by kernel_rfl,
  i85 := by kernel_rfl,
  i127 := by kernel_rfl,
  i143 := by kernel_rfl,
  i145 := by kernel_rfl,
  i167 := by kernel_rfl,
  i168 := by kernel_rfl,
  i171 := by kernel_rfl,
  i173 := by kernel_rfl,
  i175 := by kernel_rfl,
  i210 := by kernel_rfl,
  i212 := by kernel_rfl,
  i232 := by kernel_rfl,
  i233 := by kernel_rfl,
  m15 := by kernel_rfl,
  m16 := by kernel_rfl,
  m17 := by kernel_rfl,
  m18 := by kernel_rfl,
  m19 := by kernel_rfl,
  c0 := by kernel_rfl,
  c2 := by kernel_rfl,
  c3 := by kernel_rfl,
  c4 := by kernel_rfl,
  c5 := by kernel_rfl,
  c9 := by kernel_rfl,
  c20 := by kernel_rfl,
  c21 := by kernel_rfl,
  c37 := by kernel_rfl,
  c46 := by kernel_rfl,
  c51 := by kernel_rfl,
  c53 := by kernel_rfl,
  c75 := by kernel_rfl,
  c76 := by kernel_rfl,
  c80 := by kernel_rfl,
  c85 := by kernel_rfl,
  c127 := by kernel_rfl,
  c143 := by kernel_rfl,
  c145 := by kernel_rfl,
  c167 := by kernel_rfl,
  c168 := by kernel_rfl,
  c171 := by kernel_rfl,
  c173 := by kernel_rfl,
  c175 := by kernel_rfl,
  c210 := by kernel_rfl,
  c212 := by kernel_rfl,
  c213 := by kernel_rfl,
  c232 := by kernel_rfl,
  c233 := by kernel_rfl }
def laySplit_ren : Go.Shelf.Ren := ⟨fun | 146 => 16 | 221 => 29 | 268 => 46 | 138 => 47 | 143 => 48 | 195 => 83 | 197 => 84 | 218 => 85 | 219 => 86 | 260 => 116 | 217 => 117 | 225 => 118 | 224 => 119 | 267 => 120 | 266 => 170 | 314 => 171 | n => n, fun | 9 => 9 | 31 => 39 | 3 => 3 | 4 => 4 | 0 => 0 | 105 => 188 | 21 => 21 | 5 => 5 | 46 => 249 | 119 => 320 | 139 => 323 | 138 => 322 | 146 => 325 | 51 => 324 | n => n, fun | 1 => 0 | 3 => 1 | 4 => 2 | n => n⟩
theorem laySplit : Go.Proofs.LaysM.n146 Tryz.prog laySplit_ren := {
  mixed := by kernel_rfl,
  f138 := Tryz.func47.trans (congrArg some (by kernel_rfl)),
  f143 := Tryz.func48.trans (congrArg some (by kernel_rfl)),
  f146 := Tryz.func16.trans (congrArg some (by kernel_rfl)),
  f195 := Tryz.func83.trans (congrArg some (by kernel_rfl)),
  f197 := Tryz.func84.trans (congrArg some (by kernel_rfl)),
  f217 := Tryz.func117.trans (congrArg some (by kernel_rfl)),
  f218 := Tryz.func85.trans (congrArg some (by kernel_rfl)),
  f219 := Tryz.func86.trans (congrArg some (by kernel_rfl)),
  f221 := Tryz.func29.trans (congrArg some (by kernel_rfl)),
  f224 := Tryz.func119.trans (congrArg some (by kernel_rfl)),
  f225 := Tryz.func118.trans (congrArg some (by kernel_rfl)),
  f260 := Tryz.func116.trans (congrArg some (by kernel_rfl)),
  f266 := Tryz.func170.trans (congrArg some (by kernel_rfl)),
  f267 := Tryz.func120.trans (congrArg some (by kernel_rfl)),
  f268 := Tryz.func46.trans (congrArg some (by kernel_rfl)),
  f314 := Tryz.func171.trans (congrArg some (by kernel_rfl)),
  t0 := Tryz.underlying0,
  a0 := Tryz.isAgg0,
  z0 := Tryz.sizeOf0,
  v0 := Tryz.zeroValue0,
  t3 := Tryz.underlying3,
  a3 := Tryz.isAgg3,
  z3 := Tryz.sizeOf3,
  v3 := Tryz.zeroValue3,
  t4 := Tryz.underlying4,
  a4 := Tryz.isAgg4,
  z4 := Tryz.sizeOf4,
  v4 := Tryz.zeroValue4,
  t5 := Tryz.underlying5,
  a5 := Tryz.isAgg5,
  z5 := Tryz.sizeOf5,
  v5 := Tryz.zeroValue5,
  t9 := Tryz.underlying9,
  a9 := Tryz.isAgg9,
  z9 := Tryz.sizeOf9,
  v9 := Tryz.zeroValue9,
  t21 := Tryz.underlying21,
  a21 := Tryz.isAgg21,
  z21 := Tryz.sizeOf21,
  v21 := Tryz.zeroValue21,
  t31 := Tryz.underlying39,
  a31 := Tryz.isAgg39,
  z31 := Tryz.sizeOf39,
  v31 := Tryz.zeroValue39,
  t46 := Tryz.underlying249,
  a46 := Tryz.isAgg249,
  z46 := Tryz.sizeOf249,
  v46 := Tryz.zeroValue249,
  t51 := Tryz.underlying324,
  a51 := Tryz.isAgg324,
  z51 := Tryz.sizeOf324,
  v51 := Tryz.zeroValue324,
  t105 := Tryz.underlying188,
  a105 := Tryz.isAgg188,
  z105 := Tryz.sizeOf188,
  v105 := Tryz.zeroValue188,
  t119 := Tryz.underlying320,
  a119 := Tryz.isAgg320,
  z119 := Tryz.sizeOf320,
  t138 := Tryz.underlying322,
  a138 := Tryz.isAgg322,
  z138 := Tryz.sizeOf322,
  v138 := Tryz.zeroValue322,
  t139 := Tryz.underlying323,
  a139 := Tryz.isAgg323,
  z139 := Tryz.sizeOf323,
  v139 := Tryz.zeroValue323,
  t146 := Tryz.underlying325,
  a146 := Tryz.isAgg325,
  z146 := Tryz.sizeOf325,
  v146 := Tryz.zeroValue325,
  g1 := by kernel_rfl,
  g3 := by kernel_rfl,
  g4 := by kernel_rfl,
  i0 := by kernel_rfl,
  i3 := by kernel_rfl,
  i4 := by kernel_rfl,
  i5 := by kernel_rfl,
  i9 := by kernel_rfl,
  i21 := by kernel_rfl,
  i31 := by kernel_rfl,
  i46 := by kernel_rfl,
  i51 := by kernel_rfl,
  i105 := by kernel_rfl,
  i138 := by kernel_rfl,
  i139 := by kernel_rfl,
  i146 := by kernel_rfl,
  m1 := by kernel_rfl,
  s1_3 := fun w h => Go.Proofs.cell_of_shapedOpen_int (zero := #[.int .i64 0]) (t := 3) h (of_decide_eq_true (by kernel_rfl)) (by kernel_rfl) rfl (by kernel_rfl) (by kernel_rfl) Tryz.underlying3,
  m3 := by kernel_rfl,
  m4 := by kernel_rfl }
end
/-- what the calls look at in the world: a table, two errors, a bound -/
structure Lw (w : World) : Prop where
  tab : Go.Lib.TabIs Tryz.prog w "internal/strconv.uint64pow10" .u64 Go.Lib.pow10Tab
  syn : ∃ t p, w.cell? ⟨layAtoi_ren.g 15, 0, none⟩ = some (.iface t p)
  ran : ∃ t p, w.cell? ⟨layAtoi_ren.g 16, 0, none⟩ = some (.iface t p)
  max : ∃ m, w.cell? ⟨laySplit_ren.g 1, 0, none⟩ = some (.int .i64 m)
theorem Lw.blw {w w' : World} (h : Lw w) (hb : Blw w w') : Lw w' := by
  have hc : ∀ (a : Addr) (v : Value), w.cell? a = some v → w'.cell? a = some v := fun a v ha => (hb.cell (Go.Lib.lt_of_cell ha)).trans ha
  refine ⟨?_, ?_, ?_, ?_⟩
  · have h1 := h.tab
    unfold Go.Lib.TabIs World.var? at h1 ⊢
    cases hg : Tryz.prog.globalNamed "internal/strconv.uint64pow10" with
    | none => rw [hg] at h1; cases h1
    | some g =>
      rw [hg] at h1
      simp only [Option.bind_some] at h1 ⊢
      have hlt : g < w.heap.size := by
        refine Classical.byContradiction fun hn => ?_
        rw [Array.getElem?_eq_none (by omega)] at h1
        cases h1
      rw [hb.block g hlt]
      exact h1
  · obtain ⟨t, p, e⟩ := h.syn; exact ⟨t, p, hc _ _ e⟩
  · obtain ⟨t, p, e⟩ := h.ran; exact ⟨t, p, hc _ _ e⟩
  · obtain ⟨m, e⟩ := h.max; exact ⟨m, hc _ _ e⟩
theorem Lw.und {w : World} (h : Lw w) : Lw (und0 w) := ⟨h.tab, h.syn, h.ran, h.max⟩
theorem Lw.mem {w0 w : World} {L : List E.Item} (h : Lw w0) (hm : Mem w0 L w) : Lw w := h.blw hm.1.toBelow
theorem itoa_w (n : Int) (w : World) (h0 : -9223372036854775808 ≤ n) (h1 : n ≤ 9223372036854775807) (hw : Lw w) : Calls Tryz.prog 89 #[.int .i64 n] w fun e w' => e = .returned (.string ⟨(Go.Lib.itoa n).toArray⟩) ∧ Blw w w' :=
  (Go.Proofs.Any.strconv_Itoa layItoa n h0 h1 w hw.tab).mono fun e w' ⟨h, k, os, e2⟩ => ⟨h, by subst e2; exact ⟨rfl, rfl, rfl, by simp [Go.Sort.grow, World.drewN], fun j hj => by simp [Go.Sort.grow, World.drewN, Array.getElem?_append, hj]⟩⟩
def isIf : Value → Bool
  | .iface _ _ => true
  | _ => false
theorem atoiOk_w (s : ByteArray) (v : Int) (w : World) (hs : s.size ≤ 1000) (h : Go.Lib.atoiAll s.data.toList = .ok v) : Calls Tryz.prog 50 #[.string s] w fun e w' => e = .returned (.tuple #[.int .i64 v, .nilIface]) ∧ Blw w w' :=
  (Go.Proofs.Any.strconv_Atoi_ok layAtoi s (by omega) v h w).mono fun e w' ⟨h1, h2⟩ => ⟨h1, by
    rcases h2 with rfl | ⟨t, rfl⟩
    · exact Below.refl _ _
    · exact Go.Lib.bytesWorld_below _ _ _⟩
theorem atoiBad_w (s : ByteArray) (w : World) (hs : s.size ≤ 1000) (hw : Lw w) (h : ∀ v, Go.Lib.atoiAll s.data.toList ≠ .ok v) : Calls Tryz.prog 50 #[.string s] w fun e w' => ∃ x : Int × TypeId × Value, e = .returned (.tuple #[.int .i64 x.1, .iface x.2.1 x.2.2]) ∧ Mem (und0 w) [] w' := by
  have key : ∀ w', Blw w w' → Mem (und0 w) [] w' := fun w' hb => (Mem.start0 w).call0 rfl hb
  cases ha : Go.Lib.atoiAll s.data.toList with
  | ok v => exact absurd ha (h v)
  | range =>
    obtain ⟨t, p, hv⟩ := hw.ran
    exact (Go.Proofs.Any.strconv_Atoi_range layAtoi s (by omega) ha (.iface t p) w hv (.inr ⟨t, p, rfl⟩)).mono fun e w' ⟨N, h1, _, _, h4⟩ => ⟨(Go.Lib.atoiSat s.data.toList, _, _), h1, key _ h4⟩
  | _ =>
    obtain ⟨t, p, hv⟩ := hw.syn
    exact (Go.Proofs.Any.strconv_Atoi_syntax layAtoi s (by omega) ha (.iface t p) w hv (.inr ⟨t, p, rfl⟩)).mono fun e w' ⟨N, h1, _, _, h4⟩ => ⟨(0, _, _), h1, key _ h4⟩
end Go.Proofs.Con

/-
  The walks: numbers parsed and written (num, console).
-/
namespace Go.Proofs.Con
open Go Go.RowKit Go.Proofs.E

theorem e_ng {c : Cx} {w0 : World} {L : List E.Item} {f : Fr} {g : Bool} {t ty : TypeId} {x : Operand} {n : Int} (hx : OpV g f x (.int .i64 n)) (hm : g = true → -9223372036854775807 ≤ n ∧ n ≤ 9223372036854775807) : EvG g c w0 L f (.unOp .neg t x) ty (.int .i64 (-n)) := fun e _ _ _ _ w _ => by
  have h := hm e
  have h2 : -9223372036854775808 ≤ -n ∧ -n ≤ 9223372036854775807 := by omega
  have h3 : Op.unary .neg (.int .i64 n) = (pure (.int .i64 (-n)) : Sem Value) := by
    simp [Op.unary, Op.intArith, IntWalk.i64_in _ h2]
  simp [execOp, hx e, h3, Result.andThen]
theorem nd_le : ∀ (k u : Nat), u < 10 ^ (k + 1) → Go.Lib.nDigits u ≤ k + 1
  | 0, u, h => by rw [Go.Lib.nDigits_small (by simpa using h)]; exact Nat.le_refl _
  | k + 1, u, h => by
    by_cases hu : u < 10
    · rw [Go.Lib.nDigits_small hu]; omega
    · rw [Go.Lib.nDigits_big hu]
      have := nd_le k (u / 10) (by rw [Nat.pow_succ] at h; omega)
      omega
theorem valid_w (n : Int) (w : World) : Calls Tryz.prog 51 #[.int .i64 n] w fun e w' => e = .returned (.bool (decide (-1125899906842624 ≤ n) && decide (n ≤ 1125899906842624))) ∧ Bel w w' := by
  refine H_enter Tryz.func51 rfl Tryz.ntmps51 rfl ?_
  refine H_seq ?_
  refine R0 ?_
  refine xV (e_as (v := .bool _) (q0 rfl)) rfl rfl ?_
  refine XN ?_
  refine thenJ_normal ?_
  refine H_seq ?_
  refine R0 ?_
  refine xV (e_mv (v := .int _ _) (q0 rfl)) rfl rfl ?_
  refine xV (e_le (q0 rfl) (q0 rfl)) rfl rfl ?_
  refine xV (e_mv (v := .bool _) (q0 rfl)) rfl rfl ?_
  refine xVT (e_mv (v := .int _ _) (q0 rfl)) rfl rfl rfl rfl ?_
  refine xVT (e_le (q1 rfl) (q0 rfl)) rfl rfl rfl rfl ?_
  refine xV (e_and (q0 rfl) rfl (fun h => by first | rfl | (rw [h]; rfl))) rfl rfl ?_
  refine xV (e_as (v := .bool _) (q0 rfl)) rfl rfl ?_
  refine XN ?_
  refine thenJ_normal ?_
  refine H_ret ?_
  exact ret1 (v := .bool _) rfl rfl rfl fun w' hw => ⟨rfl, hw.1⟩
theorem nin_w (n lo hi : Int) (w : World) : Calls Tryz.prog 49 #[.int .i64 n, .int .i64 lo, .int .i64 hi] w fun e w' => e = .returned (.bool (decide (lo ≤ n) && decide (n ≤ hi))) ∧ Bel w w' := by
  refine H_enter Tryz.func49 rfl Tryz.ntmps49 rfl ?_
  refine H_seq ?_
  refine R0 ?_
  refine xV (e_as (v := .bool _) (q0 rfl)) rfl rfl ?_
  refine XN ?_
  refine thenJ_normal ?_
  refine H_seq ?_
  refine R0 ?_
  refine xV (e_mv (v := .int _ _) (q0 rfl)) rfl rfl ?_
  refine xV (e_mv (v := .int _ _) (q0 rfl)) rfl rfl ?_
  refine xV (e_le (q0 rfl) (q0 rfl)) rfl rfl ?_
  refine xV (e_mv (v := .bool _) (q0 rfl)) rfl rfl ?_
  refine xVT (e_mv (v := .int _ _) (q0 rfl)) rfl rfl rfl rfl ?_
  refine xVT (e_mv (v := .int _ _) (q0 rfl)) rfl rfl rfl rfl ?_
  refine xVT (e_le (q1 rfl) (q1 rfl)) rfl rfl rfl rfl ?_
  refine xV (e_and (q0 rfl) rfl (fun h => by first | rfl | (rw [h]; rfl))) rfl rfl ?_
  refine xV (e_as (v := .bool _) (q0 rfl)) rfl rfl ?_
  refine XN ?_
  refine thenJ_normal ?_
  refine H_ret ?_
  exact ret1 (v := .bool _) rfl rfl rfl fun w' hw => ⟨rfl, hw.1⟩
/-- the text of a number -/
def txt (n : Int) : ByteArray := ⟨(Go.Lib.itoa n).toArray⟩
theorem txt_neg {n : Int} (h : n < 0) : txt n = ⟨#[45]⟩ ++ txt (-n) := by
  unfold txt
  have h1 : Go.Lib.itoa n = 45 :: Go.Lib.itoa (-n) := by
    unfold Go.Lib.itoa
    rw [if_pos h, if_neg (by omega)]
    congr 2
    omega
  rw [h1]
  apply ByteArray.ext
  simp
theorem txt_size {n : Int} (h0 : -1125899906842624 ≤ n) (h1 : n ≤ 1125899906842624) : 1 ≤ (txt n).size ∧ (txt n).size ≤ 17 := by
  have e : (txt n).size = (Go.Lib.itoa n).length := by unfold txt; simp [ByteArray.size]
  rw [e]
  unfold Go.Lib.itoa
  have hb : ∀ u : Nat, u ≤ 1125899906842624 → 1 ≤ (Go.Lib.decDigits u).length ∧ (Go.Lib.decDigits u).length ≤ 16 := fun u hu => by
    rw [Go.Lib.decDigits_length]
    exact ⟨Go.Lib.nDigits_pos u, nd_le 15 u (by omega)⟩
  split
  · have := hb n.natAbs (by omega)
    simp only [List.length_cons]; omega
  · have := hb n.toNat (by omega)
    omega
set_option maxRecDepth 20000 in
theorem nformat_w (n : Int) (w : World) (hl : Lw w) (h0 : -1125899906842624 ≤ n) (h1 : n ≤ 1125899906842624) : Calls Tryz.prog 52 #[.int .i64 n, .int .i64 0] w fun e w' => e = .returned (.string (txt n)) ∧ Blw w w' := by
  have hmx : (if n < -n then -n else n) = if n < 0 then -n else n := by split <;> split <;> omega
  have hsz := txt_size (n := if n < 0 then -n else n) (by split <;> omega) (by split <;> omega)
  refine H_enterP0 Tryz.func52 rfl Tryz.ntmps52 rfl ?_
  refine H_seq ?_
  refine R0 ?_
  refine xV (e_as (v := .string _) (q0 rfl)) rfl rfl ?_
  refine XN ?_
  refine thenJ_normal ?_
  refine H_seq ?_
  refine R0 ?_
  refine xV (e_mv (v := .int _ _) (q0 rfl)) rfl rfl ?_
  refine xV (e_mv (v := .int _ _) (q0 rfl)) rfl rfl ?_
  refine xV (e_ng (q0 rfl) (fun _ => ⟨by omega, by omega⟩)) rfl rfl ?_
  refine xV (v := .int .i64 (if n < 0 then -n else n)) (by rw [← hmx]; exact e_max (q0 rfl) (q0 rfl)) rfl rfl ?_
  refine xC0 rfl (en Tryz.call89 (ha1 (q0 rfl))) (fun w hw => itoa_w _ w (by split <;> omega) (by split <;> omega) (hl.und.mem hw)) rfl rfl ?_
  generalize hT : (⟨(Go.Lib.itoa (if n < 0 then -n else n)).toArray⟩ : ByteArray) = T
  have hT2 : T = txt (if n < 0 then -n else n) := hT.symm
  rw [← hT2] at hsz
  refine xV (e_as (v := .string _) (q0 rfl)) rfl rfl ?_
  refine XN ?_
  refine thenJ_normal ?_
  refine H_seq ?_
  refine H_seq ?_
  refine R0 ?_
  refine xV (e_mv (v := .int _ _) (q0 rfl)) rfl rfl ?_
  refine xV (e_add (q0 rfl) (q0 rfl) (fun _ => ⟨rfl, by omega, by omega⟩)) rfl rfl ?_
  refine xV (e_mv (v := .string _) (q0 rfl)) rfl rfl ?_
  refine xV (e_lenStr Tryz.underlying9 (q0 rfl)) rfl rfl ?_
  refine xV (e_sub (q0 rfl) (q0 rfl) (fun _ => ⟨rfl, by omega, by omega⟩)) rfl rfl ?_
  refine xV (e_as (v := .int _ _) (q0 rfl)) rfl rfl ?_
  refine XN ?_
  refine thenJ_normal ?_
  refine H_seq ?_
  refine R0 ?_
  refine xV (e_mv (v := .int _ _) (q0 rfl)) rfl rfl ?_
  refine xV (e_gt (q0 rfl) (q0 rfl)) rfl rfl ?_
  refine XN ?_
  refine thenJ_normal ?_
  refine H_cond rfl (fun hm => ?_) (fun hm => ?_)
  · exfalso
    simp at hm
    omega
  · refine H_skip ?_
    refine thenJ_normal ?_
    refine H_seq ?_
    refine H_seq ?_
    refine R0 ?_
    refine xV (e_mv (v := .int _ _) (q0 rfl)) rfl rfl ?_
    refine xV (e_gt (q0 rfl) (q0 rfl)) rfl rfl ?_
    refine XN ?_
    refine thenJ_normal ?_
    refine H_cond rfl (fun hq => ?_) (fun hq => ?_)
    · exfalso
      simp at hq
    · refine H_skip ?_
      refine thenJ_normal ?_
      refine H_seq ?_
      refine H_seq ?_
      refine R0 ?_
      refine xV (e_mv (v := .int _ _) (q0 rfl)) rfl rfl ?_
      refine xV (e_lt (q0 rfl) (q0 rfl)) rfl rfl ?_
      refine XN ?_
      refine thenJ_normal ?_
      refine H_cond rfl (fun hn => ?_) (fun hn => ?_)
      · have hn' : n < 0 := by simpa using hn
        refine H_seq ?_
        refine R0 ?_
        refine xV (e_mv (v := .string _) (q0 rfl)) rfl rfl ?_
        refine xV (e_cat (q0 rfl) (q0 rfl) (fun _ => by have h1 := hsz.2; have h2 : (⟨#[45]⟩ : ByteArray).size = 1 := rfl; omega)) rfl rfl ?_
        refine xV (e_as (v := .string _) (q0 rfl)) rfl rfl ?_
        refine XN ?_
        refine thenJ_normal ?_
        refine H_ret ?_
        refine thenJ_ret ?_
        exact retP_of rfl (res1 (v := .string _) rfl rfl) fun w' hw => ⟨by rw [txt_neg hn', hT2, if_pos hn'], blw_of hw⟩
      · have hn' : ¬n < 0 := by simpa using hn
        refine H_skip ?_
        refine thenJ_normal ?_
        refine H_seq ?_
        refine R0 ?_
        refine xV (e_mv (v := .string _) (q0 rfl)) rfl rfl ?_
        refine xV (e_as (v := .string _) (q0 rfl)) rfl rfl ?_
        refine XN ?_
        refine thenJ_normal ?_
        refine H_ret ?_
        exact retP_of rfl (res1 (v := .string _) rfl rfl) fun w' hw => ⟨by rw [hT2, if_neg hn'], blw_of hw⟩
/-- the number that a text spells, if any -/
def numL (s : ByteArray) : Option Int := match Go.Lib.atoiAll s.data.toList with
  | .ok v => if -1125899906842624 ≤ v ∧ v ≤ 1125899906842624 ∧ Go.Lib.itoa v = s.data.toList then some v else none
  | _ => none
theorem str_eq (a b : ByteArray) : (a.toList == b.toList) = decide (a.data.toList = b.data.toList) := by
  rw [Go.Lib.toList_data, Go.Lib.toList_data]
  rw [Bool.eq_iff_iff]; simp
theorem txt_data (n : Int) : (txt n).data.toList = Go.Lib.itoa n := by unfold txt; simp
set_option maxRecDepth 20000 in
set_option maxHeartbeats 1000000 in
theorem nparseOk_w (s : ByteArray) (v : Int) (w : World) (hl : Lw w) (hs : s.size ≤ 1000) (h : numL s = some v) : Calls Tryz.prog 36 #[.string s, .int .i64 0] w fun e w' => e = .returned (.tuple #[.int .i64 v, .int .i64 0]) ∧ Blw w w' := by
  obtain ⟨ha, h0, h1, h2⟩ : Go.Lib.atoiAll s.data.toList = .ok v ∧ -1125899906842624 ≤ v ∧ v ≤ 1125899906842624 ∧ Go.Lib.itoa v = s.data.toList := by
    unfold numL at h
    split at h
    · rename_i u hu
      split at h
      · rename_i hc
        cases h
        exact ⟨hu, hc⟩
      · cases h
    · cases h
  refine H_enterP0 Tryz.func36 rfl Tryz.ntmps36 rfl ?_
  refine H_seq ?_
  refine R0 ?_
  refine xV (e_as (v := .int _ _) (q0 rfl)) rfl rfl ?_
  refine xV (e_as (v := .int _ _) (q0 rfl)) rfl rfl ?_
  refine XN ?_
  refine thenJ_normal ?_
  refine H_seq ?_
  refine H_seq ?_
  refine R0 ?_
  refine xV (e_mv (v := .int _ _) (q0 rfl)) rfl rfl ?_
  refine xC (en Tryz.call49 (ha3 (q0 rfl) (q0 rfl) (q0 rfl))) (fun _ w _ => nin_w 0 0 6 w) rfl rfl ?_
  refine xV (e_not (q0 rfl)) rfl rfl ?_
  refine XN ?_
  refine thenJ_normal ?_
  refine H_cond rfl (fun h3 => ?_) (fun h3 => ?_)
  · exfalso
    simp at h3
  · refine H_skip ?_
    refine thenJ_normal ?_
    refine H_seq ?_
    refine R0 ?_
    refine xV (e_mv (v := .string _) (q0 rfl)) rfl rfl ?_
    refine xV (e_as (v := .string _) (q0 rfl)) rfl rfl ?_
    refine XN ?_
    refine thenJ_normal ?_
    refine H_seq ?_
    refine H_seq ?_
    refine R0 ?_
    refine xV (e_mv (v := .string _) (q0 rfl)) rfl rfl ?_
    refine xV (e_lenStr Tryz.underlying9 (q0 rfl)) rfl rfl ?_
    refine xV (e_mv (v := .int _ _) (q0 rfl)) rfl rfl ?_
    refine xV (e_sub (q0 rfl) (q0 rfl) (fun _ => ⟨rfl, by omega, by omega⟩)) rfl rfl ?_
    refine xV (e_sub (q0 rfl) (q0 rfl) (fun _ => ⟨rfl, by omega, by omega⟩)) rfl rfl ?_
    refine xV (e_as (v := .int _ _) (q0 rfl)) rfl rfl ?_
    refine XN ?_
    refine thenJ_normal ?_
    refine H_seq ?_
    refine R0 ?_
    refine xV (e_mv (v := .int _ _) (q0 rfl)) rfl rfl ?_
    refine xV (e_gt (q0 rfl) (q0 rfl)) rfl rfl ?_
    refine xV (e_mv (v := .bool _) (q0 rfl)) rfl rfl ?_
    refine xVT (e_mv (v := .int _ _) (q0 rfl)) rfl rfl rfl rfl ?_
    refine xVT (e_ge (q1 rfl) (q0 rfl)) rfl rfl rfl rfl ?_
    refine xV (e_and (q0 rfl) rfl (fun h => by first | rfl | (rw [h]; rfl))) rfl rfl ?_
    refine XN ?_
    refine thenJ_normal ?_
    refine H_cond rfl (fun h4 => ?_) (fun h4 => ?_)
    · exfalso
      simp at h4
    · refine H_skip ?_
      refine thenJ_normal ?_
      refine H_seq ?_
      refine R0 ?_
      refine xV (e_mv (v := .string _) (q0 rfl)) rfl rfl ?_
      refine xC0 rfl (en Tryz.call50 (ha1 (q0 rfl))) (fun w _ => atoiOk_w s v w hs ha) rfl rfl ?_
      refine xV (e_mv (q0 rfl)) rfl rfl ?_
      refine xV (e_ext (q0 rfl) rfl) rfl rfl ?_
      refine xV (e_ext (q0 rfl) rfl) rfl rfl ?_
      refine xV (e_as (v := .int _ _) (q0 rfl)) rfl rfl ?_
      refine xV (e_as (q0 rfl)) rfl rfl ?_
      refine XN ?_
      refine thenJ_normal ?_
      refine H_seq ?_
      refine H_seq ?_
      refine R0 ?_
      refine xV (e_mv (q0 rfl)) rfl rfl ?_
      refine xV (e_neNilI0 Tryz.underlying129 (q0 rfl)) rfl rfl ?_
      refine xV (e_mv (v := .bool _) (q0 rfl)) rfl rfl ?_
      refine xVF (e_mv (v := .int _ _) (q0 rfl)) rfl rfl rfl rfl ?_
      refine xCF (en Tryz.call51 (ha1 (q1 (v := .int _ _) rfl))) (fun _ w _ => valid_w v w) rfl rfl rfl rfl ?_
      refine xVF (e_not (q1 rfl)) rfl rfl rfl rfl ?_
      refine xV (e_or (q0 rfl) rfl (fun h => by first | rfl | (rw [h]; rfl))) rfl rfl ?_
      refine xV (e_mv (v := .bool _) (q0 rfl)) rfl rfl ?_
      refine xVF (e_mv (v := .int _ _) (q0 rfl)) rfl rfl rfl rfl ?_
      refine xVF (e_mv (v := .int _ _) (q0 rfl)) rfl rfl rfl rfl ?_
      refine xCF0 rfl (en Tryz.call52 (ha2 (q1 (v := .int _ _) rfl) (q1 (v := .int _ _) rfl))) (fun _ w hw => nformat_w v w (hl.und.mem hw) h0 h1) rfl rfl rfl rfl ?_
      refine xVF (e_mv (v := .string _) (q0 rfl)) rfl rfl rfl rfl ?_
      refine xVF (e_neStr (q1 rfl) (q1 rfl)) rfl rfl rfl rfl ?_
      refine xV (e_or (q0 rfl) rfl (fun h => by first | rfl | (rw [h]; rfl))) rfl rfl ?_
      refine XN ?_
      refine thenJ_normal ?_
      refine H_cond rfl (fun h5 => ?_) (fun h5 => ?_)
      · exfalso
        have h6 : ((false || !(decide (-1125899906842624 ≤ v) && decide (v ≤ 1125899906842624))) || !((txt v).toList == s.toList)) = true := h5
        rw [str_eq, txt_data] at h6
        simp [h0, h1, h2] at h6
      · refine H_skip ?_
        refine thenJ_normal ?_
        refine H_seq ?_
        refine R0 ?_
        refine xV (e_mv (v := .int _ _) (q0 rfl)) rfl rfl ?_
        refine xV (e_as (v := .int _ _) (q0 rfl)) rfl rfl ?_
        refine xV (e_as (v := .int _ _) (q0 rfl)) rfl rfl ?_
        refine XN ?_
        refine thenJ_normal ?_
        refine H_ret ?_
        exact retP_of rfl (res2 (v := .int _ _) (x := .int _ _) rfl rfl rfl) fun w' hw => ⟨rfl, blw_of hw⟩
set_option maxRecDepth 20000 in
set_option maxHeartbeats 1000000 in
theorem nparseBad_w (s : ByteArray) (w : World) (hl : Lw w) (hs : s.size ≤ 1000) (h : numL s = none) : Calls Tryz.prog 36 #[.string s, .int .i64 0] w fun e w' => e = .returned (.tuple #[.int .i64 0, .int .i64 3]) ∧ Blw w w' := by
  by_cases ha : ∃ v, Go.Lib.atoiAll s.data.toList = .ok v
  · obtain ⟨v, ha⟩ := ha
    have hc : ¬(-1125899906842624 ≤ v ∧ v ≤ 1125899906842624 ∧ Go.Lib.itoa v = s.data.toList) := fun hc => by
      unfold numL at h
      rw [ha] at h
      simp only at h
      rw [if_pos hc] at h
      cases h
    refine H_enterP0 Tryz.func36 rfl Tryz.ntmps36 rfl ?_
    refine H_seq ?_
    refine R0 ?_
    refine xV (e_as (v := .int _ _) (q0 rfl)) rfl rfl ?_
    refine xV (e_as (v := .int _ _) (q0 rfl)) rfl rfl ?_
    refine XN ?_
    refine thenJ_normal ?_
    refine H_seq ?_
    refine H_seq ?_
    refine R0 ?_
    refine xV (e_mv (v := .int _ _) (q0 rfl)) rfl rfl ?_
    refine xC (en Tryz.call49 (ha3 (q0 rfl) (q0 rfl) (q0 rfl))) (fun _ w _ => nin_w 0 0 6 w) rfl rfl ?_
    refine xV (e_not (q0 rfl)) rfl rfl ?_
    refine XN ?_
    refine thenJ_normal ?_
    refine H_cond rfl (fun h3 => ?_) (fun h3 => ?_)
    · exfalso
      simp at h3
    · refine H_skip ?_
      refine thenJ_normal ?_
      refine H_seq ?_
      refine R0 ?_
      refine xV (e_mv (v := .string _) (q0 rfl)) rfl rfl ?_
      refine xV (e_as (v := .string _) (q0 rfl)) rfl rfl ?_
      refine XN ?_
      refine thenJ_normal ?_
      refine H_seq ?_
      refine H_seq ?_
      refine R0 ?_
      refine xV (e_mv (v := .string _) (q0 rfl)) rfl rfl ?_
      refine xV (e_lenStr Tryz.underlying9 (q0 rfl)) rfl rfl ?_
      refine xV (e_mv (v := .int _ _) (q0 rfl)) rfl rfl ?_
      refine xV (e_sub (q0 rfl) (q0 rfl) (fun _ => ⟨rfl, by omega, by omega⟩)) rfl rfl ?_
      refine xV (e_sub (q0 rfl) (q0 rfl) (fun _ => ⟨rfl, by omega, by omega⟩)) rfl rfl ?_
      refine xV (e_as (v := .int _ _) (q0 rfl)) rfl rfl ?_
      refine XN ?_
      refine thenJ_normal ?_
      refine H_seq ?_
      refine R0 ?_
      refine xV (e_mv (v := .int _ _) (q0 rfl)) rfl rfl ?_
      refine xV (e_gt (q0 rfl) (q0 rfl)) rfl rfl ?_
      refine xV (e_mv (v := .bool _) (q0 rfl)) rfl rfl ?_
      refine xVT (e_mv (v := .int _ _) (q0 rfl)) rfl rfl rfl rfl ?_
      refine xVT (e_ge (q1 rfl) (q0 rfl)) rfl rfl rfl rfl ?_
      refine xV (e_and (q0 rfl) rfl (fun h => by first | rfl | (rw [h]; rfl))) rfl rfl ?_
      refine XN ?_
      refine thenJ_normal ?_
      refine H_cond rfl (fun h4 => ?_) (fun h4 => ?_)
      · exfalso
        simp at h4
      · refine H_skip ?_
        refine thenJ_normal ?_
        refine H_seq ?_
        refine R0 ?_
        refine xV (e_mv (v := .string _) (q0 rfl)) rfl rfl ?_
        refine xC0 rfl (en Tryz.call50 (ha1 (q0 rfl))) (fun w _ => atoiOk_w s v w hs ha) rfl rfl ?_
        refine xV (e_mv (q0 rfl)) rfl rfl ?_
        refine xV (e_ext (q0 rfl) rfl) rfl rfl ?_
        refine xV (e_ext (q0 rfl) rfl) rfl rfl ?_
        refine xV (e_as (v := .int _ _) (q0 rfl)) rfl rfl ?_
        refine xV (e_as (q0 rfl)) rfl rfl ?_
        refine XN ?_
        refine thenJ_normal ?_
        refine H_seq ?_
        refine H_seq ?_
        refine R0 ?_
        refine xV (e_mv (q0 rfl)) rfl rfl ?_
        refine xV (e_neNilI0 Tryz.underlying129 (q0 rfl)) rfl rfl ?_
        refine xV (e_mv (v := .bool _) (q0 rfl)) rfl rfl ?_
        refine xVF (e_mv (v := .int _ _) (q0 rfl)) rfl rfl rfl rfl ?_
        refine xCF (en Tryz.call51 (ha1 (q1 (v := .int _ _) rfl))) (fun _ w _ => valid_w v w) rfl rfl rfl rfl ?_
        refine xVF (e_not (q1 rfl)) rfl rfl rfl rfl ?_
        refine xV (e_or (q0 rfl) rfl (fun h => by first | rfl | (rw [h]; rfl))) rfl rfl ?_
        refine xV (e_mv (v := .bool _) (q0 rfl)) rfl rfl ?_
        refine xVF (e_mv (v := .int _ _) (q0 rfl)) rfl rfl rfl rfl ?_
        refine xVF (e_mv (v := .int _ _) (q0 rfl)) rfl rfl rfl rfl ?_
        refine xCF0 rfl (en Tryz.call52 (ha2 (q1 (v := .int _ _) rfl) (q1 (v := .int _ _) rfl))) (fun hg w hw => nformat_w v w (hl.und.mem hw) (by simp at hg; omega) (by simp at hg; omega)) rfl rfl rfl rfl ?_
        refine xVF (e_mv (v := .string _) (q0 rfl)) rfl rfl rfl rfl ?_
        refine xVF (e_neStr (q1 rfl) (q1 rfl)) rfl rfl rfl rfl ?_
        refine xV (e_or (q0 rfl) rfl (fun h => by first | rfl | (rw [h]; rfl))) rfl rfl ?_
        refine XN ?_
        refine thenJ_normal ?_
        refine H_cond rfl (fun h5 => ?_) (fun h5 => ?_)
        · refine H_seq ?_
          refine R0 ?_
          refine xV (e_as (v := .int _ _) (q0 rfl)) rfl rfl ?_
          refine xV (e_as (v := .int _ _) (q0 rfl)) rfl rfl ?_
          refine XN ?_
          refine thenJ_normal ?_
          refine H_ret ?_
          refine thenJ_ret ?_
          exact retP_of rfl (res2 (v := .int _ _) (x := .int _ _) rfl rfl rfl) fun w' hw => ⟨rfl, blw_of hw⟩
        · exfalso
          have h6 : ((false || !(decide (-1125899906842624 ≤ v) && decide (v ≤ 1125899906842624))) || !((txt v).toList == s.toList)) = false := h5
          rw [str_eq, txt_data] at h6
          simp at h6
          exact hc ⟨h6.1.1, h6.1.2, h6.2⟩
  · have ha' : ∀ v, Go.Lib.atoiAll s.data.toList ≠ .ok v := fun v e => ha ⟨v, e⟩
    refine H_enterP0 Tryz.func36 rfl Tryz.ntmps36 rfl ?_
    refine H_seq ?_
    refine R0 ?_
    refine xV (e_as (v := .int _ _) (q0 rfl)) rfl rfl ?_
    refine xV (e_as (v := .int _ _) (q0 rfl)) rfl rfl ?_
    refine XN ?_
    refine thenJ_normal ?_
    refine H_seq ?_
    refine H_seq ?_
    refine R0 ?_
    refine xV (e_mv (v := .int _ _) (q0 rfl)) rfl rfl ?_
    refine xC (en Tryz.call49 (ha3 (q0 rfl) (q0 rfl) (q0 rfl))) (fun _ w _ => nin_w 0 0 6 w) rfl rfl ?_
    refine xV (e_not (q0 rfl)) rfl rfl ?_
    refine XN ?_
    refine thenJ_normal ?_
    refine H_cond rfl (fun h3 => ?_) (fun h3 => ?_)
    · exfalso
      simp at h3
    · refine H_skip ?_
      refine thenJ_normal ?_
      refine H_seq ?_
      refine R0 ?_
      refine xV (e_mv (v := .string _) (q0 rfl)) rfl rfl ?_
      refine xV (e_as (v := .string _) (q0 rfl)) rfl rfl ?_
      refine XN ?_
      refine thenJ_normal ?_
      refine H_seq ?_
      refine H_seq ?_
      refine R0 ?_
      refine xV (e_mv (v := .string _) (q0 rfl)) rfl rfl ?_
      refine xV (e_lenStr Tryz.underlying9 (q0 rfl)) rfl rfl ?_
      refine xV (e_mv (v := .int _ _) (q0 rfl)) rfl rfl ?_
      refine xV (e_sub (q0 rfl) (q0 rfl) (fun _ => ⟨rfl, by omega, by omega⟩)) rfl rfl ?_
      refine xV (e_sub (q0 rfl) (q0 rfl) (fun _ => ⟨rfl, by omega, by omega⟩)) rfl rfl ?_
      refine xV (e_as (v := .int _ _) (q0 rfl)) rfl rfl ?_
      refine XN ?_
      refine thenJ_normal ?_
      refine H_seq ?_
      refine R0 ?_
      refine xV (e_mv (v := .int _ _) (q0 rfl)) rfl rfl ?_
      refine xV (e_gt (q0 rfl) (q0 rfl)) rfl rfl ?_
      refine xV (e_mv (v := .bool _) (q0 rfl)) rfl rfl ?_
      refine xVT (e_mv (v := .int _ _) (q0 rfl)) rfl rfl rfl rfl ?_
      refine xVT (e_ge (q1 rfl) (q0 rfl)) rfl rfl rfl rfl ?_
      refine xV (e_and (q0 rfl) rfl (fun h => by first | rfl | (rw [h]; rfl))) rfl rfl ?_
      refine XN ?_
      refine thenJ_normal ?_
      refine H_cond rfl (fun h4 => ?_) (fun h4 => ?_)
      · exfalso
        simp at h4
      · refine H_skip ?_
        refine thenJ_normal ?_
        refine H_seq ?_
        refine R0 ?_
        refine xV (e_mv (v := .string _) (q0 rfl)) rfl rfl ?_
        refine xCX0 rfl (en Tryz.call50 (ha1 (q0 rfl))) (fun w hw => atoiBad_w s w hs (hl.und.mem hw) ha') rfl (fun _ => rfl) fun x => ?_
        refine xV (e_mv (q0 rfl)) rfl rfl ?_
        refine xV (e_ext (q0 rfl) rfl) rfl rfl ?_
        refine xV (e_ext (q0 rfl) rfl) rfl rfl ?_
        refine xV (e_as (v := .int _ _) (q0 rfl)) rfl rfl ?_
        refine xV (e_as (q0 rfl)) rfl rfl ?_
        refine XN ?_
        refine thenJ_normal ?_
        refine H_seq ?_
        refine H_seq ?_
        refine R0 ?_
        refine xV (e_mv (q0 rfl)) rfl rfl ?_
        refine xV (e_neNilI1 Tryz.underlying129 (q0 rfl)) rfl rfl ?_
        refine xV (e_mv (v := .bool _) (q0 rfl)) rfl rfl ?_
        refine xVF (e_mv (v := .int _ _) (q0 rfl)) rfl rfl rfl rfl ?_
        refine xCF (v := .bool true) (en Tryz.call51 (ha1 (q1 (v := .int _ _) rfl))) (fun hg => by simp at hg) rfl rfl rfl rfl ?_
        refine xVF (e_not (q1 rfl)) rfl rfl rfl rfl ?_
        refine xV (e_or (q0 rfl) rfl (fun h => by first | rfl | (rw [h]; rfl))) rfl rfl ?_
        refine xV (e_mv (v := .bool _) (q0 rfl)) rfl rfl ?_
        refine xVF (e_mv (v := .int _ _) (q0 rfl)) rfl rfl rfl rfl ?_
        refine xVF (e_mv (v := .int _ _) (q0 rfl)) rfl rfl rfl rfl ?_
        refine xCF0 (v := .string s) rfl (en Tryz.call52 (ha2 (q1 (v := .int _ _) rfl) (q1 (v := .int _ _) rfl))) (fun hg => by simp at hg) rfl rfl rfl rfl ?_
        refine xVF (e_mv (v := .string _) (q0 rfl)) rfl rfl rfl rfl ?_
        refine xVF (e_neStr (q1 rfl) (q1 rfl)) rfl rfl rfl rfl ?_
        refine xV (e_or (q0 rfl) rfl (fun h => by first | rfl | (rw [h]; rfl))) rfl rfl ?_
        refine XN ?_
        refine thenJ_normal ?_
        refine H_cond rfl (fun h5 => ?_) (fun h5 => ?_)
        · refine H_seq ?_
          refine R0 ?_
          refine xV (e_as (v := .int _ _) (q0 rfl)) rfl rfl ?_
          refine xV (e_as (v := .int _ _) (q0 rfl)) rfl rfl ?_
          refine XN ?_
          refine thenJ_normal ?_
          refine H_ret ?_
          refine thenJ_ret ?_
          exact retP_of rfl (res2 (v := .int _ _) (x := .int _ _) rfl rfl rfl) fun w' hw => ⟨rfl, blw_of hw⟩
        · exfalso
          simp at h5
theorem nFormatOk_w (n : Int) (w : World) (hl : Lw w) (h0 : -1125899906842624 ≤ n) (h1 : n ≤ 1125899906842624) : Calls Tryz.prog 37 #[.int .i64 n, .int .i64 0] w fun e w' => e = .returned (.tuple #[.string (txt n), .int .i64 0]) ∧ Blw w w' := by
  refine H_enterP0 Tryz.func37 rfl Tryz.ntmps37 rfl ?_
  refine H_seq ?_
  refine R0 ?_
  refine xV (e_as (v := .string _) (q0 rfl)) rfl rfl ?_
  refine xV (e_as (v := .int _ _) (q0 rfl)) rfl rfl ?_
  refine XN ?_
  refine thenJ_normal ?_
  refine H_seq ?_
  refine H_seq ?_
  refine R0 ?_
  refine xV (e_mv (v := .int _ _) (q0 rfl)) rfl rfl ?_
  refine xC (en Tryz.call51 (ha1 (q0 rfl))) (fun _ w _ => valid_w n w) rfl rfl ?_
  refine xV (e_not (q0 rfl)) rfl rfl ?_
  refine xV (e_mv (v := .bool _) (q0 rfl)) rfl rfl ?_
  refine xVF (e_mv (v := .int _ _) (q0 rfl)) rfl rfl rfl rfl ?_
  refine xCF (en Tryz.call49 (ha3 (q1 (v := .int _ _) rfl) (q0 rfl) (q0 rfl))) (fun _ w _ => nin_w 0 0 6 w) rfl rfl rfl rfl ?_
  refine xVF (e_not (q1 rfl)) rfl rfl rfl rfl ?_
  refine xV (e_or (q0 rfl) rfl (fun h => by first | rfl | (rw [h]; rfl))) rfl rfl ?_
  refine XN ?_
  refine thenJ_normal ?_
  refine H_cond rfl (fun h3 => ?_) (fun h3 => ?_)
  · exfalso
    simp [h0, h1] at h3
  · refine H_skip ?_
    refine thenJ_normal ?_
    refine H_seq ?_
    refine R0 ?_
    refine xV (e_mv (v := .int _ _) (q0 rfl)) rfl rfl ?_
    refine xV (e_mv (v := .int _ _) (q0 rfl)) rfl rfl ?_
    refine xC0 rfl (en Tryz.call52 (ha2 (q0 rfl) (q0 rfl))) (fun w hw => nformat_w n w (hl.und.mem hw) h0 h1) rfl rfl ?_
    refine xV (e_as (v := .string _) (q0 rfl)) rfl rfl ?_
    refine xV (e_as (v := .int _ _) (q0 rfl)) rfl rfl ?_
    refine XN ?_
    refine thenJ_normal ?_
    refine H_ret ?_
    exact retP_of rfl (res2 (v := .string _) (x := .int _ _) rfl rfl rfl) fun w' hw => ⟨rfl, blw_of hw⟩
theorem nFormatBad_w (n : Int) (w : World) (h : ¬(-1125899906842624 ≤ n ∧ n ≤ 1125899906842624)) : Calls Tryz.prog 37 #[.int .i64 n, .int .i64 0] w fun e w' => e = .returned (.tuple #[.string ⟨#[]⟩, .int .i64 1]) ∧ Blw w w' := by
  refine H_enterP0 Tryz.func37 rfl Tryz.ntmps37 rfl ?_
  refine H_seq ?_
  refine R0 ?_
  refine xV (e_as (v := .string _) (q0 rfl)) rfl rfl ?_
  refine xV (e_as (v := .int _ _) (q0 rfl)) rfl rfl ?_
  refine XN ?_
  refine thenJ_normal ?_
  refine H_seq ?_
  refine H_seq ?_
  refine R0 ?_
  refine xV (e_mv (v := .int _ _) (q0 rfl)) rfl rfl ?_
  refine xC (en Tryz.call51 (ha1 (q0 rfl))) (fun _ w _ => valid_w n w) rfl rfl ?_
  refine xV (e_not (q0 rfl)) rfl rfl ?_
  refine xV (e_mv (v := .bool _) (q0 rfl)) rfl rfl ?_
  refine xVF (e_mv (v := .int _ _) (q0 rfl)) rfl rfl rfl rfl ?_
  refine xCF (en Tryz.call49 (ha3 (q1 (v := .int _ _) rfl) (q0 rfl) (q0 rfl))) (fun _ w _ => nin_w 0 0 6 w) rfl rfl rfl rfl ?_
  refine xVF (e_not (q1 rfl)) rfl rfl rfl rfl ?_
  refine xV (e_or (q0 rfl) rfl (fun h => by first | rfl | (rw [h]; rfl))) rfl rfl ?_
  refine XN ?_
  refine thenJ_normal ?_
  refine H_cond rfl (fun h3 => ?_) (fun h3 => ?_)
  · refine H_seq ?_
    refine R0 ?_
    refine xV (e_as (v := .string _) (q0 rfl)) rfl rfl ?_
    refine xV (e_as (v := .int _ _) (q0 rfl)) rfl rfl ?_
    refine XN ?_
    refine thenJ_normal ?_
    refine H_ret ?_
    refine thenJ_ret ?_
    exact retP_of rfl (res2 (v := .string _) (x := .int _ _) rfl rfl rfl) fun w' hw => ⟨rfl, blw_of hw⟩
  · exfalso
    simp at h3
    omega
/-- the fault that is raised -/
def flt (e : Int) : List PanicEntry := [{ v := .iface 76 (.agg #[.int .i64 e]), recovered := false }]
theorem fl76 {fs : Array Field} (h : Tryz.prog.underlying 76 = some (.struct fs) := by exact Tryz.underlying76) : FieldsLie Tryz.prog fs [(0, 1)] := by
  rw [Tryz.underlying76] at h
  cases h
  intro w
  kernel_rfl
theorem numberOk_w (s : ByteArray) (v : Int) (w : World) (hl : Lw w) (hs : s.size ≤ 1000) (h : numL s = some v) : Calls Tryz.prog 18 #[.string s] w fun e w' => e = .returned (.int .i64 v) ∧ Blw w w' := by
  refine H_enterP0 Tryz.func18 rfl Tryz.ntmps18 rfl ?_
  refine H_seq ?_
  refine R0 ?_
  refine xV (e_as (v := .int _ _) (q0 rfl)) rfl rfl ?_
  refine XN ?_
  refine thenJ_normal ?_
  refine H_seq ?_
  refine R0 ?_
  refine xV (e_mv (v := .string _) (q0 rfl)) rfl rfl ?_
  refine xC0 rfl (en Tryz.call36 (ha2 (q0 rfl) (q0 rfl))) (fun w hw => nparseOk_w s v w (hl.und.mem hw) hs h) rfl rfl ?_
  refine xV (e_mv (q0 rfl)) rfl rfl ?_
  refine xV (e_ext (q0 rfl) rfl) rfl rfl ?_
  refine xV (e_ext (q0 rfl) rfl) rfl rfl ?_
  refine xV (e_as (v := .int _ _) (q0 rfl)) rfl rfl ?_
  refine xV (e_as (v := .int _ _) (q0 rfl)) rfl rfl ?_
  refine XN ?_
  refine thenJ_normal ?_
  refine H_seq ?_
  refine H_seq ?_
  refine R0 ?_
  refine xV (e_mv (v := .int _ _) (q0 rfl)) rfl rfl ?_
  refine xV (e_ne (q0 rfl) (q0 rfl)) rfl rfl ?_
  refine XN ?_
  refine thenJ_normal ?_
  refine H_cond rfl (fun h3 => ?_) (fun h3 => ?_)
  · exfalso
    simp at h3
  · refine H_skip ?_
    refine thenJ_normal ?_
    refine H_seq ?_
    refine R0 ?_
    refine xV (e_mv (v := .int _ _) (q0 rfl)) rfl rfl ?_
    refine xV (e_as (v := .int _ _) (q0 rfl)) rfl rfl ?_
    refine XN ?_
    refine thenJ_normal ?_
    refine H_ret ?_
    exact retP_of rfl (res1 (v := .int _ _) rfl rfl) fun w' hw => ⟨rfl, blw_of hw⟩
theorem numberBad_w (s : ByteArray) (w : World) (hl : Lw w) (hs : s.size ≤ 1000) (h : numL s = none) : Calls Tryz.prog 18 #[.string s] w fun e w' => e = .panicked (flt 3) ∧ Blw w w' := by
  refine H_enterP0 Tryz.func18 rfl Tryz.ntmps18 rfl ?_
  refine H_seq ?_
  refine R0 ?_
  refine xV (e_as (v := .int _ _) (q0 rfl)) rfl rfl ?_
  refine XN ?_
  refine thenJ_normal ?_
  refine H_seq ?_
  refine R0 ?_
  refine xV (e_mv (v := .string _) (q0 rfl)) rfl rfl ?_
  refine xC0 rfl (en Tryz.call36 (ha2 (q0 rfl) (q0 rfl))) (fun w hw => nparseBad_w s w (hl.und.mem hw) hs h) rfl rfl ?_
  refine xV (e_mv (q0 rfl)) rfl rfl ?_
  refine xV (e_ext (q0 rfl) rfl) rfl rfl ?_
  refine xV (e_ext (q0 rfl) rfl) rfl rfl ?_
  refine xV (e_as (v := .int _ _) (q0 rfl)) rfl rfl ?_
  refine xV (e_as (v := .int _ _) (q0 rfl)) rfl rfl ?_
  refine XN ?_
  refine thenJ_normal ?_
  refine H_seq ?_
  refine H_seq ?_
  refine R0 ?_
  refine xV (e_mv (v := .int _ _) (q0 rfl)) rfl rfl ?_
  refine xV (e_ne (q0 rfl) (q0 rfl)) rfl rfl ?_
  refine XN ?_
  refine thenJ_normal ?_
  refine H_cond rfl (fun h3 => ?_) (fun h3 => ?_)
  · refine R0 ?_
    refine xV (e_build Tryz.underlying76 fl76 Tryz.zeroValue76 (pt (v := .int _ _) rfl E.p0) rfl) rfl rfl ?_
    refine xV (e_mkI Tryz.underlying76 (by intro ms h; cases h) (q0 rfl)) rfl rfl ?_
    refine X_panic rfl ?_
    refine thenJ_panic ?_
    exact pan_of rfl fun w' hw => ⟨rfl, blw_of hw⟩
  · exfalso
    simp at h3
theorem writOk_w (n : Int) (w : World) (hl : Lw w) (h0 : -1125899906842624 ≤ n) (h1 : n ≤ 1125899906842624) : Calls Tryz.prog 24 #[.int .i64 n] w fun e w' => e = .returned (.string (txt n)) ∧ Blw w w' := by
  refine H_enterP0 Tryz.func24 rfl Tryz.ntmps24 rfl ?_
  refine H_seq ?_
  refine R0 ?_
  refine xV (e_as (v := .string _) (q0 rfl)) rfl rfl ?_
  refine XN ?_
  refine thenJ_normal ?_
  refine H_seq ?_
  refine R0 ?_
  refine xV (e_mv (v := .int _ _) (q0 rfl)) rfl rfl ?_
  refine xC0 rfl (en Tryz.call37 (ha2 (q0 rfl) (q0 rfl))) (fun w hw => nFormatOk_w n w (hl.und.mem hw) h0 h1) rfl rfl ?_
  refine xV (e_mv (q0 rfl)) rfl rfl ?_
  refine xV (e_ext (q0 rfl) rfl) rfl rfl ?_
  refine xV (e_ext (q0 rfl) rfl) rfl rfl ?_
  refine xV (e_as (v := .string _) (q0 rfl)) rfl rfl ?_
  refine xV (e_as (v := .int _ _) (q0 rfl)) rfl rfl ?_
  refine XN ?_
  refine thenJ_normal ?_
  refine H_seq ?_
  refine H_seq ?_
  refine R0 ?_
  refine xV (e_mv (v := .int _ _) (q0 rfl)) rfl rfl ?_
  refine xV (e_ne (q0 rfl) (q0 rfl)) rfl rfl ?_
  refine XN ?_
  refine thenJ_normal ?_
  refine H_cond rfl (fun h3 => ?_) (fun h3 => ?_)
  · exfalso
    simp at h3
  · refine H_skip ?_
    refine thenJ_normal ?_
    refine H_seq ?_
    refine R0 ?_
    refine xV (e_mv (v := .string _) (q0 rfl)) rfl rfl ?_
    refine xV (e_as (v := .string _) (q0 rfl)) rfl rfl ?_
    refine XN ?_
    refine thenJ_normal ?_
    refine H_ret ?_
    exact retP_of rfl (res1 (v := .string _) rfl rfl) fun w' hw => ⟨rfl, blw_of hw⟩
theorem writBad_w (n : Int) (w : World) (h : ¬(-1125899906842624 ≤ n ∧ n ≤ 1125899906842624)) : Calls Tryz.prog 24 #[.int .i64 n] w fun e w' => e = .panicked (flt 36) ∧ Blw w w' := by
  refine H_enterP0 Tryz.func24 rfl Tryz.ntmps24 rfl ?_
  refine H_seq ?_
  refine R0 ?_
  refine xV (e_as (v := .string _) (q0 rfl)) rfl rfl ?_
  refine XN ?_
  refine thenJ_normal ?_
  refine H_seq ?_
  refine R0 ?_
  refine xV (e_mv (v := .int _ _) (q0 rfl)) rfl rfl ?_
  refine xC0 rfl (en Tryz.call37 (ha2 (q0 rfl) (q0 rfl))) (fun w hw => nFormatBad_w n w h) rfl rfl ?_
  refine xV (e_mv (q0 rfl)) rfl rfl ?_
  refine xV (e_ext (q0 rfl) rfl) rfl rfl ?_
  refine xV (e_ext (q0 rfl) rfl) rfl rfl ?_
  refine xV (e_as (v := .string _) (q0 rfl)) rfl rfl ?_
  refine xV (e_as (v := .int _ _) (q0 rfl)) rfl rfl ?_
  refine XN ?_
  refine thenJ_normal ?_
  refine H_seq ?_
  refine H_seq ?_
  refine R0 ?_
  refine xV (e_mv (v := .int _ _) (q0 rfl)) rfl rfl ?_
  refine xV (e_ne (q0 rfl) (q0 rfl)) rfl rfl ?_
  refine XN ?_
  refine thenJ_normal ?_
  refine H_cond rfl (fun h3 => ?_) (fun h3 => ?_)
  · refine R0 ?_
    refine xV (e_build Tryz.underlying76 fl76 Tryz.zeroValue76 (pt (v := .int _ _) rfl E.p0) rfl) rfl rfl ?_
    refine xV (e_mkI Tryz.underlying76 (by intro ms h; cases h) (q0 rfl)) rfl rfl ?_
    refine X_panic rfl ?_
    refine thenJ_panic ?_
    exact pan_of rfl fun w' hw => ⟨rfl, blw_of hw⟩
  · exfalso
    simp at h3
end Go.Proofs.Con

/-
  The walks: a line split, the table of commands, the places of arguments, faults caught.
-/
namespace Go.Proofs.Con
open Go Go.RowKit Go.Proofs.E

def strC (s : ByteArray) : List Value := [.string s]
/-- the words of a line -/
def wordsL (s : ByteArray) : List ByteArray := Go.Lib.splitB ⟨#[32]⟩ 0 (Go.Lib.countB s ⟨#[32]⟩) s
theorem flat_strC (l : List ByteArray) : l.flatMap strC = l.map Value.string := by
  induction l with
  | nil => rfl
  | cons x l ih => simp [strC, ih]
theorem split_w (s : ByteArray) (w : World) (hl : Lw w) (hs : s.size ≤ 1000) (hn : (wordsL s).length = Go.Lib.countB s ⟨#[32]⟩ + 1) (hc : (wordsL s).length ≤ 1001) : Calls Tryz.prog 16 #[.string s, .string ⟨#[32]⟩] w fun e w' => ∃ b : Nat, e = .returned (.slice (some ⟨b, 0, none⟩) (wordsL s).length (wordsL s).length) ∧ Mem w [rowT 9 1 strC (some ⟨b, 0, none⟩) (wordsL s).length (wordsL s)] w' := by
  obtain ⟨m, hm⟩ := hl.max
  refine (Go.Proofs.Any.strings_Split { laySplit with } laySplit.i9 s ⟨#[32]⟩ m w (by omega) hm (by decide)).mono ?_
  rintro e w' ⟨rfl, rfl⟩
  refine ⟨w.heap.size, by rw [hn], ?_⟩
  have h := (Mem.start w).newBox 9 ((wordsL s).map Value.string)
  refine (?_ : Mem w _ (w.alloc (Obj.cells ((wordsL s).map Value.string).toArray 9)))
  rw [← flat_strC] at h ⊢
  exact Mem.boxRow (j := 0) (xs := wordsL s) (enc := strC) h rfl (fun _ => rfl) (by rw [hn]; omega)

/-! the table -/
structure Co where
  word : List UInt8
  kind : Int
  fn : FuncId
  offs : List Nat
def Co.cells (c : Co) : List Value := [.string ⟨c.word.toArray⟩, .int .i64 c.kind, .func (.func c.fn) #[] #[]]
def cos : List Co := [⟨[101, 118, 101, 110, 116], 1, 30, [3, 4, 5, 6, 7, 8, 9, 10, 11]⟩, ⟨[118, 101, 114, 100, 105, 99, 116], 2, 31, [12, 13, 14, 15]⟩, ⟨[114, 101, 102, 117, 110, 100], 3, 32, [16, 17, 18, 19]⟩, ⟨[99, 104, 97, 114, 103, 101], 4, 33, []⟩, ⟨[112, 117, 98, 108, 105, 115, 104], 5, 34, [1, 2]⟩, ⟨[112, 108, 97, 110], 6, 35, []⟩]
def ptrC (b o : Nat) : List Value := [.pointer (some ⟨b, o, none⟩)]
theorem fl72 {fs : Array Field} (h : Tryz.prog.underlying 72 = some (.struct fs) := by exact Tryz.underlying72) : FieldsLie Tryz.prog fs [(0, 1), (1, 1), (2, 1)] := by
  rw [Tryz.underlying72] at h
  cases h
  intro w
  kernel_rfl
theorem fl30 {fs : Array Field} (h : Tryz.prog.underlying 30 = some (.struct fs) := by exact Tryz.underlying30) : FieldsLie Tryz.prog fs [(0, 1), (1, 1), (2, 1), (3, 9), (12, 4), (16, 4)] := by
  rw [Tryz.underlying30] at h
  cases h
  intro w
  kernel_rfl
theorem fl24 {fs : Array Field} (h : Tryz.prog.underlying 24 = some (.struct fs) := by exact Tryz.underlying24) : FieldsLie Tryz.prog fs [(0, 1), (1, 1), (2, 1), (3, 1), (4, 1), (5, 1), (6, 1), (7, 1), (8, 1)] := by
  rw [Tryz.underlying24] at h
  cases h
  intro w
  kernel_rfl
theorem fl26 {fs : Array Field} (h : Tryz.prog.underlying 26 = some (.struct fs) := by exact Tryz.underlying26) : FieldsLie Tryz.prog fs [(0, 1), (1, 1), (2, 1), (3, 1)] := by
  rw [Tryz.underlying26] at h
  cases h
  intro w
  kernel_rfl
theorem fl28 {fs : Array Field} (h : Tryz.prog.underlying 28 = some (.struct fs) := by exact Tryz.underlying28) : FieldsLie Tryz.prog fs [(0, 1), (1, 1), (2, 1), (3, 1)] := by
  rw [Tryz.underlying28] at h
  cases h
  intro w
  kernel_rfl
set_option maxRecDepth 20000 in
theorem commands_w (w : World) : Calls Tryz.prog 17 #[] w fun e w' => ∃ b : Nat, e = .returned (.slice (some ⟨b, 0, none⟩) 6 6) ∧ Mem w [rowT 72 3 Co.cells (some ⟨b, 0, none⟩) 6 cos] w' := by
  refine H_enter Tryz.func17 rfl Tryz.ntmps17 rfl ?_
  refine H_seq ?_
  refine R0 ?_
  refine xV (e_as (v := .slice _ _ _) (q0 rfl)) rfl rfl ?_
  refine XN ?_
  refine thenJ_normal ?_
  refine H_seq ?_
  refine R0 ?_
  refine xV (e_build Tryz.underlying72 fl72 Tryz.zeroValue72 (pt (v := .string _) rfl (pt (v := .int _ _) rfl (pt rfl E.p0))) rfl) rfl rfl ?_
  refine xV (e_build Tryz.underlying72 fl72 Tryz.zeroValue72 (pt (v := .string _) rfl (pt (v := .int _ _) rfl (pt rfl E.p0))) rfl) rfl rfl ?_
  refine xV (e_build Tryz.underlying72 fl72 Tryz.zeroValue72 (pt (v := .string _) rfl (pt (v := .int _ _) rfl (pt rfl E.p0))) rfl) rfl rfl ?_
  refine xV (e_build Tryz.underlying72 fl72 Tryz.zeroValue72 (pt (v := .string _) rfl (pt (v := .int _ _) rfl (pt rfl E.p0))) rfl) rfl rfl ?_
  refine xV (e_build Tryz.underlying72 fl72 Tryz.zeroValue72 (pt (v := .string _) rfl (pt (v := .int _ _) rfl (pt rfl E.p0))) rfl) rfl rfl ?_
  refine xV (e_build Tryz.underlying72 fl72 Tryz.zeroValue72 (pt (v := .string _) rfl (pt (v := .int _ _) rfl (pt rfl E.p0))) rfl) rfl rfl ?_
  refine X_slit [(.string (ByteArray.mk #[])), (.int .i64 0), .nilFunc, (.string (ByteArray.mk #[])), (.int .i64 0), .nilFunc, (.string (ByteArray.mk #[])), (.int .i64 0), .nilFunc, (.string (ByteArray.mk #[])), (.int .i64 0), .nilFunc, (.string (ByteArray.mk #[])), (.int .i64 0), .nilFunc, (.string (ByteArray.mk #[])), (.int .i64 0), .nilFunc] Tryz.underlying68 Tryz.sizeOf72 Tryz.zeroValue72 rfl (by kernel_rfl) (pt (v := .agg _) rfl (pt (v := .agg _) rfl (pt (v := .agg _) rfl (pt (v := .agg _) rfl (pt (v := .agg _) rfl (pt (v := .agg _) rfl E.p0)))))) rfl rfl fun b7 => ?_
  refine xV (e_as (v := .slice _ _ _) (q0 rfl)) rfl rfl ?_
  refine XN ?_
  refine thenJ_normal ?_
  refine H_ret ?_
  exact ret1 (v := .slice _ _ _) rfl rfl rfl fun w' hw => ⟨b7, rfl, Mem.boxRow (j := 0) (b := b7) (xs := cos) (enc := Co.cells) hw rfl (fun _ => rfl) (by decide)⟩
set_option maxRecDepth 20000 in
theorem args1_w (b : Nat) (w : World) : Calls Tryz.prog 30 #[.pointer (some ⟨b, 0, none⟩)] w fun e w' => ∃ x : Option Addr × Nat, e = .returned (.slice x.1 9 x.2) ∧ Mem w [rowT 77 1 (ptrC b) x.1 x.2 [3, 4, 5, 6, 7, 8, 9, 10, 11]] w' := by
  refine H_enter Tryz.func30 rfl Tryz.ntmps30 rfl ?_
  refine H_seq ?_
  refine R0 ?_
  refine xV (e_as (v := .slice _ _ _) (q0 rfl)) rfl rfl ?_
  refine XN ?_
  refine thenJ_normal ?_
  refine H_seq ?_
  refine R0 ?_
  refine xV (e_mv (v := .pointer _) (q0 rfl)) rfl rfl ?_
  refine xV (e_nilc (q0 rfl)) rfl rfl ?_
  refine xV (e_fld Tryz.underlying30 rfl Tryz.sizeOf24 rfl (q0 rfl)) rfl rfl ?_
  refine xV (e_as (v := .pointer _) (q0 rfl)) rfl rfl ?_
  refine XN ?_
  refine thenJ_normal ?_
  refine H_seq ?_
  refine RA rfl (by decide +kernel) ?_
  refine aV 0 (by decide +kernel) rfl (e_mv (v := .pointer _) (q0 rfl)) rfl ?_
  refine aV 1 (by decide +kernel) rfl (e_nilc (q0 rfl)) rfl ?_
  refine aV 2 (by decide +kernel) rfl (e_fld Tryz.underlying24 rfl Tryz.sizeOf3 rfl (q0 rfl)) rfl ?_
  refine aV 3 (by decide +kernel) rfl (e_mv (v := .pointer _) (q0 rfl)) rfl ?_
  refine aV 4 (by decide +kernel) rfl (e_nilc (q0 rfl)) rfl ?_
  refine aV 5 (by decide +kernel) rfl (e_fld Tryz.underlying24 rfl Tryz.sizeOf3 rfl (q0 rfl)) rfl ?_
  refine aV 6 (by decide +kernel) rfl (e_mv (v := .pointer _) (q0 rfl)) rfl ?_
  refine aV 7 (by decide +kernel) rfl (e_nilc (q0 rfl)) rfl ?_
  refine aV 8 (by decide +kernel) rfl (e_fld Tryz.underlying24 rfl Tryz.sizeOf3 rfl (q0 rfl)) rfl ?_
  refine aV 9 (by decide +kernel) rfl (e_mv (v := .pointer _) (q0 rfl)) rfl ?_
  refine aV 10 (by decide +kernel) rfl (e_nilc (q0 rfl)) rfl ?_
  refine aV 11 (by decide +kernel) rfl (e_fld Tryz.underlying24 rfl Tryz.sizeOf3 rfl (q0 rfl)) rfl ?_
  refine aV 12 (by decide +kernel) rfl (e_mv (v := .pointer _) (q0 rfl)) rfl ?_
  refine aV 13 (by decide +kernel) rfl (e_nilc (q0 rfl)) rfl ?_
  refine aV 14 (by decide +kernel) rfl (e_fld Tryz.underlying24 rfl Tryz.sizeOf3 rfl (q0 rfl)) rfl ?_
  refine aV 15 (by decide +kernel) rfl (e_mv (v := .pointer _) (q0 rfl)) rfl ?_
  refine aV 16 (by decide +kernel) rfl (e_nilc (q0 rfl)) rfl ?_
  refine aV 17 (by decide +kernel) rfl (e_fld Tryz.underlying24 rfl Tryz.sizeOf3 rfl (q0 rfl)) rfl ?_
  refine aV 18 (by decide +kernel) rfl (e_mv (v := .pointer _) (q0 rfl)) rfl ?_
  refine aV 19 (by decide +kernel) rfl (e_nilc (q0 rfl)) rfl ?_
  refine aV 20 (by decide +kernel) rfl (e_fld Tryz.underlying24 rfl Tryz.sizeOf3 rfl (q0 rfl)) rfl ?_
  refine aV 21 (by decide +kernel) rfl (e_mv (v := .pointer _) (q0 rfl)) rfl ?_
  refine aV 22 (by decide +kernel) rfl (e_nilc (q0 rfl)) rfl ?_
  refine aV 23 (by decide +kernel) rfl (e_fld Tryz.underlying24 rfl Tryz.sizeOf3 rfl (q0 rfl)) rfl ?_
  refine aV 24 (by decide +kernel) rfl (e_mv (v := .pointer _) (q0 rfl)) rfl ?_
  refine aV 25 (by decide +kernel) rfl (e_nilc (q0 rfl)) rfl ?_
  refine aV 26 (by decide +kernel) rfl (e_fld Tryz.underlying24 rfl Tryz.sizeOf3 rfl (q0 rfl)) rfl ?_
  refine rdy1 (i := 27) (by decide +kernel) (sub_drop 0) ?_
  refine aL rfl (f_slit [(.pointer none), (.pointer none), (.pointer none), (.pointer none), (.pointer none), (.pointer none), (.pointer none), (.pointer none), (.pointer none)] Tryz.underlying73 Tryz.sizeOf77 Tryz.zeroValue77 rfl (by kernel_rfl) (pt (v := .pointer _) rfl (pt (v := .pointer _) rfl (pt (v := .pointer _) rfl (pt (v := .pointer _) rfl (pt (v := .pointer _) rfl (pt (v := .pointer _) rfl (pt (v := .pointer _) rfl (pt (v := .pointer _) rfl (pt (v := .pointer _) rfl E.p0))))))))) rfl rfl fun b34 => ?_)
  refine aRL (sub_drop 1) ?_
  refine aV 28 (by decide +kernel) rfl (e_as (v := .slice _ _ _) (q0 rfl)) rfl ?_
  refine aZ (by decide +kernel) (sub_drop 0) ?_
  refine thenJ_normal ?_
  refine H_ret ?_
  exact ret1 (v := .slice _ _ _) rfl rfl rfl fun w' hw => ⟨(some ⟨b34, 0, none⟩, 9), rfl, Mem.boxRow (j := 0) (b := b34) (xs := [3, 4, 5, 6, 7, 8, 9, 10, 11]) (enc := ptrC b) hw rfl (fun _ => rfl) (by decide)⟩
set_option maxRecDepth 20000 in
theorem args2_w (b : Nat) (w : World) : Calls Tryz.prog 31 #[.pointer (some ⟨b, 0, none⟩)] w fun e w' => ∃ x : Option Addr × Nat, e = .returned (.slice x.1 4 x.2) ∧ Mem w [rowT 77 1 (ptrC b) x.1 x.2 [12, 13, 14, 15]] w' := by
  refine H_enter Tryz.func31 rfl Tryz.ntmps31 rfl ?_
  refine H_seq ?_
  refine R0 ?_
  refine xV (e_as (v := .slice _ _ _) (q0 rfl)) rfl rfl ?_
  refine XN ?_
  refine thenJ_normal ?_
  refine H_seq ?_
  refine R0 ?_
  refine xV (e_mv (v := .pointer _) (q0 rfl)) rfl rfl ?_
  refine xV (e_nilc (q0 rfl)) rfl rfl ?_
  refine xV (e_fld Tryz.underlying30 rfl Tryz.sizeOf26 rfl (q0 rfl)) rfl rfl ?_
  refine xV (e_as (v := .pointer _) (q0 rfl)) rfl rfl ?_
  refine XN ?_
  refine thenJ_normal ?_
  refine H_seq ?_
  refine RA rfl (by decide +kernel) ?_
  refine aV 0 (by decide +kernel) rfl (e_mv (v := .pointer _) (q0 rfl)) rfl ?_
  refine aV 1 (by decide +kernel) rfl (e_nilc (q0 rfl)) rfl ?_
  refine aV 2 (by decide +kernel) rfl (e_fld Tryz.underlying26 rfl Tryz.sizeOf3 rfl (q0 rfl)) rfl ?_
  refine aV 3 (by decide +kernel) rfl (e_mv (v := .pointer _) (q0 rfl)) rfl ?_
  refine aV 4 (by decide +kernel) rfl (e_nilc (q0 rfl)) rfl ?_
  refine aV 5 (by decide +kernel) rfl (e_fld Tryz.underlying26 rfl Tryz.sizeOf3 rfl (q0 rfl)) rfl ?_
  refine aV 6 (by decide +kernel) rfl (e_mv (v := .pointer _) (q0 rfl)) rfl ?_
  refine aV 7 (by decide +kernel) rfl (e_nilc (q0 rfl)) rfl ?_
  refine aV 8 (by decide +kernel) rfl (e_fld Tryz.underlying26 rfl Tryz.sizeOf3 rfl (q0 rfl)) rfl ?_
  refine aV 9 (by decide +kernel) rfl (e_mv (v := .pointer _) (q0 rfl)) rfl ?_
  refine aV 10 (by decide +kernel) rfl (e_nilc (q0 rfl)) rfl ?_
  refine aV 11 (by decide +kernel) rfl (e_fld Tryz.underlying26 rfl Tryz.sizeOf3 rfl (q0 rfl)) rfl ?_
  refine rdy1 (i := 12) (by decide +kernel) (sub_drop 0) ?_
  refine aL rfl (f_slit [(.pointer none), (.pointer none), (.pointer none), (.pointer none)] Tryz.underlying73 Tryz.sizeOf77 Tryz.zeroValue77 rfl (by kernel_rfl) (pt (v := .pointer _) rfl (pt (v := .pointer _) rfl (pt (v := .pointer _) rfl (pt (v := .pointer _) rfl E.p0)))) rfl rfl fun b19 => ?_)
  refine aRL (sub_drop 1) ?_
  refine aV 13 (by decide +kernel) rfl (e_as (v := .slice _ _ _) (q0 rfl)) rfl ?_
  refine aZ (by decide +kernel) (sub_drop 0) ?_
  refine thenJ_normal ?_
  refine H_ret ?_
  exact ret1 (v := .slice _ _ _) rfl rfl rfl fun w' hw => ⟨(some ⟨b19, 0, none⟩, 4), rfl, Mem.boxRow (j := 0) (b := b19) (xs := [12, 13, 14, 15]) (enc := ptrC b) hw rfl (fun _ => rfl) (by decide)⟩
set_option maxRecDepth 20000 in
theorem args3_w (b : Nat) (w : World) : Calls Tryz.prog 32 #[.pointer (some ⟨b, 0, none⟩)] w fun e w' => ∃ x : Option Addr × Nat, e = .returned (.slice x.1 4 x.2) ∧ Mem w [rowT 77 1 (ptrC b) x.1 x.2 [16, 17, 18, 19]] w' := by
  refine H_enter Tryz.func32 rfl Tryz.ntmps32 rfl ?_
  refine H_seq ?_
  refine R0 ?_
  refine xV (e_as (v := .slice _ _ _) (q0 rfl)) rfl rfl ?_
  refine XN ?_
  refine thenJ_normal ?_
  refine H_seq ?_
  refine R0 ?_
  refine xV (e_mv (v := .pointer _) (q0 rfl)) rfl rfl ?_
  refine xV (e_nilc (q0 rfl)) rfl rfl ?_
  refine xV (e_fld Tryz.underlying30 rfl Tryz.sizeOf28 rfl (q0 rfl)) rfl rfl ?_
  refine xV (e_as (v := .pointer _) (q0 rfl)) rfl rfl ?_
  refine XN ?_
  refine thenJ_normal ?_
  refine H_seq ?_
  refine RA rfl (by decide +kernel) ?_
  refine aV 0 (by decide +kernel) rfl (e_mv (v := .pointer _) (q0 rfl)) rfl ?_
  refine aV 1 (by decide +kernel) rfl (e_nilc (q0 rfl)) rfl ?_
  refine aV 2 (by decide +kernel) rfl (e_fld Tryz.underlying28 rfl Tryz.sizeOf3 rfl (q0 rfl)) rfl ?_
  refine aV 3 (by decide +kernel) rfl (e_mv (v := .pointer _) (q0 rfl)) rfl ?_
  refine aV 4 (by decide +kernel) rfl (e_nilc (q0 rfl)) rfl ?_
  refine aV 5 (by decide +kernel) rfl (e_fld Tryz.underlying28 rfl Tryz.sizeOf3 rfl (q0 rfl)) rfl ?_
  refine aV 6 (by decide +kernel) rfl (e_mv (v := .pointer _) (q0 rfl)) rfl ?_
  refine aV 7 (by decide +kernel) rfl (e_nilc (q0 rfl)) rfl ?_
  refine aV 8 (by decide +kernel) rfl (e_fld Tryz.underlying28 rfl Tryz.sizeOf3 rfl (q0 rfl)) rfl ?_
  refine aV 9 (by decide +kernel) rfl (e_mv (v := .pointer _) (q0 rfl)) rfl ?_
  refine aV 10 (by decide +kernel) rfl (e_nilc (q0 rfl)) rfl ?_
  refine aV 11 (by decide +kernel) rfl (e_fld Tryz.underlying28 rfl Tryz.sizeOf3 rfl (q0 rfl)) rfl ?_
  refine rdy1 (i := 12) (by decide +kernel) (sub_drop 0) ?_
  refine aL rfl (f_slit [(.pointer none), (.pointer none), (.pointer none), (.pointer none)] Tryz.underlying73 Tryz.sizeOf77 Tryz.zeroValue77 rfl (by kernel_rfl) (pt (v := .pointer _) rfl (pt (v := .pointer _) rfl (pt (v := .pointer _) rfl (pt (v := .pointer _) rfl E.p0)))) rfl rfl fun b19 => ?_)
  refine aRL (sub_drop 1) ?_
  refine aV 13 (by decide +kernel) rfl (e_as (v := .slice _ _ _) (q0 rfl)) rfl ?_
  refine aZ (by decide +kernel) (sub_drop 0) ?_
  refine thenJ_normal ?_
  refine H_ret ?_
  exact ret1 (v := .slice _ _ _) rfl rfl rfl fun w' hw => ⟨(some ⟨b19, 0, none⟩, 4), rfl, Mem.boxRow (j := 0) (b := b19) (xs := [16, 17, 18, 19]) (enc := ptrC b) hw rfl (fun _ => rfl) (by decide)⟩
set_option maxRecDepth 20000 in
theorem args4_w (b : Nat) (w : World) : Calls Tryz.prog 33 #[.pointer (some ⟨b, 0, none⟩)] w fun e w' => ∃ x : Option Addr × Nat, e = .returned (.slice x.1 0 x.2) ∧ Mem w [rowT 77 1 (ptrC b) x.1 x.2 []] w' := by
  refine H_enter Tryz.func33 rfl Tryz.ntmps33 rfl ?_
  refine H_seq ?_
  refine R0 ?_
  refine xV (e_as (v := .slice _ _ _) (q0 rfl)) rfl rfl ?_
  refine XN ?_
  refine thenJ_normal ?_
  refine H_seq ?_
  refine R0 ?_
  refine xV (e_as (v := .slice _ _ _) (q0 rfl)) rfl rfl ?_
  refine XN ?_
  refine thenJ_normal ?_
  refine H_ret ?_
  exact ret1 (v := .slice _ _ _) rfl rfl rfl fun w' hw => ⟨(none, 0), rfl, (mem_nil.2 hw.1).nilRow _ _ _ rfl⟩
set_option maxRecDepth 20000 in
theorem args5_w (b : Nat) (w : World) : Calls Tryz.prog 34 #[.pointer (some ⟨b, 0, none⟩)] w fun e w' => ∃ x : Option Addr × Nat, e = .returned (.slice x.1 2 x.2) ∧ Mem w [rowT 77 1 (ptrC b) x.1 x.2 [1, 2]] w' := by
  refine H_enter Tryz.func34 rfl Tryz.ntmps34 rfl ?_
  refine H_seq ?_
  refine R0 ?_
  refine xV (e_as (v := .slice _ _ _) (q0 rfl)) rfl rfl ?_
  refine XN ?_
  refine thenJ_normal ?_
  refine H_seq ?_
  refine RA rfl (by decide +kernel) ?_
  refine aV 0 (by decide +kernel) rfl (e_mv (v := .pointer _) (q0 rfl)) rfl ?_
  refine aV 1 (by decide +kernel) rfl (e_nilc (q0 rfl)) rfl ?_
  refine aV 2 (by decide +kernel) rfl (e_fld Tryz.underlying30 rfl Tryz.sizeOf3 rfl (q0 rfl)) rfl ?_
  refine aV 3 (by decide +kernel) rfl (e_mv (v := .pointer _) (q0 rfl)) rfl ?_
  refine aV 4 (by decide +kernel) rfl (e_nilc (q0 rfl)) rfl ?_
  refine aV 5 (by decide +kernel) rfl (e_fld Tryz.underlying30 rfl Tryz.sizeOf3 rfl (q0 rfl)) rfl ?_
  refine rdy1 (i := 6) (by decide +kernel) (sub_drop 0) ?_
  refine aL rfl (f_slit [(.pointer none), (.pointer none)] Tryz.underlying73 Tryz.sizeOf77 Tryz.zeroValue77 rfl (by kernel_rfl) (pt (v := .pointer _) rfl (pt (v := .pointer _) rfl E.p0)) rfl rfl fun b9 => ?_)
  refine aRL (sub_drop 1) ?_
  refine aV 7 (by decide +kernel) rfl (e_as (v := .slice _ _ _) (q0 rfl)) rfl ?_
  refine aZ (by decide +kernel) (sub_drop 0) ?_
  refine thenJ_normal ?_
  refine H_ret ?_
  exact ret1 (v := .slice _ _ _) rfl rfl rfl fun w' hw => ⟨(some ⟨b9, 0, none⟩, 2), rfl, Mem.boxRow (j := 0) (b := b9) (xs := [1, 2]) (enc := ptrC b) hw rfl (fun _ => rfl) (by decide)⟩
set_option maxRecDepth 20000 in
theorem args6_w (b : Nat) (w : World) : Calls Tryz.prog 35 #[.pointer (some ⟨b, 0, none⟩)] w fun e w' => ∃ x : Option Addr × Nat, e = .returned (.slice x.1 0 x.2) ∧ Mem w [rowT 77 1 (ptrC b) x.1 x.2 []] w' := by
  refine H_enter Tryz.func35 rfl Tryz.ntmps35 rfl ?_
  refine H_seq ?_
  refine R0 ?_
  refine xV (e_as (v := .slice _ _ _) (q0 rfl)) rfl rfl ?_
  refine XN ?_
  refine thenJ_normal ?_
  refine H_seq ?_
  refine R0 ?_
  refine xV (e_as (v := .slice _ _ _) (q0 rfl)) rfl rfl ?_
  refine XN ?_
  refine thenJ_normal ?_
  refine H_ret ?_
  exact ret1 (v := .slice _ _ _) rfl rfl rfl fun w' hw => ⟨(none, 0), rfl, (mem_nil.2 hw.1).nilRow _ _ _ rfl⟩
theorem args_w (b : Nat) (w : World) {k : Nat} {c : Co} (hc : cos[k]? = some c) : Calls Tryz.prog c.fn #[.pointer (some ⟨b, 0, none⟩)] w fun e w' => ∃ x : Option Addr × Nat, e = .returned (.slice x.1 c.offs.length x.2) ∧ Mem w [rowT 77 1 (ptrC b) x.1 x.2 c.offs] w' := by
  match k, hc with
  | 0, hc => cases hc; exact args1_w b w
  | 1, hc => cases hc; exact args2_w b w
  | 2, hc => cases hc; exact args3_w b w
  | 3, hc => cases hc; exact args4_w b w
  | 4, hc => cases hc; exact args5_w b w
  | 5, hc => cases hc; exact args6_w b w
  | k + 6, hc => cases hc
theorem enters_c {k : Nat} {c : Co} (hc : cos[k]? = some c) : ∀ args w, (callFunc c.fn args).run Tryz.prog w = .ok (.enter c.fn args) w := by
  match k, hc with
  | 0, hc => cases hc; exact Tryz.call30
  | 1, hc => cases hc; exact Tryz.call31
  | 2, hc => cases hc; exact Tryz.call32
  | 3, hc => cases hc; exact Tryz.call33
  | 4, hc => cases hc; exact Tryz.call34
  | 5, hc => cases hc; exact Tryz.call35
  | k + 6, hc => cases hc
end Go.Proofs.Con

/-
  The walks: faults caught.
-/
namespace Go.Proofs.Con
open Go Go.RowKit Go.Proofs.E

def zAct : List Value := [.int .i64 0, .int .i64 0, .int .i64 0, .int .i64 0, .int .i64 0, .int .i64 0, .int .i64 0, .int .i64 0, .int .i64 0, .int .i64 0, .int .i64 0, .int .i64 0, .int .i64 0, .int .i64 0, .int .i64 0, .int .i64 0, .int .i64 0, .int .i64 0, .int .i64 0, .int .i64 0]
theorem setAt_mid : ∀ (vs cs : List Value) (i : Nat), i + vs.length ≤ cs.length → setAt cs i vs = cs.take i ++ vs ++ cs.drop (i + vs.length)
  | [], cs, i, h => by simp [setAt]
  | v :: r, cs, i, h => by
    simp only [List.length_cons] at h
    rw [setAt, setAt_mid r _ (i + 1) (by simp; omega)]
    rw [List.take_set, List.drop_set]
    rw [if_pos (by omega), show i + (v :: r).length = i + 1 + r.length by simp; omega]
    rw [List.take_add_one, List.set_append_right _ _ (by rw [List.length_take]; exact Nat.min_le_left _ _)]
    rw [List.getElem?_eq_getElem (by omega)]
    simp [Nat.min_eq_left (show i ≤ cs.length by omega), Nat.min_le_left]
theorem setAt_all {cs vs : List Value} (h : cs.length = vs.length) : setAt cs 0 vs = vs := by
  rw [setAt_mid vs cs 0 (by omega)]
  simp [← h]
/-- the act and the error of a call of Parse -/
abbrev two (ba be : Nat) (cs : List Value) (e : Int) : List E.Item := [box be 31 [.int .i64 e], box ba 30 cs]
set_option maxRecDepth 20000 in
theorem clear_w (b5 ba be : Nat) (cs : List Value) (e : Int) (hl : cs.length = 20) {w0 w : World} (hw : Mem w0 [box b5 76 [.int .i64 e], box be 31 [.int .i64 e], box ba 30 cs] w) : Calls Tryz.prog 15 #[.pointer (some ⟨ba, 0, none⟩)] w fun r w' => ∃ _x : Unit, r = .returned (.tuple #[]) ∧ Mem w0 [box b5 76 [.int .i64 e], box be 31 [.int .i64 e], box ba 30 zAct] w' := by
  match cs, hl with
  | [c0, c1, c2, c3, c4, c5, c6, c7, c8, c9, c10, c11, c12, c13, c14, c15, c16, c17, c18, c19], _ =>
  refine H_enterM hw rfl Tryz.func15 rfl Tryz.ntmps15 rfl ?_
  refine R0 ?_
  refine xV (e_build Tryz.underlying30 fl30 Tryz.zeroValue30 E.p0 rfl) rfl rfl ?_
  refine X_st (v := .agg _) rfl rfl Tryz.sizeOf30 ?_
  refine XN ?_
  exact end0 rfl rfl fun w' hw => ⟨(), rfl, by
    have hw : Mem w0 [box b5 76 [.int .i64 e], box be 31 [.int .i64 e], box ba 30 (setAt [c0, c1, c2, c3, c4, c5, c6, c7, c8, c9, c10, c11, c12, c13, c14, c15, c16, c17, c18, c19] 0 zAct)] w' := hw
    rwa [setAt_all (cs := [c0, c1, c2, c3, c4, c5, c6, c7, c8, c9, c10, c11, c12, c13, c14, c15, c16, c17, c18, c19]) (vs := zAct) rfl] at hw⟩
set_option maxRecDepth 20000 in
theorem caught_w (ba be : Nat) (cs : List Value) (hl : cs.length = 20) (e : Int) {w0 w : World} (hw : Mem w0 (two ba be cs 0) w) : CallsDIn (FW none) 0 Tryz.prog 14 #[.pointer (some ⟨be, 0, none⟩), .func (.func 15) #[] #[.pointer (some ⟨ba, 0, none⟩)]] (.panicking (flt e)) w fun r u' w' => (∃ v, r = .returned v) ∧ settle u' = .returning ∧ Mem w0 (two ba be zAct e) w' := by
  refine H_enterD Tryz.func14 rfl Tryz.ntmps14 (by rfl) (by rfl) (by rfl) rfl (.inr ⟨rfl, rfl⟩) hw ?_
  refine H_seq ?_
  refine R0 ?_
  refine xV (e_mv (q0 rfl)) rfl rfl ?_
  refine xV (e_neNilI1 Tryz.underlying20 (q0 rfl)) rfl rfl ?_
  refine XN ?_
  refine thenJ_normal ?_
  refine H_cond rfl (fun h => ?_) (fun h => ?_)
  · refine H_seq ?_
    refine R0 ?_
    refine xV (e_mv (q0 rfl)) rfl rfl ?_
    refine xV (e_asI Tryz.underlying76 (by intro ms h; cases h) (q0 rfl)) rfl rfl ?_
    refine xV (e_mv (q0 rfl)) rfl rfl ?_
    refine xV (e_ext (q0 rfl) rfl) rfl rfl ?_
    refine xV (e_ext (q0 rfl) rfl) rfl rfl ?_
    refine X_alloc Tryz.zeroValue76 rfl fun b5 => ?_
    refine X_st (v := .agg _) rfl rfl Tryz.sizeOf76 ?_
    refine xV (e_as (v := .bool _) (q0 rfl)) rfl rfl ?_
    refine XN ?_
    refine thenJ_normal ?_
    refine H_seq ?_
    refine H_seq ?_
    refine R0 ?_
    refine xV (e_mv (v := .bool _) (q0 rfl)) rfl rfl ?_
    refine xV (e_not (q0 rfl)) rfl rfl ?_
    refine XN ?_
    refine thenJ_normal ?_
    refine H_cond rfl (fun h2 => ?_) (fun h2 => ?_)
    · cases h2
    · refine H_skip ?_
      refine thenJ_normal ?_
      refine H_seq ?_
      refine R0 ?_
      refine xV (e_mv (v := .pointer _) (q0 rfl)) rfl rfl ?_
      refine xV (e_fld Tryz.underlying76 rfl Tryz.sizeOf31 rfl (q0 rfl)) rfl rfl ?_
      refine xV (eL Tryz.isAgg31 (q0 rfl)) rfl rfl ?_
      refine xV (e_nilc (q0 rfl)) rfl rfl ?_
      refine X_st (v := .int _ _) rfl rfl Tryz.sizeOf31 ?_
      refine XN ?_
      refine thenJ_normal ?_
      refine R0 ?_
      refine xV (e_mv (q0 rfl)) rfl rfl ?_
      refine X_eff (f_callM (enV (cap := [.pointer (some ⟨ba, 0, none⟩)]) (al := [.pointer (some ⟨ba, 0, none⟩)]) Tryz.call15 (q0 rfl) (fun _ => rfl)) (fun w hw => clear_w b5 ba be cs e hl hw) rfl (fun _ => rfl) fun _ => ?_)
      refine XN ?_
      exact endD rfl (res0 rfl) fun w' hw => ⟨⟨_, rfl⟩, rfl, hw.pick [1, 2] (by decide)⟩
  · cases h
theorem caught0_w (ba be : Nat) {w0 w : World} {L : List E.Item} (hk : marks L = []) (hw : Mem w0 L w) : CallsDIn (FW none) 0 Tryz.prog 14 #[.pointer (some ⟨be, 0, none⟩), .func (.func 15) #[] #[.pointer (some ⟨ba, 0, none⟩)]] .returning w fun r u' w' => (∃ v, r = .returned v) ∧ settle u' = .returning ∧ Mem w0 L w' := by
  refine H_enterD Tryz.func14 rfl Tryz.ntmps14 (by rfl) (by rfl) (by rfl) hk (.inl ⟨rfl, rfl, rfl⟩) hw ?_
  refine H_seq ?_
  refine R0 ?_
  refine xV (e_mv (q0 rfl)) rfl rfl ?_
  refine xV (e_neNilI0 Tryz.underlying20 (q0 rfl)) rfl rfl ?_
  refine XN ?_
  refine thenJ_normal ?_
  refine H_cond rfl (fun h => ?_) (fun h => ?_)
  · cases h
  · refine H_skip ?_
    exact endD hk (res0 rfl) fun w' hw => ⟨⟨_, rfl⟩, rfl, hw⟩
end Go.Proofs.Con

/-
  The walk: console.Parse.
-/
namespace Go.Proofs.Con
open Go Go.RowKit Go.Proofs.E

theorem retP_mem {c : Cx} {fn : Func} {R : Ending → World → Prop} {w0 : World} {L L' : List E.Item} {f : Fr} {x : Exit} (hm : ∀ w, Mem w0 L w → Mem w0 L' w) (hk : marks L' = marks L) (h : retP c fn R x w0 L' f) : retP c fn R x w0 L f := by
  cases x with
  | normal => exact fun w a hw ha => by rw [← hk]; exact h w a (hm w hw) (by rw [hk]; exact ha)
  | ret => exact fun w a hw ha => by rw [← hk]; exact h w a (hm w hw) (by rw [hk]; exact ha)
  | panic ch => exact fun w a hw ha => by rw [← hk]; exact h w a (hm w hw) (by rw [hk]; exact ha)
  | exit i => exact h
  | goto l => exact h
  | outgrown => exact h
/-- which command the words name -/
def mt (ws : List ByteArray) (c : Co) : Bool := match ws with
  | [] => false
  | x :: r => decide (c.word = x.data.toList) && decide (r.length = c.offs.length)
def puts : List Nat → List Int → List Int → List Int
  | o :: os, n :: ns, cs => puts os ns (cs.set o n)
  | _, _, cs => cs
abbrev I64 (n : Int) : Value := .int .i64 n
def zs : List Int := List.replicate 20 0
def nv (x : ByteArray) : Int := (numL x).getD 0
def parseL (ws : List ByteArray) : List Int × Int := match cos.find? (mt ws) with
  | none => (zs, 36)
  | some c => if ws.any (fun x => x.size == 0) then (zs, 36) else if ws.tail.all (fun x => (numL x).isSome) then (puts c.offs (ws.tail.map nv) (zs.set 0 c.kind), 0) else (zs, 3)
theorem puts_len : ∀ (os : List Nat) (ns cs : List Int), (puts os ns cs).length = cs.length
  | [], ns, cs => rfl
  | o :: os, [], cs => rfl
  | o :: os, n :: ns, cs => by rw [puts, puts_len]; simp
theorem puts_snoc : ∀ (os : List Nat) (ns cs : List Int) (o : Nat) (n : Int), os.length = ns.length → puts (os ++ [o]) (ns ++ [n]) cs = (puts os ns cs).set o n
  | [], [], cs, o, n, _ => rfl
  | x :: os, y :: ns, cs, o, n, h => by simp only [List.cons_append, puts]; exact puts_snoc os ns _ o n (by simpa using h)
  | [], _ :: _, _, _, _, h => by simp at h
  | _ :: _, [], _, _, _, h => by simp at h
theorem snoc {α : Type} (l : List α) (k : Nat) (x : α) (h : l[k]? = some x) : l.take (k + 1) = l.take k ++ [x] := by rw [List.take_add_one, h]; rfl
theorem offs_ok {k : Nat} {c : Co} (hc : cos[k]? = some c) : c.offs.length ≤ 9 ∧ ∀ o ∈ c.offs, o < 20 := by
  have h : cos.all (fun c => decide (c.offs.length ≤ 9) && c.offs.all (fun o => decide (o < 20))) = true := by decide
  have := List.all_eq_true.1 h c (List.mem_of_getElem? hc)
  rw [Bool.and_eq_true, List.all_eq_true] at this
  exact ⟨of_decide_eq_true this.1, fun o ho => of_decide_eq_true (this.2 o ho)⟩
theorem mt_iff {ws : List ByteArray} {x0 : ByteArray} {c : Co} (h0 : ws[0]? = some x0) : mt ws c = (decide (c.word = x0.data.toList) && decide (ws.length = c.offs.length + 1)) := by
  cases ws with
  | nil => cases h0
  | cons x r => cases h0; simp [mt]
theorem mt_no {ws : List ByteArray} {x0 : ByteArray} {c : Co} (h0 : ws[0]? = some x0) (h : (!((⟨c.word.toArray⟩ : ByteArray).toList == x0.toList) || !decide ((ws.length : Int) = 1 + (c.offs.length : Int))) = true) : mt ws c = false := by
  rw [mt_iff h0, Bool.and_eq_false_iff]
  rw [str_eq, Bool.or_eq_true] at h
  rcases h with h | h
  · exact .inl (by simpa using h)
  · exact .inr (decide_eq_false (by have := of_decide_eq_false (Bool.not_eq_true' _ ▸ h); omega))
theorem mt_yes {ws : List ByteArray} {x0 : ByteArray} {c : Co} (h0 : ws[0]? = some x0) (h : (!((⟨c.word.toArray⟩ : ByteArray).toList == x0.toList) || !decide ((ws.length : Int) = 1 + (c.offs.length : Int))) = false) : mt ws c = true ∧ ws.length = c.offs.length + 1 := by
  rw [mt_iff h0, Bool.and_eq_true]
  rw [str_eq, Bool.or_eq_false_iff] at h
  have h2 : ws.length = c.offs.length + 1 := by
    have := of_decide_eq_true (show decide ((ws.length : Int) = 1 + (c.offs.length : Int)) = true by have := h.2; simpa using this)
    omega
  exact ⟨⟨by simpa using h.1, decide_eq_true h2⟩, h2⟩
theorem find_drop {k : Nat} {c : Co} {p : Co → Bool} (hc : cos[k]? = some c) (hp : p c = true) : (cos.drop k).find? p = some c := by
  have hk : k < cos.length := (List.getElem?_eq_some_iff.1 hc).1
  rw [List.drop_eq_getElem_cons hk, (List.getElem?_eq_some_iff.1 hc).2, List.find?_cons, hp]
theorem size0 {y : ByteArray} (h : decide (y.data.toList = (⟨#[]⟩ : ByteArray).data.toList) = true) : y.size = 0 := by
  have := of_decide_eq_true h
  show y.data.size = 0
  rw [← Array.length_toList, this]; rfl
theorem size1 {y : ByteArray} (h : decide (y.data.toList = (⟨#[]⟩ : ByteArray).data.toList) = false) : y.size ≠ 0 := fun e => by
  refine of_decide_eq_false h ?_
  have : y.data.toList.length = 0 := by rw [Array.length_toList]; exact e
  rw [List.length_eq_zero_iff.1 this]
def defD (be ba : Nat) : Deferred := { target := .fn (.func 14) #[], args := #[.pointer (some ⟨be, 0, none⟩), .func (.func 15) #[] #[.pointer (some ⟨ba, 0, none⟩)]] }
abbrev Own (ba be bw bc : Nat) (ws : List ByteArray) (cs : List Value) : List E.Item := [rowT 72 3 Co.cells (some ⟨bc, 0, none⟩) 6 cos, rowT 9 1 strC (some ⟨bw, 0, none⟩) ws.length ws, dcall (defD be ba), box be 31 [.int .i64 0], box ba 30 cs]
theorem inv_c (be ba : Nat) : ∀ w, (invoke (.fn (.func 14) #[]) #[.pointer (some ⟨be, 0, none⟩), .func (.func 15) #[] #[.pointer (some ⟨ba, 0, none⟩)]]).run Tryz.prog w = .ok (.enter 14 #[.pointer (some ⟨be, 0, none⟩), .func (.func 15) #[] #[.pointer (some ⟨ba, 0, none⟩)]]) w := fun w => by
  simp [invoke, Tryz.call14]
section
variable {fn : Func} {R : Ending → World → Prop} {w0 : World} {L : List E.Item} {f : Fr} {be ba : Nat} {cs : List Value} {e : Int}
theorem pan_c (hr : fn.results = #[.cell 2 30, .cell 3 31]) (hf2 : f 2 = .pointer (some ⟨ba, 0, none⟩)) (hf3 : f 3 = .pointer (some ⟨be, 0, none⟩)) (hlen : cs.length = 20) (hm : ∀ w, Mem w0 L w → Mem w0 (dcall (defD be ba) :: two ba be cs 0) w) (hk : marks L = [defD be ba])
    (h : ∀ w, Mem w0 (two ba be zAct e) w → R (.returned (.tuple #[.agg zAct.toArray, .int .i64 e])) w) : retP ⟨Tryz.prog, none, 72⟩ fn R (.panic (flt e)) w0 L f :=
  retP_mem hm hk.symm (panP_d (L1 := two ba be cs 0) rfl (inv_c be ba) (fun w hw => caught_w ba be cs hlen e hw) (resCC 1 0 hr hf2 hf3 Tryz.isAgg30 Tryz.sizeOf30 Tryz.isAgg31 rfl rfl rfl) h)
theorem ret_c (hr : fn.results = #[.cell 2 30, .cell 3 31]) (hf2 : f 2 = .pointer (some ⟨ba, 0, none⟩)) (hf3 : f 3 = .pointer (some ⟨be, 0, none⟩)) (hlen : cs.length = 20) (hm : ∀ w, Mem w0 L w → Mem w0 (dcall (defD be ba) :: two ba be cs 0) w) (hk : marks L = [defD be ba])
    (h : ∀ w, Mem w0 (two ba be cs 0) w → R (.returned (.tuple #[.agg cs.toArray, .int .i64 0])) w) : retP ⟨Tryz.prog, none, 72⟩ fn R .ret w0 L f :=
  retP_mem hm hk.symm (retP_d (L1 := two ba be cs 0) rfl (inv_c be ba) (fun w hw => caught0_w ba be rfl hw) (resCC 1 0 hr hf2 hf3 Tryz.isAgg30 Tryz.sizeOf30 Tryz.isAgg31 rfl hlen rfl) h)
end
set_option maxRecDepth 20000 in
set_option maxHeartbeats 400000 in
theorem parse_w (s : ByteArray) (w : World) (hl : Lw w) (hs : s.size ≤ 1000) (hn : (wordsL s).length = Go.Lib.countB s ⟨#[32]⟩ + 1) (hc : (wordsL s).length ≤ 1001) (hz : ∀ x ∈ wordsL s, x.size ≤ 1000) : Calls Tryz.prog 7 #[.string s] w fun e w' => e = .returned (.tuple #[.agg ((parseL (wordsL s)).1.map I64).toArray, .int .i64 (parseL (wordsL s)).2]) ∧ Blw w w' := by
  refine H_enterP0 Tryz.func7 rfl Tryz.ntmps7 rfl ?_
  refine H_seq ?_
  refine R0 ?_
  refine X_alloc Tryz.zeroValue30 rfl fun b2 => ?_
  refine X_alloc Tryz.zeroValue31 rfl fun b3 => ?_
  refine XN ?_
  refine thenJ_normal ?_
  refine H_seq ?_
  refine R0 ?_
  refine xV e_fn rfl rfl ?_
  refine X_defer (d := defD b3 b2) rfl (f_defer rfl) ?_
  refine XN ?_
  refine thenJ_normal ?_
  refine H_seq ?_
  refine R0 ?_
  refine xV (e_mv (v := .string _) (q0 rfl)) rfl rfl ?_
  refine xCX (en Tryz.call16 (ha2 (q0 rfl) (q0 rfl))) (fun w hw => split_w s w (hl.und.mem hw) hs hn hc) rfl (fun _ => rfl) fun bw => ?_
  generalize hws : wordsL s = ws at *
  have hpos : 0 < ws.length := by omega
  obtain ⟨x0, hx0⟩ : ∃ x0, ws[0]? = some x0 := ⟨_, List.getElem?_eq_getElem hpos⟩
  refine xV (e_as (v := .slice _ _ _) (q0 rfl)) rfl rfl ?_
  refine XN ?_
  refine thenJ_normal ?_
  refine H_seq ?_
  refine H_seq ?_
  refine R0 ?_
  refine xCX (en Tryz.call17 (ha0)) (fun w _ => commands_w w) rfl (fun _ => rfl) fun bc => ?_
  refine xV (e_len Tryz.underlying68 (q0 rfl)) rfl rfl ?_
  refine xV (e_mv (v := .int _ _) (q0 rfl)) rfl rfl ?_
  refine XN ?_
  refine thenJ_normal ?_
  refine H_block ?_
  have hfc : ∀ k, k ≤ 6 → (∀ j c, j < k → cos[j]? = some c → mt ws c = false) → cos.find? (mt ws) = (cos.drop k).find? (mt ws) := fun k _ hk => by
    conv => lhs; rw [← List.take_append_drop k cos, List.find?_append]
    have : (cos.take k).find? (mt ws) = none := List.find?_eq_none.2 fun c hc => by
      obtain ⟨j, hj, rfl⟩ := List.mem_iff_getElem.1 hc
      have hjk : j < k := by rw [List.length_take] at hj; omega
      rw [hk j _ hjk (by rw [List.getElem_take]; exact List.getElem?_eq_getElem _)]
      decide
    rw [this]; rfl
  refine H_loop [6, 7, 9, 10, 11, 17, 18, 19, 20, 21, 22, 23, 24, 25, 26, 27, 28, 29, 30, 31, 32, 33, 34, 35, 36, 37, 38, 39, 40, 41, 42, 43, 44, 45, 46, 47, 48, 49, 50, 51, 52, 53, 54, 55, 56, 57, 58, 59, 60, 61, 62, 63, 64, 65, 66, 67, 68, 69] (fun k : Nat => [(17, .int .i64 k)]) (fun _ => Own b2 b3 bw bc ws zAct) (fun k => k ≤ 6 ∧ ∀ j c, j < k → cos[j]? = some c → mt ws c = false) (fun k => 6 - k) 0 ⟨rfl, trivial⟩ (fun w hw => hw) rfl ⟨by omega, fun j c hj => by omega⟩ ?_
  rintro k g ⟨hk6, hkn⟩
  refine H_seq ?_
  refine R0 ?_
  refine xV (e_lt (q0 rfl) (q0 rfl)) rfl rfl ?_
  refine XN ?_
  refine thenJ_normal ?_
  refine H_seq ?_
  refine H_cond rfl (fun hlt => ?_) (fun hlt => ?_)
  · have hlt' : k < 6 := by simp at hlt; omega
    obtain ⟨c, hck⟩ : ∃ c, cos[k]? = some c := ⟨_, List.getElem?_eq_getElem hlt'⟩
    obtain ⟨hol, hoz⟩ := offs_ok hck
    refine H_skip ?_
    refine thenJ_normal ?_
    refine H_seq ?_
    refine H_block ?_
    refine H_seq ?_
    refine R0 ?_
    refine xV (e_idx _ Tryz.underlying68 Tryz.sizeOf72 (q0 rfl) (q0 rfl) (fun _ => ⟨rfl, by omega⟩)) rfl rfl ?_
    refine xV (eS Tryz.isAgg72 Tryz.sizeOf72 (q0 rfl) (rrs 0 rfl hck)) rfl rfl ?_
    refine X_alloc Tryz.zeroValue72 rfl fun b6 => ?_
    refine X_st (v := .agg _) rfl rfl Tryz.sizeOf72 ?_
    refine XN ?_
    refine thenJ_normal ?_
    refine H_seq ?_
    refine R0 ?_
    refine xV (e_fld Tryz.underlying72 rfl Tryz.sizeOf70 rfl (q0 rfl)) rfl rfl ?_
    refine xV (eL Tryz.isAgg70 (q0 rfl)) rfl rfl ?_
    refine xCX (enV (cap := []) (al := [.pointer (some ⟨b2, 0, none⟩)]) (enters_c hck) (q0 rfl) (fun _ => rfl)) (fun w _ => args_w b2 w hck) rfl (fun _ => rfl) fun ⟨xA, xc⟩ => ?_
    refine xV (e_as (v := .slice _ _ _) (q0 rfl)) rfl rfl ?_
    refine XN ?_
    refine thenJ_normal ?_
    refine H_seq ?_
    refine H_seq ?_
    refine R1 rfl (by decide +kernel) ?_
    refine xV (e_fld Tryz.underlying72 rfl Tryz.sizeOf9 rfl (q0 rfl)) rfl rfl ?_
    refine xV (eL Tryz.isAgg9 (q0 rfl)) rfl rfl ?_
    refine xV (e_mv (v := .slice _ _ _) (q0 rfl)) rfl rfl ?_
    refine xV (e_idx 0 Tryz.underlying39 Tryz.sizeOf9 (q0 rfl) (q0 rfl) (fun _ => ⟨rfl, by omega⟩)) rfl rfl ?_
    refine xV (eL Tryz.isAgg9 (q0 rfl) (rr0 3 rfl hx0 rfl)) rfl rfl ?_
    refine xV (e_neStr (q0 rfl) (q0 rfl)) rfl rfl ?_
    refine xV (e_mv (v := .bool _) (q0 rfl)) rfl rfl ?_
    refine xVF (e_mv (v := .slice _ _ _) (q0 rfl)) rfl rfl rfl rfl ?_
    refine xVF (e_len Tryz.underlying39 (q1 rfl)) rfl rfl rfl rfl ?_
    refine xVF (e_mv (v := .slice _ _ _) (q0 rfl)) rfl rfl rfl rfl ?_
    refine xVF (e_len Tryz.underlying73 (q1 rfl)) rfl rfl rfl rfl ?_
    refine xVF (e_add (q0 rfl) (q1 rfl) (fun _ => ⟨rfl, by omega, by omega⟩)) rfl rfl rfl rfl ?_
    refine xVF (e_ne (q1 rfl) (q1 rfl)) rfl rfl rfl rfl ?_
    refine xV (e_or (q0 rfl) rfl (fun h => by first | rfl | (rw [h]; rfl))) rfl rfl ?_
    refine XN ?_
    refine thenJ_normal ?_
    refine H_cond rfl (fun hm => ?_) (fun hm => ?_)
    · have hmc : mt ws c = false := by
        exact mt_no hx0 hm
      refine H_exit ?_
      refine thenJ_exit ?_
      refine blockJ_hit ?_
      refine thenJ_normal ?_
      refine R0 ?_
      refine xV (e_add (q0 rfl) (q0 rfl) (fun _ => ⟨rfl, by omega, by omega⟩)) rfl rfl ?_
      refine xV (e_mv (v := .int _ _) (q0 rfl)) rfl rfl ?_
      refine XN ?_
      exact loopJ_normal (k + 1) (by repeat (first | exact agree_self | exact agree_over | refine agree_upd rfl ?_ | refine agree_updL rfl ?_ | refine agree_over2 rfl ?_)) ⟨rfl, trivial⟩ (fun w hw => hw.tail.tail) rfl ⟨by omega, fun j c' hj hc' => by
        rcases Nat.lt_or_ge j k with h | h
        · exact hkn j c' h hc'
        · have : j = k := by omega
          subst this
          rw [hck] at hc'; cases hc'; exact hmc⟩ (by show 6 - (k + 1) < 6 - k; omega)
    · have hmc : mt ws c = true ∧ ws.length = c.offs.length + 1 := by
        exact mt_yes hx0 hm
      have hp : parseL ws = if ws.any (fun x => x.size == 0) then (zs, 36) else if ws.tail.all (fun x => (numL x).isSome) then (puts c.offs (ws.tail.map nv) (zs.set 0 c.kind), 0) else (zs, 3) := by
        unfold parseL
        rw [hfc k (by omega) hkn, find_drop hck hmc.1]
      refine H_skip ?_
      refine thenJ_normal ?_
      refine H_seq ?_
      refine H_seq ?_
      refine R0 ?_
      refine xV (e_mv (v := .slice _ _ _) (q0 rfl)) rfl rfl ?_
      refine xV (e_len Tryz.underlying39 (q0 rfl)) rfl rfl ?_
      refine xV (e_mv (v := .int _ _) (q0 rfl)) rfl rfl ?_
      refine XN ?_
      refine thenJ_normal ?_
      refine H_block ?_
      refine H_loop [9, 40, 41, 42, 43, 44, 45, 46, 47, 48] (fun j : Nat => [(40, .int .i64 j)]) (fun _ => rowT 77 1 (ptrC b2) xA xc c.offs :: box b6 72 c.cells :: Own b2 b3 bw bc ws zAct) (fun j => j ≤ ws.length ∧ (ws.take j).any (fun x => x.size == 0) = false) (fun j => ws.length - j) 0 ⟨rfl, trivial⟩ (fun w hw => hw) rfl ⟨Nat.zero_le _, rfl⟩ ?_
      rintro j g2 ⟨hjn, hjz⟩
      refine H_seq ?_
      refine R0 ?_
      refine xV (e_lt (q0 rfl) (q0 rfl)) rfl rfl ?_
      refine XN ?_
      refine thenJ_normal ?_
      refine H_seq ?_
      refine H_cond rfl (fun hlj => ?_) (fun hlj => ?_)
      · have hlj' : j < ws.length := by simp at hlj; omega
        obtain ⟨y, hyj⟩ : ∃ y, ws[j]? = some y := ⟨_, List.getElem?_eq_getElem hlj'⟩
        have hs1 := snoc ws j y hyj
        refine H_skip ?_
        refine thenJ_normal ?_
        refine H_seq ?_
        refine H_block ?_
        refine H_seq ?_
        refine R0 ?_
        refine xV (e_idx _ Tryz.underlying39 Tryz.sizeOf9 (q0 rfl) (q0 rfl) (fun _ => ⟨rfl, by omega⟩)) rfl rfl ?_
        refine xV (eL Tryz.isAgg9 (q0 rfl) (rr0 3 rfl hyj rfl)) rfl rfl ?_
        refine xV (e_as (v := .string _) (q0 rfl)) rfl rfl ?_
        refine XN ?_
        refine thenJ_normal ?_
        refine H_seq ?_
        refine R0 ?_
        refine xV (e_mv (v := .string _) (q0 rfl)) rfl rfl ?_
        refine xV (e_eqStr (q0 rfl) (q0 rfl)) rfl rfl ?_
        refine XN ?_
        refine thenJ_normal ?_
        refine H_cond rfl (fun he => ?_) (fun he => ?_)
        · have hy0 : y.size = 0 := by rw [str_eq] at he; exact size0 he
          have hp2 : parseL ws = (zs, 36) := by
            rw [hp, if_pos]
            exact List.any_eq_true.2 ⟨y, List.mem_of_getElem? hyj, by simp [hy0]⟩
          rw [hp2]
          refine R0 ?_
          refine xV (e_build Tryz.underlying76 fl76 Tryz.zeroValue76 (pt (v := .int _ _) rfl E.p0) rfl) rfl rfl ?_
          refine xV (e_mkI Tryz.underlying76 (by intro ms h; cases h) (q0 rfl)) rfl rfl ?_
          refine X_panic rfl ?_
          refine blockJ_panic ?_
          refine thenJ_panic ?_
          refine loopJ_panic ?_
          refine blockJ_panic ?_
          refine thenJ_panic ?_
          refine blockJ_panic ?_
          refine thenJ_panic ?_
          refine loopJ_panic ?_
          refine blockJ_panic ?_
          refine thenJ_panic ?_
          exact pan_c rfl rfl rfl rfl (fun w hw => hw.pick [4, 5, 6] (by decide)) rfl (fun w hw => ⟨rfl, blw_of hw⟩)
        · have hy0 : y.size ≠ 0 := by rw [str_eq] at he; exact size1 he
          refine H_skip ?_
          refine blockJ_normal ?_
          refine thenJ_normal ?_
          refine R0 ?_
          refine xV (e_add (q0 rfl) (q0 rfl) (fun _ => ⟨rfl, by omega, by omega⟩)) rfl rfl ?_
          refine xV (e_mv (v := .int _ _) (q0 rfl)) rfl rfl ?_
          refine XN ?_
          exact loopJ_normal (j + 1) (by repeat (first | exact agree_self | exact agree_over | refine agree_upd rfl ?_ | refine agree_updL rfl ?_ | refine agree_over2 rfl ?_)) ⟨rfl, trivial⟩ (fun w hw => hw) rfl ⟨by omega, by rw [hs1, List.any_append, hjz]; simp [hy0]⟩ (by show ws.length - (j + 1) < ws.length - j; omega)
      · have hje : j = ws.length := by simp at hlj; omega
        subst hje
        rw [List.take_length] at hjz
        rw [hp, if_neg (by rw [hjz]; decide)]
        refine H_exit ?_
        refine thenJ_exit ?_
        refine loopJ_exit ?_
        refine blockJ_hit ?_
        refine thenJ_normal ?_
        refine H_seq ?_
        refine R0 ?_
        refine xV (e_fld Tryz.underlying72 rfl Tryz.sizeOf3 rfl (q0 rfl)) rfl rfl ?_
        refine xV (eL Tryz.isAgg3 (q0 rfl)) rfl rfl ?_
        refine xV (e_fld Tryz.underlying30 rfl Tryz.sizeOf3 rfl (q0 rfl)) rfl rfl ?_
        refine X_st (v := .int _ _) rfl rfl Tryz.sizeOf3 ?_
        refine XN ?_
        refine thenJ_normal ?_
        refine H_seq ?_
        refine H_seq ?_
        refine R0 ?_
        refine xV (e_mv (v := .slice _ _ _) (q0 rfl)) rfl rfl ?_
        refine xV (e_len Tryz.underlying73 (q0 rfl)) rfl rfl ?_
        refine xV (e_mv (v := .int _ _) (q0 rfl)) rfl rfl ?_
        refine XN ?_
        refine thenJ_normal ?_
        refine H_block ?_
        refine H_loop [10, 11, 54, 55, 56, 57, 58, 59, 60, 61, 62, 63, 64, 65, 66, 67] (fun j : Nat => [(54, .int .i64 j)]) (fun j => rowT 77 1 (ptrC b2) xA xc c.offs :: box b6 72 c.cells :: Own b2 b3 bw bc ws ((puts (c.offs.take j) ((ws.tail.map nv).take j) (zs.set 0 c.kind)).map I64)) (fun j => j ≤ c.offs.length ∧ (ws.tail.take j).all (fun x => (numL x).isSome) = true) (fun j => c.offs.length - j) 0 ⟨rfl, trivial⟩ (fun w hw => hw) rfl ⟨Nat.zero_le _, rfl⟩ ?_
        rintro j g3 ⟨hjn, hjs⟩
        have hpl : ((puts (c.offs.take j) ((ws.tail.map nv).take j) (zs.set 0 c.kind)).map I64).length = 20 := by rw [List.length_map, puts_len]; rfl
        refine H_seq ?_
        refine R0 ?_
        refine xV (e_lt (q0 rfl) (q0 rfl)) rfl rfl ?_
        refine XN ?_
        refine thenJ_normal ?_
        refine H_seq ?_
        refine H_cond rfl (fun hlp => ?_) (fun hlp => ?_)
        · have hlp' : j < c.offs.length := by simp at hlp; omega
          obtain ⟨o, hoj⟩ : ∃ o, c.offs[j]? = some o := ⟨_, List.getElem?_eq_getElem hlp'⟩
          obtain ⟨y, hyj⟩ : ∃ y, ws[j + 1]? = some y := ⟨_, List.getElem?_eq_getElem (by omega)⟩
          have hyt : ws.tail[j]? = some y := by rw [List.getElem?_tail]; exact hyj
          have ho20 := hoz o (List.mem_of_getElem? hoj)
          refine H_know (fun w hw => rowT_at (j := 0) hw rfl (by omega)) fun ⟨pb, hpb⟩ => ?_
          subst hpb
          cases hny : numL y with
          | none =>
            have hns : ¬(ws.tail.all (fun x => (numL x).isSome) = true) := fun h => by
              have := List.all_eq_true.1 h y (List.mem_of_getElem? hyt)
              rw [hny] at this; cases this
            rw [if_neg hns]
            refine H_skip ?_
            refine thenJ_normal ?_
            refine H_seq ?_
            refine H_block ?_
            refine H_seq ?_
            refine R0 ?_
            refine xV (e_mv (v := .int _ _) (q0 rfl)) rfl rfl ?_
            refine xV (e_idx _ Tryz.underlying73 Tryz.sizeOf77 (q0 rfl) (q0 rfl) (fun _ => ⟨rfl, by omega⟩)) rfl rfl ?_
            refine xV (eL Tryz.isAgg77 (q0 rfl) (rr0 0 rfl hoj rfl)) rfl rfl ?_
            refine xV (e_as (v := .int _ _) (q0 rfl)) rfl rfl ?_
            refine xV (e_as (v := .pointer _) (q0 rfl)) rfl rfl ?_
            refine XN ?_
            refine thenJ_normal ?_
            refine R0 ?_
            refine xV (e_mv (v := .pointer _) (q0 rfl)) rfl rfl ?_
            refine xV (e_mv (v := .slice _ _ _) (q0 rfl)) rfl rfl ?_
            refine xV (e_mv (v := .int _ _) (q0 rfl)) rfl rfl ?_
            refine xV (e_add (q0 rfl) (q0 rfl) (fun _ => ⟨rfl, by omega, by omega⟩)) rfl rfl ?_
            refine xV (e_idx (j + 1) Tryz.underlying39 Tryz.sizeOf9 (q0 rfl) (q0 rfl) (fun _ => ⟨by omega, by omega⟩)) rfl rfl ?_
            refine xV (eL Tryz.isAgg9 (q0 rfl) (rr0 3 rfl hyj rfl)) rfl rfl ?_
            refine X_callP0 rfl (en Tryz.call18 (ha1 (q0 rfl))) (fun w hw => numberBad_w y w (hl.und.mem hw) (hz y (List.mem_of_getElem? hyj)) hny) ?_
            refine blockJ_panic ?_
            refine thenJ_panic ?_
            refine loopJ_panic ?_
            refine blockJ_panic ?_
            refine thenJ_panic ?_
            refine blockJ_panic ?_
            refine thenJ_panic ?_
            refine loopJ_panic ?_
            refine blockJ_panic ?_
            refine thenJ_panic ?_
            exact pan_c rfl rfl rfl hpl (fun w hw => hw.pick [4, 5, 6] (by decide)) rfl (fun w hw => ⟨rfl, blw_of hw⟩)
          | some v =>
            have hst : (puts (c.offs.take (j + 1)) ((ws.tail.map nv).take (j + 1)) (zs.set 0 c.kind)).map I64 = setAt ((puts (c.offs.take j) ((ws.tail.map nv).take j) (zs.set 0 c.kind)).map I64) o [.int .i64 v] := by
              rw [snoc c.offs j o hoj, snoc (ws.tail.map nv) j v (by rw [List.getElem?_map, hyt]; simp [nv, hny]), puts_snoc _ _ _ _ _ (by simp; omega), List.map_set]
              rfl
            refine H_skip ?_
            refine thenJ_normal ?_
            refine H_seq ?_
            refine H_block ?_
            refine H_seq ?_
            refine R0 ?_
            refine xV (e_mv (v := .int _ _) (q0 rfl)) rfl rfl ?_
            refine xV (e_idx _ Tryz.underlying73 Tryz.sizeOf77 (q0 rfl) (q0 rfl) (fun _ => ⟨rfl, by omega⟩)) rfl rfl ?_
            refine xV (eL Tryz.isAgg77 (q0 rfl) (rr0 0 rfl hoj rfl)) rfl rfl ?_
            refine xV (e_as (v := .int _ _) (q0 rfl)) rfl rfl ?_
            refine xV (e_as (v := .pointer _) (q0 rfl)) rfl rfl ?_
            refine XN ?_
            refine thenJ_normal ?_
            refine R0 ?_
            refine xV (e_mv (v := .pointer _) (q0 rfl)) rfl rfl ?_
            refine xV (e_mv (v := .slice _ _ _) (q0 rfl)) rfl rfl ?_
            refine xV (e_mv (v := .int _ _) (q0 rfl)) rfl rfl ?_
            refine xV (e_add (q0 rfl) (q0 rfl) (fun _ => ⟨rfl, by omega, by omega⟩)) rfl rfl ?_
            refine xV (e_idx (j + 1) Tryz.underlying39 Tryz.sizeOf9 (q0 rfl) (q0 rfl) (fun _ => ⟨by omega, by omega⟩)) rfl rfl ?_
            refine xV (eL Tryz.isAgg9 (q0 rfl) (rr0 3 rfl hyj rfl)) rfl rfl ?_
            refine xC0 rfl (en Tryz.call18 (ha1 (q0 rfl))) (fun w hw => numberOk_w y v w (hl.und.mem hw) (hz y (List.mem_of_getElem? hyj)) hny) rfl rfl ?_
            refine xV (e_nilc (q0 rfl)) rfl rfl ?_
            refine X_store (v := .int .i64 v) 6 rfl rfl Tryz.sizeOf3 rfl rfl rfl (by rw [hpl]; exact Nat.ble_eq_true_of_le (by simp only [Value.cells, List.length_cons, List.length_nil]; omega)) ?_
            refine XN ?_
            refine blockJ_normal ?_
            refine thenJ_normal ?_
            refine R0 ?_
            refine xV (e_add (q0 rfl) (q0 rfl) (fun _ => ⟨rfl, by omega, by omega⟩)) rfl rfl ?_
            refine xV (e_mv (v := .int _ _) (q0 rfl)) rfl rfl ?_
            refine XN ?_
            exact loopJ_normal (j + 1) (by repeat (first | exact agree_self | exact agree_over | refine agree_upd rfl ?_ | refine agree_updL rfl ?_ | refine agree_over2 rfl ?_)) ⟨rfl, trivial⟩ (fun w hw => by rw [hst]; exact hw) rfl ⟨by omega, by rw [snoc _ _ _ hyt, List.all_append, hjs]; simp [hny]⟩ (by show c.offs.length - (j + 1) < c.offs.length - j; omega)
        · have hje : j = c.offs.length := by simp at hlp; omega
          subst hje
          have htl : ws.tail.length = c.offs.length := by rw [List.length_tail]; omega
          rw [← htl, List.take_length] at hjs
          rw [if_pos hjs]
          rw [List.take_length, show (ws.tail.map nv).take c.offs.length = ws.tail.map nv by rw [← htl, ← List.length_map (f := nv), List.take_length]] at hpl ⊢
          have hpl2 : (puts c.offs (ws.tail.map nv) (zs.set 0 c.kind)).length = 20 := by rw [puts_len]; rfl
          clear hpl
          generalize hcs : puts c.offs (ws.tail.map nv) (zs.set 0 c.kind) = ns at hpl2 ⊢
          match ns, hpl2, hcs with
          | [n0, n1, n2, n3, n4, n5, n6, n7, n8, n9, n10, n11, n12, n13, n14, n15, n16, n17, n18, n19], _, hcs =>
          refine H_exit ?_
          refine thenJ_exit ?_
          refine loopJ_exit ?_
          refine blockJ_hit ?_
          refine thenJ_normal ?_
          refine H_seq ?_
          refine R0 ?_
          refine xV (eS Tryz.isAgg30 Tryz.sizeOf30 (q0 rfl)) rfl rfl ?_
          refine X_st (v := .agg _) rfl rfl Tryz.sizeOf30 ?_
          refine X_st (v := .int _ _) rfl rfl Tryz.sizeOf31 ?_
          refine XN ?_
          refine thenJ_normal ?_
          refine H_ret ?_
          refine blockJ_ret ?_
          refine thenJ_ret ?_
          refine loopJ_ret ?_
          refine blockJ_ret ?_
          refine thenJ_ret ?_
          refine ret_c (cs := [.int .i64 n0, .int .i64 n1, .int .i64 n2, .int .i64 n3, .int .i64 n4, .int .i64 n5, .int .i64 n6, .int .i64 n7, .int .i64 n8, .int .i64 n9, .int .i64 n10, .int .i64 n11, .int .i64 n12, .int .i64 n13, .int .i64 n14, .int .i64 n15, .int .i64 n16, .int .i64 n17, .int .i64 n18, .int .i64 n19]) rfl rfl rfl rfl ?_ ?_ ?_
          · exact fun w hw => by
              have h : Mem _ [dcall (defD b3 b2), box b3 31 [.int .i64 0], box b2 30 (setAt (([n0, n1, n2, n3, n4, n5, n6, n7, n8, n9, n10, n11, n12, n13, n14, n15, n16, n17, n18, n19] : List Int).map I64) 0 [.int .i64 n0, .int .i64 n1, .int .i64 n2, .int .i64 n3, .int .i64 n4, .int .i64 n5, .int .i64 n6, .int .i64 n7, .int .i64 n8, .int .i64 n9, .int .i64 n10, .int .i64 n11, .int .i64 n12, .int .i64 n13, .int .i64 n14, .int .i64 n15, .int .i64 n16, .int .i64 n17, .int .i64 n18, .int .i64 n19])] w := hw.pick [4, 5, 6] (by decide)
              rwa [setAt_all (by rfl)] at h
          · rfl
          · exact fun w hw => ⟨rfl, blw_of hw⟩
  · have hk : k = 6 := by simp at hlt; omega
    subst hk
    have hp : parseL ws = (zs, 36) := by unfold parseL; rw [hfc 6 (by omega) hkn]; rfl
    rw [hp]
    refine H_exit ?_
    refine thenJ_exit ?_
    refine loopJ_exit ?_
    refine blockJ_hit ?_
    refine thenJ_normal ?_
    refine R0 ?_
    refine xV (e_build Tryz.underlying76 fl76 Tryz.zeroValue76 (pt (v := .int _ _) rfl E.p0) rfl) rfl rfl ?_
    refine xV (e_mkI Tryz.underlying76 (by intro ms h; cases h) (q0 rfl)) rfl rfl ?_
    refine X_panic rfl ?_
    exact pan_c rfl rfl rfl rfl (fun w hw => hw.pick [2, 3, 4] (by decide)) rfl (fun w hw => ⟨rfl, blw_of hw⟩)
end Go.Proofs.Con

/-
  The walk: console.Print.
-/
namespace Go.Proofs.Con
open Go Go.RowKit Go.Proofs.E

noncomputable def atab : O.Tab := ⟨Tryz.prog, [], fun _ => True⟩
def ks20 : List Nat := List.replicate 20 0
theorem act_plan : O.planB atab 30 ks20 = true := by kernel_rfl
theorem eqV_int : ∀ (xs ys : List Int), xs.length = ys.length → O.EqV (List.replicate xs.length 0) (xs.map I64) (ys.map I64) (xs == ys)
  | [], [], _ => rfl
  | x :: xs, y :: ys, h => ⟨decide (x = y), xs == ys, ⟨.i64, x, y, rfl, rfl, rfl⟩, eqV_int xs ys (by simpa using h), by
      rw [Bool.eq_iff_iff]; simp⟩
  | [], _ :: _, h => by simp at h
  | _ :: _, [], h => by simp at h
theorem act_eq (xs ys : List Int) (h1 : xs.length = 20) (h2 : ys.length = 20) (w : World) : (Op.equal 30 (.agg (xs.map I64).toArray) (.agg (ys.map I64).toArray)).run Tryz.prog w = .ok (xs == ys) w :=
  (O.planB_ok act_plan).2.1 _ _ _ (by have := eqV_int xs ys (by rw [h1, h2]); rw [h1] at this; exact this) w
theorem act_gd : Tryz.prog.eqGuardType Tryz.prog.depth 30 = false := (O.planB_ok act_plan).1
def okN (n : Int) : Bool := decide (-1125899906842624 ≤ n ∧ n ≤ 1125899906842624)
def prt : List Nat → List Int → ByteArray → Option (ByteArray × List Int)
  | [], cs, l => some (l, cs)
  | o :: os, cs, l => if okN (cs.getD o 0) then prt os (cs.set o 0) (l ++ (⟨#[32]⟩ ++ txt (cs.getD o 0))) else none
def wd (c : Co) : ByteArray := ⟨c.word.toArray⟩
def printC (c : Co) (a : List Int) : Option ByteArray := match prt c.offs a (wd c) with
  | some (l, cs) => if cs == zs.set 0 (a.headD 0) then some l else none
  | none => none
def printL (a : List Int) : ByteArray × Int := match cos.find? (fun c => decide (c.kind = a.headD 0)) with
  | some c => match printC c a with
    | some l => (l, 0)
    | none => (⟨#[]⟩, 36)
  | none => (⟨#[]⟩, 36)
theorem find_kind {k : Nat} {c : Co} (hc : cos[k]? = some c) : cos.find? (fun d => decide (d.kind = c.kind)) = some c := by
  match k, hc with
  | 0, hc => cases hc; rfl
  | 1, hc => cases hc; rfl
  | 2, hc => cases hc; rfl
  | 3, hc => cases hc; rfl
  | 4, hc => cases hc; rfl
  | 5, hc => cases hc; rfl
  | k + 6, hc => cases hc
theorem word_small {k : Nat} {c : Co} (hc : cos[k]? = some c) : (wd c).size ≤ 10 := by
  match k, hc with
  | 0, hc => cases hc; decide
  | 1, hc => cases hc; decide
  | 2, hc => cases hc; decide
  | 3, hc => cases hc; decide
  | 4, hc => cases hc; decide
  | 5, hc => cases hc; decide
  | k + 6, hc => cases hc
def defP (be bl : Nat) : Deferred := { target := .fn (.func 14) #[], args := #[.pointer (some ⟨be, 0, none⟩), .func (.func 23) #[] #[.pointer (some ⟨bl, 0, none⟩)]] }
abbrev twoP (bl be : Nat) (s : ByteArray) (e : Int) : List E.Item := [box be 31 [.int .i64 e], box bl 9 [.string s]]
theorem clearP_w (b5 bl be : Nat) (s : ByteArray) (e : Int) {w0 w : World} (hw : Mem w0 (box b5 76 [.int .i64 e] :: twoP bl be s e) w) : Calls Tryz.prog 23 #[.pointer (some ⟨bl, 0, none⟩)] w fun r w' => ∃ _x : Unit, r = .returned (.tuple #[]) ∧ Mem w0 (box b5 76 [.int .i64 e] :: twoP bl be ⟨#[]⟩ e) w' := by
  refine H_enterM hw rfl Tryz.func23 rfl Tryz.ntmps23 rfl ?_
  refine R0 ?_
  refine X_st (v := .string _) rfl rfl Tryz.sizeOf9 ?_
  refine XN ?_
  exact end0 rfl rfl fun w' hw => ⟨(), rfl, hw⟩
theorem caughtP_w (bl be : Nat) (s : ByteArray) (e : Int) {w0 w : World} (hw : Mem w0 (twoP bl be s 0) w) : CallsDIn (FW none) 0 Tryz.prog 14 #[.pointer (some ⟨be, 0, none⟩), .func (.func 23) #[] #[.pointer (some ⟨bl, 0, none⟩)]] (.panicking (flt e)) w fun r u' w' => (∃ v, r = .returned v) ∧ settle u' = .returning ∧ Mem w0 (twoP bl be ⟨#[]⟩ e) w' := by
  refine H_enterD Tryz.func14 rfl Tryz.ntmps14 (by rfl) (by rfl) (by rfl) rfl (.inr ⟨rfl, rfl⟩) hw ?_
  refine H_seq ?_
  refine R0 ?_
  refine xV (e_mv (q0 rfl)) rfl rfl ?_
  refine xV (e_neNilI1 Tryz.underlying20 (q0 rfl)) rfl rfl ?_
  refine XN ?_
  refine thenJ_normal ?_
  refine H_cond rfl (fun h => ?_) (fun h => ?_)
  · refine H_seq ?_
    refine R0 ?_
    refine xV (e_mv (q0 rfl)) rfl rfl ?_
    refine xV (e_asI Tryz.underlying76 (by intro ms h; cases h) (q0 rfl)) rfl rfl ?_
    refine xV (e_mv (q0 rfl)) rfl rfl ?_
    refine xV (e_ext (q0 rfl) rfl) rfl rfl ?_
    refine xV (e_ext (q0 rfl) rfl) rfl rfl ?_
    refine X_alloc Tryz.zeroValue76 rfl fun b5 => ?_
    refine X_st (v := .agg _) rfl rfl Tryz.sizeOf76 ?_
    refine xV (e_as (v := .bool _) (q0 rfl)) rfl rfl ?_
    refine XN ?_
    refine thenJ_normal ?_
    refine H_seq ?_
    refine H_seq ?_
    refine R0 ?_
    refine xV (e_mv (v := .bool _) (q0 rfl)) rfl rfl ?_
    refine xV (e_not (q0 rfl)) rfl rfl ?_
    refine XN ?_
    refine thenJ_normal ?_
    refine H_cond rfl (fun h2 => ?_) (fun h2 => ?_)
    · cases h2
    · refine H_skip ?_
      refine thenJ_normal ?_
      refine H_seq ?_
      refine R0 ?_
      refine xV (e_mv (v := .pointer _) (q0 rfl)) rfl rfl ?_
      refine xV (e_fld Tryz.underlying76 rfl Tryz.sizeOf31 rfl (q0 rfl)) rfl rfl ?_
      refine xV (eL Tryz.isAgg31 (q0 rfl)) rfl rfl ?_
      refine xV (e_nilc (q0 rfl)) rfl rfl ?_
      refine X_st (v := .int _ _) rfl rfl Tryz.sizeOf31 ?_
      refine XN ?_
      refine thenJ_normal ?_
      refine R0 ?_
      refine xV (e_mv (q0 rfl)) rfl rfl ?_
      refine X_eff (f_callM (enV (cap := [.pointer (some ⟨bl, 0, none⟩)]) (al := [.pointer (some ⟨bl, 0, none⟩)]) Tryz.call23 (q0 rfl) (fun _ => rfl)) (fun w hw => clearP_w b5 bl be s e hw) rfl (fun _ => rfl) fun _ => ?_)
      refine XN ?_
      exact endD rfl (res0 rfl) fun w' hw => ⟨⟨_, rfl⟩, rfl, hw.pick [1, 2] (by decide)⟩
  · cases h
theorem caughtP0_w (bl be : Nat) {w0 w : World} {L : List E.Item} (hk : marks L = []) (hw : Mem w0 L w) : CallsDIn (FW none) 0 Tryz.prog 14 #[.pointer (some ⟨be, 0, none⟩), .func (.func 23) #[] #[.pointer (some ⟨bl, 0, none⟩)]] .returning w fun r u' w' => (∃ v, r = .returned v) ∧ settle u' = .returning ∧ Mem w0 L w' := by
  refine H_enterD Tryz.func14 rfl Tryz.ntmps14 (by rfl) (by rfl) (by rfl) hk (.inl ⟨rfl, rfl, rfl⟩) hw ?_
  refine H_seq ?_
  refine R0 ?_
  refine xV (e_mv (q0 rfl)) rfl rfl ?_
  refine xV (e_neNilI0 Tryz.underlying20 (q0 rfl)) rfl rfl ?_
  refine XN ?_
  refine thenJ_normal ?_
  refine H_cond rfl (fun h => ?_) (fun h => ?_)
  · cases h
  · refine H_skip ?_
    exact endD hk (res0 rfl) fun w' hw => ⟨⟨_, rfl⟩, rfl, hw⟩
theorem invP_c (be bl : Nat) : ∀ w, (invoke (.fn (.func 14) #[]) #[.pointer (some ⟨be, 0, none⟩), .func (.func 23) #[] #[.pointer (some ⟨bl, 0, none⟩)]]).run Tryz.prog w = .ok (.enter 14 #[.pointer (some ⟨be, 0, none⟩), .func (.func 23) #[] #[.pointer (some ⟨bl, 0, none⟩)]]) w := fun w => by
  simp [invoke, Tryz.call14]
section
variable {fn : Func} {R : Ending → World → Prop} {w0 : World} {L : List E.Item} {f : Fr} {be bl : Nat} {s : ByteArray} {e : Int}
theorem panP_c (hr : fn.results = #[.cell 2 9, .cell 3 31]) (hf2 : f 2 = .pointer (some ⟨bl, 0, none⟩)) (hf3 : f 3 = .pointer (some ⟨be, 0, none⟩)) (hm : ∀ w, Mem w0 L w → Mem w0 (dcall (defP be bl) :: twoP bl be s 0) w) (hk : marks L = [defP be bl])
    (h : ∀ w, Mem w0 (twoP bl be ⟨#[]⟩ e) w → R (.returned (.tuple #[.string ⟨#[]⟩, .int .i64 e])) w) : retP ⟨Tryz.prog, none, 51⟩ fn R (.panic (flt e)) w0 L f :=
  retP_mem hm hk.symm (panP_d (L1 := twoP bl be s 0) rfl (invP_c be bl) (fun w hw => caughtP_w bl be s e hw) (resC1 1 0 hr hf2 hf3 Tryz.isAgg9 Tryz.isAgg31 rfl rfl) h)
theorem retP_c (hr : fn.results = #[.cell 2 9, .cell 3 31]) (hf2 : f 2 = .pointer (some ⟨bl, 0, none⟩)) (hf3 : f 3 = .pointer (some ⟨be, 0, none⟩)) (hm : ∀ w, Mem w0 L w → Mem w0 (dcall (defP be bl) :: twoP bl be s 0) w) (hk : marks L = [defP be bl])
    (h : ∀ w, Mem w0 (twoP bl be s 0) w → R (.returned (.tuple #[.string s, .int .i64 0])) w) : retP ⟨Tryz.prog, none, 51⟩ fn R .ret w0 L f :=
  retP_mem hm hk.symm (retP_d (L1 := twoP bl be s 0) rfl (invP_c be bl) (fun w hw => caughtP0_w bl be rfl hw) (resC1 1 0 hr hf2 hf3 Tryz.isAgg9 Tryz.isAgg31 rfl rfl) h)
end
abbrev OwnP (b1 b2 b3 bc : Nat) (line : ByteArray) (a : List Int) : List E.Item := [rowT 72 3 Co.cells (some ⟨bc, 0, none⟩) 6 cos, dcall (defP b3 b2), box b3 31 [.int .i64 0], box b2 9 [.string line], box b1 30 (a.map I64)]
theorem one_map (l : List Int) : (l.map I64).all oneCell = true := by
  rw [List.all_eq_true]
  intro x hx
  obtain ⟨n, _, rfl⟩ := List.mem_map.1 hx
  rfl
theorem cells_map (l : List Int) : (Value.agg (l.map I64).toArray).cells.toList = l.map I64 := rfl
abbrev LPi (xA : Option Addr) (xc b1 b2 b3 b5 b6 bc : Nat) (c : Co) (a : List Int) (ln : ByteArray) (xs : List Int) : List E.Item := rowT 77 1 (ptrC b6) xA xc c.offs :: box b6 30 (xs.map I64) :: box b5 72 c.cells :: OwnP b1 b2 b3 bc ln a
theorem prt_nil (cs : List Int) (l : ByteArray) : prt [] cs l = some (l, cs) := rfl
set_option maxRecDepth 20000 in
set_option maxHeartbeats 1000000 in
theorem print_w (a0 : Int) (ar : List Int) (har : ar.length = 19) (w : World) (hl : Lw w) : Calls Tryz.prog 9 #[.agg ((a0 :: ar).map I64).toArray] w fun e w' => e = .returned (.tuple #[.string (printL (a0 :: ar)).1, .int .i64 (printL (a0 :: ar)).2]) ∧ Blw w w' := by
  have hal : ((a0 :: ar).map I64).length = 20 := by simp [har]
  refine H_enterP0 Tryz.func9 rfl Tryz.ntmps9 rfl ?_
  refine H_seq ?_
  refine R0 ?_
  refine X_box (v := .agg _) rfl rfl fun b1 => ?_
  refine X_alloc Tryz.zeroValue9 rfl fun b2 => ?_
  refine X_alloc Tryz.zeroValue31 rfl fun b3 => ?_
  refine XN ?_
  refine thenJ_normal ?_
  refine H_seq ?_
  refine R0 ?_
  refine xV e_fn rfl rfl ?_
  refine X_defer (d := defP b3 b2) rfl (f_defer rfl) ?_
  refine XN ?_
  refine thenJ_normal ?_
  refine H_seq ?_
  refine H_seq ?_
  refine R0 ?_
  refine xCX (en Tryz.call17 (ha0)) (fun w _ => commands_w w) rfl (fun _ => rfl) fun bc => ?_
  refine xV (e_len Tryz.underlying68 (q0 rfl)) rfl rfl ?_
  refine xV (e_mv (v := .int _ _) (q0 rfl)) rfl rfl ?_
  refine XN ?_
  refine thenJ_normal ?_
  refine H_block ?_
  refine H_loop [5, 6, 8, 12, 13, 14, 15, 16, 17, 18, 19, 20, 21, 22, 23, 24, 25, 26, 27, 28, 29, 30, 31, 32, 33, 34, 35, 36, 37, 38, 39, 40, 41, 42, 43, 44, 45, 46, 47, 48] (fun s : Nat × ByteArray => [(12, .int .i64 s.1)]) (fun s => OwnP b1 b2 b3 bc s.2 (a0 :: ar)) (fun s => s.1 ≤ 6 ∧ ∀ j c, j < s.1 → cos[j]? = some c → c.kind = a0 → printC c (a0 :: ar) = none) (fun s => 6 - s.1) (0, ⟨#[]⟩) ⟨rfl, trivial⟩ (fun w hw => hw) rfl ⟨by show 0 ≤ 6; omega, fun j c hj => absurd hj (Nat.not_lt_zero j)⟩ ?_
  rintro ⟨k, line⟩ g ⟨hk6, hkn⟩
  refine H_seq ?_
  refine R0 ?_
  refine xV (e_lt (q0 rfl) (q0 rfl)) rfl rfl ?_
  refine XN ?_
  refine thenJ_normal ?_
  refine H_seq ?_
  refine H_cond rfl (fun hlt => ?_) (fun hlt => ?_)
  · have hlt' : k < 6 := by simp at hlt; omega
    obtain ⟨c, hck⟩ : ∃ c, cos[k]? = some c := ⟨_, List.getElem?_eq_getElem hlt'⟩
    obtain ⟨hol, hoz⟩ := offs_ok hck
    refine H_skip ?_
    refine thenJ_normal ?_
    refine H_seq ?_
    refine H_block ?_
    refine H_seq ?_
    refine R0 ?_
    refine xV (e_idx _ Tryz.underlying68 Tryz.sizeOf72 (q0 rfl) (q0 rfl) (fun _ => ⟨rfl, by omega⟩)) rfl rfl ?_
    refine xV (eS Tryz.isAgg72 Tryz.sizeOf72 (q0 rfl) (rrs 0 rfl hck)) rfl rfl ?_
    refine X_alloc Tryz.zeroValue72 rfl fun b5 => ?_
    refine X_st (v := .agg _) rfl rfl Tryz.sizeOf72 ?_
    refine XN ?_
    refine thenJ_normal ?_
    refine H_seq ?_
    refine H_seq ?_
    refine R0 ?_
    refine xV (e_fld Tryz.underlying72 rfl Tryz.sizeOf3 rfl (q0 rfl)) rfl rfl ?_
    refine xV (eL Tryz.isAgg3 (q0 rfl)) rfl rfl ?_
    refine xV (e_fld Tryz.underlying30 rfl Tryz.sizeOf3 rfl (q0 rfl)) rfl rfl ?_
    refine xV (eL Tryz.isAgg3 (q0 rfl)) rfl rfl ?_
    refine xV (e_ne (q0 rfl) (q0 rfl)) rfl rfl ?_
    refine XN ?_
    refine thenJ_normal ?_
    refine H_cond rfl (fun hm => ?_) (fun hm => ?_)
    · have hne : c.kind ≠ a0 := by simpa using hm
      refine H_exit ?_
      refine thenJ_exit ?_
      refine blockJ_hit ?_
      refine thenJ_normal ?_
      refine R0 ?_
      refine xV (e_add (q0 rfl) (q0 rfl) (fun _ => ⟨rfl, by omega, by omega⟩)) rfl rfl ?_
      refine xV (e_mv (v := .int _ _) (q0 rfl)) rfl rfl ?_
      refine XN ?_
      exact loopJ_normal (k + 1, line) (by repeat (first | exact agree_self | exact agree_over | refine agree_upd rfl ?_ | refine agree_updL rfl ?_ | refine agree_over2 rfl ?_)) ⟨rfl, trivial⟩ (fun w hw => hw.tail) rfl ⟨by show k + 1 ≤ 6; omega, fun j c' hj hc' => by
        rcases Nat.lt_or_ge j k with h | h
        · exact hkn j c' h hc'
        · have hj : j < k + 1 := hj
          have : j = k := by omega
          subst this
          rw [hck] at hc'; cases hc'; exact fun h => absurd h hne⟩ (by show 6 - (k + 1) < 6 - k; omega)
    · have hke : c.kind = a0 := by simpa using hm
      have hpl : printL (a0 :: ar) = match printC c (a0 :: ar) with
          | some l => (l, 0)
          | none => (⟨#[]⟩, 36) := by
        unfold printL
        rw [List.headD_cons, ← hke, find_kind hck]
      refine H_skip ?_
      refine thenJ_normal ?_
      refine H_seq ?_
      refine R0 ?_
      refine xV (e_fld Tryz.underlying72 rfl Tryz.sizeOf9 rfl (q0 rfl)) rfl rfl ?_
      refine xV (eL Tryz.isAgg9 (q0 rfl)) rfl rfl ?_
      refine X_st (v := .string _) rfl rfl Tryz.sizeOf9 ?_
      refine XN ?_
      refine thenJ_normal ?_
      refine H_seq ?_
      refine R0 ?_
      refine xV (eS Tryz.isAgg30 Tryz.sizeOf30 (q0 rfl) (hl := hal)) rfl rfl ?_
      refine X_alloc Tryz.zeroValue30 rfl fun b6 => ?_
      refine X_store (v := .agg ((a0 :: ar).map I64).toArray) 0 rfl rfl Tryz.sizeOf30 (by simp [Value.cells, har]) (one_map _) rfl (by rw [cells_map, hal]; rfl) ?_
      refine XN ?_
      refine thenJ_normal ?_
      refine H_seq ?_
      refine H_seq ?_
      refine R0 ?_
      refine xV (e_fld Tryz.underlying72 rfl Tryz.sizeOf70 rfl (q0 rfl)) rfl rfl ?_
      refine xV (eL Tryz.isAgg70 (q0 rfl)) rfl rfl ?_
      refine xCX (enV (cap := []) (al := [.pointer (some ⟨b6, 0, none⟩)]) (enters_c hck) (q0 rfl) (fun _ => rfl)) (fun w _ => args_w b6 w hck) rfl (fun _ => rfl) fun ⟨xA, xc⟩ => ?_
      refine xV (e_len Tryz.underlying73 (q0 rfl)) rfl rfl ?_
      refine xV (e_mv (v := .int _ _) (q0 rfl)) rfl rfl ?_
      refine XN ?_
      refine thenJ_normal ?_
      refine H_block ?_
      refine H_loop [8, 28, 29, 30, 31, 32, 33, 34, 35, 36, 37, 38, 39, 40, 41] (fun s : Nat × ByteArray × List Int => [(28, .int .i64 s.1)]) (fun s => LPi xA xc b1 b2 b3 b5 b6 bc c (a0 :: ar) s.2.1 s.2.2) (fun s => s.1 ≤ c.offs.length ∧ s.2.2.length = 20 ∧ s.2.1.size ≤ 10 + 20 * s.1 ∧ prt c.offs (a0 :: ar) (wd c) = prt (c.offs.drop s.1) s.2.2 s.2.1) (fun s => c.offs.length - s.1) (0, wd c, a0 :: ar) ⟨rfl, trivial⟩ (fun w hw => by have hw : Mem _ (_ :: box b6 30 (setAt zAct 0 ((a0 :: ar).map I64)) :: _) w := hw; rw [setAt_all (by rw [hal]; rfl)] at hw; exact hw) rfl ⟨Nat.zero_le _, by simp [har], by have := word_small hck; omega, rfl⟩ ?_
      rintro ⟨j, ln, xs⟩ g2 ⟨hjn, hxl, hls, hpr⟩
      have hjn : j ≤ c.offs.length := hjn
      have hxl : xs.length = 20 := hxl
      have hls : ln.size ≤ 10 + 20 * j := hls
      have hpr : prt c.offs (a0 :: ar) (wd c) = prt (c.offs.drop j) xs ln := hpr
      refine H_seq ?_
      refine R0 ?_
      refine xV (e_lt (q0 rfl) (q0 rfl)) rfl rfl ?_
      refine XN ?_
      refine thenJ_normal ?_
      refine H_seq ?_
      refine H_cond rfl (fun hlp => ?_) (fun hlp => ?_)
      · have hlp' : j < c.offs.length := by simp at hlp; omega
        obtain ⟨o, hoj⟩ : ∃ o, c.offs[j]? = some o := ⟨_, List.getElem?_eq_getElem hlp'⟩
        have ho20 := hoz o (List.mem_of_getElem? hoj)
        have hdr : c.offs.drop j = o :: c.offs.drop (j + 1) := by
          rw [List.drop_eq_getElem_cons hlp']
          rw [List.getElem?_eq_getElem hlp'] at hoj
          cases hoj; rfl
        rw [hdr] at hpr
        obtain ⟨n, hn⟩ : ∃ n, n = xs.getD o 0 := ⟨_, rfl⟩
        have hxn : (xs.map I64)[o]? = some (.int .i64 n) := by
          rw [List.getElem?_map, hn, List.getD_eq_getElem?_getD, List.getElem?_eq_getElem (by omega)]; rfl
        have hst : (xs.set o 0).map I64 = setAt (xs.map I64) o [.int .i64 0] := by rw [List.map_set]; rfl
        refine H_know (fun w hw => rowT_at (j := 0) hw rfl (by omega)) fun ⟨pb, hpb⟩ => ?_
        subst hpb
        refine H_skip ?_
        refine thenJ_normal ?_
        refine H_seq ?_
        refine H_block ?_
        refine H_seq ?_
        refine R0 ?_
        refine xV (e_idx _ Tryz.underlying73 Tryz.sizeOf77 (q0 rfl) (q0 rfl) (fun _ => ⟨rfl, by omega⟩)) rfl rfl ?_
        refine xV (eL Tryz.isAgg77 (q0 rfl) (rr0 0 rfl hoj rfl)) rfl rfl ?_
        refine xV (e_as (v := .pointer _) (q0 rfl)) rfl rfl ?_
        refine XN ?_
        refine thenJ_normal ?_
        refine H_seq ?_
        by_cases hok : okN n = true
        · have hok2 := of_decide_eq_true hok
          have hts := (txt_size hok2.1 hok2.2).2
          rw [prt, ← hn, if_pos hok] at hpr
          refine H_cut [32, 33, 34, 35, 36, 37, 38] (fun _ : Unit => []) (fun _ => LPi (some ⟨pb, 0, none⟩) xc b1 b2 b3 b5 b6 bc c (a0 :: ar) (ln ++ (⟨#[32]⟩ ++ txt n)) xs) (fun _ => True) ?_ ?_
          · refine H_invPX [32, 33, 34, 35, 36, 37, 38] (fun d v => match d with
                | 32 => v = .string ln | 33 | 34 => v = .pointer (some ⟨b6, o, none⟩) | 35 => v = .int .i64 n | 36 => v = .string (txt n) | 37 => v = .string (⟨#[32]⟩ ++ txt n) | 38 => v = .string (ln ++ (⟨#[32]⟩ ++ txt n)) | _ => True)
                (fun S L => ∃ l, (¬S 7 → l = ln) ∧ (S 7 → l = ln ++ (⟨#[32]⟩ ++ txt n)) ∧ L = LPi (some ⟨pb, 0, none⟩) xc b1 b2 b3 b5 b6 bc c (a0 :: ar) l xs) rfl rfl ?_ ?_ ?_
            · exact fun S hS => ⟨ln, fun _ => rfl, fun h => absurd h (hS 7), rfl⟩
            · rintro S L fr i o' hA hF ⟨l, e1, e2, rfl⟩ hi hno hw hc
              have h2 : fr 2 = .pointer (some ⟨b2, 0, none⟩) := hA 2 rfl
              have h8 : fr 8 = .pointer (some ⟨b6, o, none⟩) := hA 8 rfl
              have kp : i ≠ 7 → ∃ l', (¬(S 7 ∨ 7 = i) → l' = ln) ∧ ((S 7 ∨ 7 = i) → l' = ln ++ (⟨#[32]⟩ ++ txt n)) ∧ LPi (some ⟨pb, 0, none⟩) xc b1 b2 b3 b5 b6 bc c (a0 :: ar) l xs = LPi (some ⟨pb, 0, none⟩) xc b1 b2 b3 b5 b6 bc c (a0 :: ar) l' xs := fun hi7 => ⟨l, fun h => e1 fun h' => h (.inl h'), fun h => e2 (h.resolve_right (Ne.symm hi7)), rfl⟩
              match i, hi with
              | 0, hi =>
                cases hi
                have n7 : ¬S 7 := fun h => hno (hc 7 0 rfl h)
                obtain rfl := e1 n7
                exact .inl (f_ev (e_ld (v := .string l) Tryz.isAgg9 (q0 h2) (fun _ w hw => box_cell hw (k := 6) rfl rfl)) rfl rfl ⟨kp (by decide), _, rfl, fun d h => by cases h; rfl⟩)
              | 1, hi => cases hi; exact .inl (f_ev (e_mv (v := .pointer _) (q0 h8)) rfl rfl ⟨kp (by decide), _, rfl, fun d h => by cases h; rfl⟩)
              | 2, hi =>
                cases hi
                have h33 : fr 33 = .pointer (some ⟨b6, o, none⟩) := hF 1 _ _ rfl (hw 1 rfl) rfl
                exact .inl (f_ev (e_nilc (q0 h33)) rfl rfl ⟨kp (by decide), _, rfl, fun d h => by cases h; rfl⟩)
              | 3, hi =>
                cases hi
                have h34 : fr 34 = .pointer (some ⟨b6, o, none⟩) := hF 2 _ _ rfl (hw 2 rfl) rfl
                exact .inl (f_ev (e_ld (v := .int .i64 n) Tryz.isAgg3 (q0 h34) (fun _ w hw => box_cell hw (k := 1) rfl hxn)) rfl rfl ⟨kp (by decide), _, rfl, fun d h => by cases h; rfl⟩)
              | 4, hi =>
                cases hi
                have h35 : fr 35 = .int .i64 n := hF 3 _ _ rfl (hw 3 rfl) rfl
                exact .inl (f_call0 rfl (en Tryz.call24 (ha1 (q0 h35))) (fun w hw => writOk_w n w (hl.und.mem hw) hok2.1 hok2.2) rfl ⟨kp (by decide), _, rfl, fun d h => by cases h; rfl⟩)
              | 5, hi =>
                cases hi
                have h36 : fr 36 = .string (txt n) := hF 4 _ _ rfl (hw 4 rfl) rfl
                exact .inl (f_ev (e_cat (q0 rfl) (q0 h36) (fun _ => by have := hts; have h2 : (⟨#[32]⟩ : ByteArray).size = 1 := rfl; omega)) rfl rfl ⟨kp (by decide), _, rfl, fun d h => by cases h; rfl⟩)
              | 6, hi =>
                cases hi
                have h32 : fr 32 = .string ln := hF 0 _ _ rfl (hw 0 rfl) rfl
                have h37 : fr 37 = .string (⟨#[32]⟩ ++ txt n) := hF 5 _ _ rfl (hw 5 rfl) rfl
                exact .inl (f_ev (e_cat (q0 h32) (q0 h37) (fun _ => by rw [ByteArray.size_append]; have := hts; have := hls; have h2 : (⟨#[32]⟩ : ByteArray).size = 1 := rfl; omega)) rfl rfl ⟨kp (by decide), _, rfl, fun d h => by cases h; rfl⟩)
              | 7, hi =>
                cases hi
                have h38 : fr 38 = .string (ln ++ (⟨#[32]⟩ ++ txt n)) := hF 6 _ _ rfl (hw 6 rfl) rfl
                exact .inl (f_store 6 (v := .string (ln ++ ((⟨#[32]⟩ : ByteArray) ++ txt n))) h2 h38 Tryz.sizeOf9 rfl rfl rfl rfl ⟨⟨ln ++ (⟨#[32]⟩ ++ txt n), fun h => absurd (.inr rfl) h, fun _ => rfl, rfl⟩, undef, rfl, fun d h => by cases h⟩)
              | i + 8, hi => simp at hi
            · rintro S L fr hS hA hF ⟨l, e1, e2, rfl⟩
              obtain rfl := e2 (hS 7 (by decide))
              exact cutJ_normal () hA trivial (fun w hw => hw) rfl trivial
          · intro _ g3 _
            refine thenJ_normal ?_
            refine R0 ?_
            refine xV (e_mv (v := .pointer _) (q0 rfl)) rfl rfl ?_
            refine xV (e_nilc (q0 rfl)) rfl rfl ?_
            refine X_store (v := .int .i64 0) 1 rfl rfl Tryz.sizeOf3 rfl rfl rfl (by rw [List.length_map, hxl]; exact Nat.ble_eq_true_of_le (by simp only [Value.cells, List.length_cons, List.length_nil]; omega)) ?_
            refine XN ?_
            refine blockJ_normal ?_
            refine thenJ_normal ?_
            refine R0 ?_
            refine xV (e_add (q0 rfl) (q0 rfl) (fun _ => ⟨rfl, by omega, by omega⟩)) rfl rfl ?_
            refine xV (e_mv (v := .int _ _) (q0 rfl)) rfl rfl ?_
            refine XN ?_
            exact loopJ_normal (j + 1, ln ++ (⟨#[32]⟩ ++ txt n), xs.set o 0) (by repeat (first | exact agree_self | exact agree_over | refine agree_upd rfl ?_ | refine agree_updL rfl ?_ | refine agree_over2 rfl ?_)) ⟨rfl, trivial⟩ (fun w hw => by show Mem _ (LPi (some ⟨pb, 0, none⟩) xc b1 b2 b3 b5 b6 bc c (a0 :: ar) (ln ++ (⟨#[32]⟩ ++ txt n)) (xs.set o 0)) w; unfold LPi; rw [hst]; exact hw) rfl ⟨by show j + 1 ≤ _; omega, by simp [hxl], by show (ln ++ (⟨#[32]⟩ ++ txt n)).size ≤ 10 + 20 * (j + 1); rw [ByteArray.size_append, ByteArray.size_append]; have h2 : (⟨#[32]⟩ : ByteArray).size = 1 := rfl; omega, hpr⟩ (by show c.offs.length - (j + 1) < c.offs.length - j; omega)
        · have hok2 : ¬(-1125899906842624 ≤ n ∧ n ≤ 1125899906842624) := fun h => hok (decide_eq_true h)
          rw [prt, ← hn, if_neg hok] at hpr
          have hp2 : printL (a0 :: ar) = (⟨#[]⟩, 36) := by rw [hpl]; unfold printC; rw [hpr]
          rw [hp2]
          refine H_invPX [32, 33, 34, 35, 36, 37, 38] (fun d v => match d with
              | 33 | 34 => v = .pointer (some ⟨b6, o, none⟩) | 35 => v = .int .i64 n | 36 | 37 | 38 => False | _ => True)
              (fun _ L => L = LPi (some ⟨pb, 0, none⟩) xc b1 b2 b3 b5 b6 bc c (a0 :: ar) ln xs) rfl rfl ?_ ?_ ?_
          · exact fun S hS => rfl
          · rintro S L fr i o' hA hF rfl hi hno hw hc
            have h2 : fr 2 = .pointer (some ⟨b2, 0, none⟩) := hA 2 rfl
            have h8 : fr 8 = .pointer (some ⟨b6, o, none⟩) := hA 8 rfl
            match i, hi with
            | 0, hi => cases hi; exact .inl (f_ev (e_ld (v := .string ln) Tryz.isAgg9 (q0 h2) (fun _ w hw => box_cell hw (k := 6) rfl rfl)) rfl rfl ⟨rfl, _, rfl, fun d h => by cases h; trivial⟩)
            | 1, hi => cases hi; exact .inl (f_ev (e_mv (v := .pointer _) (q0 h8)) rfl rfl ⟨rfl, _, rfl, fun d h => by cases h; rfl⟩)
            | 2, hi =>
              cases hi
              have h33 : fr 33 = .pointer (some ⟨b6, o, none⟩) := hF 1 _ _ rfl (hw 1 rfl) rfl
              exact .inl (f_ev (e_nilc (q0 h33)) rfl rfl ⟨rfl, _, rfl, fun d h => by cases h; rfl⟩)
            | 3, hi =>
              cases hi
              have h34 : fr 34 = .pointer (some ⟨b6, o, none⟩) := hF 2 _ _ rfl (hw 2 rfl) rfl
              exact .inl (f_ev (e_ld (v := .int .i64 n) Tryz.isAgg3 (q0 h34) (fun _ w hw => box_cell hw (k := 1) rfl hxn)) rfl rfl ⟨rfl, _, rfl, fun d h => by cases h; rfl⟩)
            | 4, hi =>
              cases hi
              have h35 : fr 35 = .int .i64 n := hF 3 _ _ rfl (hw 3 rfl) rfl
              exact .inr (f_callP0 rfl (en Tryz.call24 (ha1 (q0 h35))) (fun w hw => writBad_w n w hok2) (panP_c (s := ln) rfl h2 (hA 3 rfl) (fun w hw => hw.pick [4, 5, 6] (by decide)) rfl (fun w hw => ⟨rfl, blw_of hw⟩)))
            | 5, hi => cases hi; exact (hF 4 _ _ rfl (hw 4 rfl) rfl : False).elim
            | 6, hi => cases hi; exact (hF 5 _ _ rfl (hw 5 rfl) rfl : False).elim
            | 7, hi => cases hi; exact (hF 6 _ _ rfl (hw 6 rfl) rfl : False).elim
            | i + 8, hi => simp at hi
          · rintro S L fr hS hA hF rfl
            exact (hF 4 _ _ rfl (hS 4 (by decide)) rfl : False).elim
      · have hje : j = c.offs.length := by simp at hlp; omega
        subst hje
        rw [List.drop_length, prt_nil] at hpr
        refine H_exit ?_
        refine thenJ_exit ?_
        refine loopJ_exit ?_
        refine blockJ_hit ?_
        refine thenJ_normal ?_
        refine H_seq ?_
        refine R0 ?_
        refine xV (eS Tryz.isAgg30 Tryz.sizeOf30 (q0 rfl) (bxs 1 rfl) (by rw [List.length_map, hxl])) rfl rfl ?_
        refine xV (e_fld Tryz.underlying30 rfl Tryz.sizeOf3 rfl (q0 rfl)) rfl rfl ?_
        refine xV (eL Tryz.isAgg3 (q0 rfl)) rfl rfl ?_
        refine xV (e_build Tryz.underlying30 fl30 Tryz.zeroValue30 (pt (v := .int _ _) rfl E.p0) rfl) rfl rfl ?_
        refine xV (e_eqS (act_eq xs (zs.set 0 a0) hxl rfl) act_gd (q0 rfl) (q0 rfl)) rfl rfl ?_
        refine XN ?_
        refine thenJ_normal ?_
        refine H_cond rfl (fun hb => ?_) (fun hb => ?_)
        · have hp2 : printL (a0 :: ar) = (ln, 0) := by rw [hpl]; unfold printC; rw [hpr]; simp only [List.headD_cons, hb, if_true]
          rw [hp2]
          refine H_seq ?_
          refine R0 ?_
          refine xV (eL Tryz.isAgg9 (q0 rfl)) rfl rfl ?_
          refine X_st (v := .string _) rfl rfl Tryz.sizeOf9 ?_
          refine X_st (v := .int _ _) rfl rfl Tryz.sizeOf31 ?_
          refine XN ?_
          refine thenJ_normal ?_
          refine H_ret ?_
          refine blockJ_ret ?_
          refine thenJ_ret ?_
          refine loopJ_ret ?_
          refine blockJ_ret ?_
          refine thenJ_ret ?_
          exact retP_c rfl rfl rfl (fun w hw => hw.pick [4, 5, 6] (by decide)) rfl (fun w hw => ⟨rfl, blw_of hw⟩)
        · have hp2 : printC c (a0 :: ar) = none := by unfold printC; rw [hpr]; simp only [List.headD_cons, hb]; rfl
          refine H_skip ?_
          refine blockJ_normal ?_
          refine thenJ_normal ?_
          refine R0 ?_
          refine xV (e_add (q0 rfl) (q0 rfl) (fun _ => ⟨rfl, by omega, by omega⟩)) rfl rfl ?_
          refine xV (e_mv (v := .int _ _) (q0 rfl)) rfl rfl ?_
          refine XN ?_
          exact loopJ_normal (k + 1, ln) (by repeat (first | exact agree_self | exact agree_over | refine agree_upd rfl ?_ | refine agree_updL rfl ?_ | refine agree_over2 rfl ?_)) ⟨rfl, trivial⟩ (fun w hw => hw.tail.tail.tail) rfl ⟨by show k + 1 ≤ 6; omega, fun j c' hj hc' => by
            rcases Nat.lt_or_ge j k with h | h
            · exact hkn j c' h hc'
            · have hj : j < k + 1 := hj
              have : j = k := by omega
              subst this
              rw [hck] at hc'; cases hc'; exact fun _ => hp2⟩ (by show 6 - (k + 1) < 6 - k; omega)
  · have hk : k = 6 := by simp at hlt; have : k ≤ 6 := hk6; omega
    subst hk
    have hp : printL (a0 :: ar) = (⟨#[]⟩, 36) := by
      unfold printL
      split
      · rename_i c hf
        have h1 := List.find?_some hf
        obtain ⟨j, hj, hjc⟩ := List.mem_iff_getElem.1 (List.mem_of_find?_eq_some hf)
        rw [hkn j c hj (by rw [← hjc]; exact List.getElem?_eq_getElem hj) (of_decide_eq_true h1)]
      · rfl
    rw [hp]
    refine H_exit ?_
    refine thenJ_exit ?_
    refine loopJ_exit ?_
    refine blockJ_hit ?_
    refine thenJ_normal ?_
    refine R0 ?_
    refine xV (e_build Tryz.underlying76 fl76 Tryz.zeroValue76 (pt (v := .int _ _) rfl E.p0) rfl) rfl rfl ?_
    refine xV (e_mkI Tryz.underlying76 (by intro ms h; cases h) (q0 rfl)) rfl rfl ?_
    refine X_panic rfl ?_
    exact panP_c rfl rfl rfl (fun w hw => hw.pick [1, 2, 3] (by decide)) rfl (fun w hw => ⟨rfl, blw_of hw⟩)
end Go.Proofs.Con
