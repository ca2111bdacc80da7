/- Laid. -/
import Derived.Shelf.Strings.Repeat
import Derived.Shelf.Strings.IndexAnyAll
import Derived.Shelf.SlIterI.Nil
import Derived.Shelf.SlIterI.Sorted
import Derived.Shelf.SortM.Plain
import Derived.Shelf.SortM.SortNone
import Derived.Test.YtbamnpenkjfgkaaGreatProg
import Derived.Test.YtbamnpenkjfgkaaGreatUA
import Derived.Test.YtbamnpenkjfgkaaGreatUN
import Derived.Shelf.Strings.BuilderK
import Derived.Shelf.SlSortCmp.NoneTotal
import Derived.Test.YtbamnpenkjfgkaaGreatUM
namespace Go.Proofs
open Go.Shelf
def Tryz.lays105_ren : Go.Shelf.Ren:=⟨fun | 105=>30 | 212=>77 | 99=>78 | 165=>79 | 166=>80 | 170=>81 | 169=>82 | 263=>139 | 264=>140 | 206=>141 | 240=>142 | 241=>143 | 276=>202 | 277=>203 | n=>n,fun | 9=>9 | 3=>3 | 4=>4 | 20=>20 | 0=>0 | 46=>137 | 109=>138 | 5=>5 | 72=>143 | 76=>147 | 51=>156 | 146=>239 | 53=>74 | 148=>241 | 70=>141 | 37=>23 | 75=>146 | 127=>243 | 164=>311 | 80=>149 | n=>n,fun | n=>n⟩
theorem Tryz.lays105 : Go.Proofs.Lays.n105 Tryz.prog Tryz.lays105_ren:={
  mixed:=by kernel_rfl
  f99:=Tryz.func78.trans (congrArg some (by kernel_rfl))
  f105:=Tryz.func30.trans (congrArg some (by kernel_rfl))
  f165:=Tryz.func79.trans (congrArg some (by kernel_rfl))
  f166:=Tryz.func80.trans (congrArg some (by kernel_rfl))
  f169:=Tryz.func82.trans (congrArg some (by kernel_rfl))
  f170:=Tryz.func81.trans (congrArg some (by kernel_rfl))
  f206:=Tryz.func141.trans (congrArg some (by kernel_rfl))
  f212:=Tryz.func77.trans (congrArg some (by kernel_rfl))
  f240:=Tryz.func142.trans (congrArg some (by kernel_rfl))
  f241:=Tryz.func143.trans (congrArg some (by kernel_rfl))
  f263:=Tryz.func139.trans (congrArg some (by kernel_rfl))
  f264:=Tryz.func140.trans (congrArg some (by kernel_rfl))
  f276:=Tryz.func202.trans (congrArg some (by kernel_rfl))
  f277:=Tryz.func203.trans (congrArg some (by kernel_rfl))
  t0:=Tryz.underlying0
  a0:=Tryz.isAgg0
  z0:=Tryz.sizeOf0
  v0:=Tryz.zeroValue0
  t3:=Tryz.underlying3
  a3:=Tryz.isAgg3
  z3:=Tryz.sizeOf3
  v3:=Tryz.zeroValue3
  t4:=Tryz.underlying4
  a4:=Tryz.isAgg4
  z4:=Tryz.sizeOf4
  v4:=Tryz.zeroValue4
  t5:=Tryz.underlying5
  a5:=Tryz.isAgg5
  z5:=Tryz.sizeOf5
  v5:=Tryz.zeroValue5
  t9:=Tryz.underlying9
  a9:=Tryz.isAgg9
  z9:=Tryz.sizeOf9
  v9:=Tryz.zeroValue9
  t20:=Tryz.underlying20
  a20:=Tryz.isAgg20
  z20:=Tryz.sizeOf20
  v20:=Tryz.zeroValue20
  t37:=Tryz.underlying23
  a37:=Tryz.isAgg23
  z37:=Tryz.sizeOf23
  v37:=Tryz.zeroValue23
  t46:=Tryz.underlying137
  a46:=Tryz.isAgg137
  z46:=Tryz.sizeOf137
  v46:=Tryz.zeroValue137
  t51:=Tryz.underlying156
  a51:=Tryz.isAgg156
  z51:=Tryz.sizeOf156
  v51:=Tryz.zeroValue156
  t53:=Tryz.underlying74
  a53:=Tryz.isAgg74
  z53:=Tryz.sizeOf74
  v53:=Tryz.zeroValue74
  t70:=Tryz.underlying141
  a70:=Tryz.isAgg141
  z70:=Tryz.sizeOf141
  v70:=Tryz.zeroValue141
  t72:=Tryz.underlying143
  a72:=Tryz.isAgg143
  z72:=Tryz.sizeOf143
  v72:=Tryz.zeroValue143
  t75:=Tryz.underlying146
  a75:=Tryz.isAgg146
  z75:=Tryz.sizeOf146
  v75:=Tryz.zeroValue146
  t76:=Tryz.underlying147
  a76:=Tryz.isAgg147
  z76:=Tryz.sizeOf147
  v76:=Tryz.zeroValue147
  t109:=Tryz.underlying138
  a109:=Tryz.isAgg138
  z109:=Tryz.sizeOf138
  v109:=Tryz.zeroValue138
  t127:=Tryz.underlying243
  a127:=Tryz.isAgg243
  z127:=Tryz.sizeOf243
  v127:=Tryz.zeroValue243
  t146:=Tryz.underlying239
  a146:=Tryz.isAgg239
  z146:=Tryz.sizeOf239
  v146:=Tryz.zeroValue239
  t148:=Tryz.underlying241
  a148:=Tryz.isAgg241
  z148:=Tryz.sizeOf241
  v148:=Tryz.zeroValue241
  t164:=Tryz.underlying311
  a164:=Tryz.isAgg311
  z164:=Tryz.sizeOf311
  v164:=Tryz.zeroValue311 }
def Tryz.lays150_ren : Go.Shelf.Ren:=⟨fun | 150=>232 | 153=>280 | 152=>296 | 226=>297 | 227=>298 | 228=>299 | 137=>315 | 119=>316 | 224=>317 | 225=>318 | 217=>329 | 266=>339 | n=>n,fun | 9=>9 | 4=>4 | 3=>3 | 5=>5 | 21=>21 | 117=>409 | 116=>408 | 0=>0 | 46=>137 | 124=>435 | n=>n,fun | n=>n⟩
theorem Tryz.lays150 : Go.Proofs.Lays.n150 Tryz.prog Tryz.lays150_ren:={
  mixed:=by kernel_rfl
  f119:=Tryz.func316.trans (congrArg some (by kernel_rfl))
  f137:=Tryz.func315.trans (congrArg some (by kernel_rfl))
  f150:=Tryz.func232.trans (congrArg some (by kernel_rfl))
  f152:=Tryz.func296.trans (congrArg some (by kernel_rfl))
  f153:=Tryz.func280.trans (congrArg some (by kernel_rfl))
  f217:=Tryz.func329.trans (congrArg some (by kernel_rfl))
  f224:=Tryz.func317.trans (congrArg some (by kernel_rfl))
  f225:=Tryz.func318.trans (congrArg some (by kernel_rfl))
  f226:=Tryz.func297.trans (congrArg some (by kernel_rfl))
  f227:=Tryz.func298.trans (congrArg some (by kernel_rfl))
  f228:=Tryz.func299.trans (congrArg some (by kernel_rfl))
  f266:=Tryz.func339.trans (congrArg some (by kernel_rfl))
  t0:=Tryz.underlying0
  a0:=Tryz.isAgg0
  z0:=Tryz.sizeOf0
  v0:=Tryz.zeroValue0
  t3:=Tryz.underlying3
  a3:=Tryz.isAgg3
  z3:=Tryz.sizeOf3
  v3:=Tryz.zeroValue3
  t4:=Tryz.underlying4
  a4:=Tryz.isAgg4
  z4:=Tryz.sizeOf4
  v4:=Tryz.zeroValue4
  t5:=Tryz.underlying5
  a5:=Tryz.isAgg5
  z5:=Tryz.sizeOf5
  v5:=Tryz.zeroValue5
  t9:=Tryz.underlying9
  a9:=Tryz.isAgg9
  z9:=Tryz.sizeOf9
  v9:=Tryz.zeroValue9
  t21:=Tryz.underlying21
  a21:=Tryz.isAgg21
  z21:=Tryz.sizeOf21
  v21:=Tryz.zeroValue21
  t46:=Tryz.underlying137
  a46:=Tryz.isAgg137
  z46:=Tryz.sizeOf137
  v46:=Tryz.zeroValue137
  t116:=Tryz.underlying408
  a116:=Tryz.isAgg408
  z116:=Tryz.sizeOf408
  t117:=Tryz.underlying409
  a117:=Tryz.isAgg409
  z117:=Tryz.sizeOf409
  v117:=Tryz.zeroValue409
  t124:=Tryz.underlying435
  a124:=Tryz.isAgg435
  z124:=Tryz.sizeOf435
  v124:=Tryz.zeroValue435 }
theorem Tryz.Builder_Extra_105 : Builder.Extra Tryz.prog Tryz.lays105_ren:={
  sizeBuilder:=by kernel_rfl
  liesBuilder:=by kernel_rfl
  t5:=Tryz.underlying5
  a5:=Tryz.isAgg5
  z5:=Tryz.sizeOf5
  v5:=Tryz.zeroValue5
  infoByte:=by kernel_rfl
  cellsByte:=by kernel_rfl
  sizeByte:=by kernel_rfl
  neB5:=by decide }
theorem Tryz.set150 : (Tryz.prog.info? (Tryz.lays150_ren.t 116)).map (fun i=>(i.zero,i.size))=some (some (.agg (Array.replicate 256 (.bool false))),256):=by kernel_rfl
def Tryz.sortA_ren : Go.Shelf.Ren:=⟨fun | 5=>91 | 8=>108 | 7=>154 | 19=>174 | 20=>175 | 10=>214 | 11=>215 | 12=>216 | 13=>217 | 14=>218 | 15=>219 | 16=>220 | 17=>221 | 18=>222 | 30=>273 | 31=>234 | 32=>235 | 33=>274 | 34=>275 | 35=>109 | 40=>292 | n=>n,fun | 23=>82 | 25=>3 | 3=>3 | 32=>137 | 22=>82 | 0=>0 | 44=>156 | 46=>74 | 4=>4 | 36=>281 | 35=>280 | 41=>153 | 5=>5 | 9=>9 | 53=>339 | 57=>151 | 63=>382 | 64=>383 | n=>n,fun | n=>n⟩
theorem Tryz.sortA : Go.Proofs.SlLaysM.n5 Tryz.prog Tryz.sortA_ren:={
  mixed:=by kernel_rfl
  f5:=⟨Tryz.f91.name,by decide,Tryz.func91.trans (congrArg some (by kernel_rfl))⟩
  f7:=⟨Tryz.f154.name,by decide,Tryz.func154.trans (congrArg some (by kernel_rfl))⟩
  f8:=Tryz.func108.trans (congrArg some (by kernel_rfl))
  f10:=⟨Tryz.f214.name,by decide,Tryz.func214.trans (congrArg some (by kernel_rfl))⟩
  f11:=⟨Tryz.f215.name,by decide,Tryz.func215.trans (congrArg some (by kernel_rfl))⟩
  f12:=⟨Tryz.f216.name,by decide,Tryz.func216.trans (congrArg some (by kernel_rfl))⟩
  f13:=⟨Tryz.f217.name,by decide,Tryz.func217.trans (congrArg some (by kernel_rfl))⟩
  f14:=⟨Tryz.f218.name,by decide,Tryz.func218.trans (congrArg some (by kernel_rfl))⟩
  f15:=⟨Tryz.f219.name,by decide,Tryz.func219.trans (congrArg some (by kernel_rfl))⟩
  f16:=⟨Tryz.f220.name,by decide,Tryz.func220.trans (congrArg some (by kernel_rfl))⟩
  f17:=⟨Tryz.f221.name,by decide,Tryz.func221.trans (congrArg some (by kernel_rfl))⟩
  f18:=⟨Tryz.f222.name,by decide,Tryz.func222.trans (congrArg some (by kernel_rfl))⟩
  f19:=Tryz.func174.trans (congrArg some (by kernel_rfl))
  f20:=Tryz.func175.trans (congrArg some (by kernel_rfl))
  f30:=⟨Tryz.f273.name,by decide,Tryz.func273.trans (congrArg some (by kernel_rfl))⟩
  f31:=Tryz.func234.trans (congrArg some (by kernel_rfl))
  f32:=Tryz.func235.trans (congrArg some (by kernel_rfl))
  f33:=⟨Tryz.f274.name,by decide,Tryz.func274.trans (congrArg some (by kernel_rfl))⟩
  f34:=⟨Tryz.f275.name,by decide,Tryz.func275.trans (congrArg some (by kernel_rfl))⟩
  f35:=⟨Tryz.f109.name,by decide,Tryz.func109.trans (congrArg some (by kernel_rfl))⟩
  f40:=⟨Tryz.f292.name,by decide,Tryz.func292.trans (congrArg some (by kernel_rfl))⟩
  t0:=Tryz.underlying0
  a0:=Tryz.isAgg0
  z0:=Tryz.sizeOf0
  v0:=Tryz.zeroValue0
  t3:=Tryz.underlying3
  a3:=Tryz.isAgg3
  z3:=Tryz.sizeOf3
  v3:=Tryz.zeroValue3
  t4:=Tryz.underlying4
  a4:=Tryz.isAgg4
  z4:=Tryz.sizeOf4
  v4:=Tryz.zeroValue4
  t5:=Tryz.underlying5
  a5:=Tryz.isAgg5
  z5:=Tryz.sizeOf5
  v5:=Tryz.zeroValue5
  t9:=Tryz.underlying9
  a9:=Tryz.isAgg9
  z9:=Tryz.sizeOf9
  v9:=Tryz.zeroValue9
  t22:=Tryz.underlying82
  a22:=Tryz.isAgg82
  z22:=Tryz.sizeOf82
  v22:=Tryz.zeroValue82
  t23:=Tryz.underlying82
  a23:=Tryz.isAgg82
  z23:=Tryz.sizeOf82
  v23:=Tryz.zeroValue82
  t25:=Tryz.underlying3
  a25:=Tryz.isAgg3
  z25:=Tryz.sizeOf3
  v25:=Tryz.zeroValue3
  t32:=Tryz.underlying137
  a32:=Tryz.isAgg137
  z32:=Tryz.sizeOf137
  v32:=Tryz.zeroValue137
  t35:=Tryz.underlying280
  a35:=Tryz.isAgg280
  z35:=Tryz.sizeOf280
  v35:=Tryz.zeroValue280
  t36:=Tryz.underlying281
  a36:=Tryz.isAgg281
  z36:=Tryz.sizeOf281
  v36:=Tryz.zeroValue281
  t41:=Tryz.underlying153
  a41:=Tryz.isAgg153
  z41:=Tryz.sizeOf153
  v41:=Tryz.zeroValue153
  t44:=Tryz.underlying156
  a44:=Tryz.isAgg156
  z44:=Tryz.sizeOf156
  v44:=Tryz.zeroValue156
  t46:=Tryz.underlying74
  a46:=Tryz.isAgg74
  z46:=Tryz.sizeOf74
  v46:=Tryz.zeroValue74
  t53:=Tryz.underlying339
  a53:=Tryz.isAgg339
  z53:=Tryz.sizeOf339
  v53:=Tryz.zeroValue339
  t57:=Tryz.underlying151
  a57:=Tryz.isAgg151
  z57:=Tryz.sizeOf151
  v57:=Tryz.zeroValue151
  t63:=Tryz.underlying382
  a63:=Tryz.isAgg382
  z63:=Tryz.sizeOf382
  v63:=Tryz.zeroValue382
  t64:=Tryz.underlying383
  a64:=Tryz.isAgg383
  z64:=Tryz.sizeOf383
  v64:=Tryz.zeroValue383 }
def Tryz.sortedA_ren : Go.Shelf.Ren:=⟨fun | 6=>38 | 8=>90 | 9=>91 | 11=>153 | 13=>108 | 12=>154 | 23=>174 | 24=>175 | 14=>214 | 15=>215 | 16=>216 | 17=>217 | 18=>218 | 19=>219 | 20=>220 | 21=>221 | 22=>222 | 25=>273 | 26=>234 | 27=>235 | 28=>274 | 29=>275 | 30=>109 | 31=>292 | n=>n,fun | 26=>3 | 28=>85 | 24=>82 | 0=>0 | 3=>3 | 37=>137 | 48=>156 | 50=>74 | 4=>4 | 40=>281 | 39=>280 | 45=>153 | 5=>5 | 9=>9 | 51=>339 | 55=>151 | 57=>382 | 58=>383 | 33=>170 | n=>n,fun | n=>n⟩
theorem Tryz.sortedA : Go.Proofs.SlLaysZI.n6 Tryz.prog Tryz.sortedA_ren:={
  mixed:=by kernel_rfl
  f6:=⟨Tryz.f38.name,by decide,Tryz.func38.trans (congrArg some (by kernel_rfl))⟩
  f8:=⟨Tryz.f90.name,by decide,Tryz.func90.trans (congrArg some (by kernel_rfl))⟩
  f11:=⟨Tryz.f153.name,by decide,Tryz.func153.trans (congrArg some (by kernel_rfl))⟩
  t0:=Tryz.underlying0
  a0:=Tryz.isAgg0
  z0:=Tryz.sizeOf0
  v0:=Tryz.zeroValue0
  t24:=Tryz.underlying82
  a24:=Tryz.isAgg82
  z24:=Tryz.sizeOf82
  v24:=Tryz.zeroValue82
  t26:=Tryz.underlying3
  a26:=Tryz.isAgg3
  z26:=Tryz.sizeOf3
  v26:=Tryz.zeroValue3
  t28:=Tryz.underlying85
  a28:=Tryz.isAgg85
  z28:=Tryz.sizeOf85
  v28:=Tryz.zeroValue85
  i26:=by kernel_rfl }
def Tryz.keysA_ren : Go.Shelf.Ren:=⟨fun | 7=>39 | 10=>92 | n=>n,fun | 23=>80 | 26=>3 | 3=>9 | 28=>85 | 0=>0 | 27=>84 | 33=>170 | 4=>4 | n=>n,fun | n=>n⟩
theorem Tryz.keysA : Go.Proofs.SlLaysZI.n7 Tryz.prog Tryz.keysA_ren:={
  mixed:=by kernel_rfl
  f7:=⟨Tryz.f39.name,by decide,Tryz.func39.trans (congrArg some (by kernel_rfl))⟩
  f10:=⟨Tryz.f92.name,by decide,Tryz.func92.trans (congrArg some (by kernel_rfl))⟩
  t0:=Tryz.underlying0
  a0:=Tryz.isAgg0
  z0:=Tryz.sizeOf0
  v0:=Tryz.zeroValue0
  t4:=Tryz.underlying4
  a4:=Tryz.isAgg4
  z4:=Tryz.sizeOf4
  v4:=Tryz.zeroValue4
  t23:=Tryz.underlying80
  a23:=Tryz.isAgg80
  z23:=Tryz.sizeOf80
  v23:=Tryz.zeroValue80
  t26:=Tryz.underlying3
  a26:=Tryz.isAgg3
  z26:=Tryz.sizeOf3
  v26:=Tryz.zeroValue3
  t27:=Tryz.underlying84
  a27:=Tryz.isAgg84
  z27:=Tryz.sizeOf84
  v27:=Tryz.zeroValue84
  t28:=Tryz.underlying85
  a28:=Tryz.isAgg85
  z28:=Tryz.sizeOf85
  v28:=Tryz.zeroValue85
  t33:=Tryz.underlying170
  a33:=Tryz.isAgg170
  z33:=Tryz.sizeOf170
  v33:=Tryz.zeroValue170 }
def Tryz.keysB_ren : Go.Shelf.Ren:=⟨fun | 7=>190 | 10=>249 | n=>n,fun | 23=>114 | 26=>3 | 3=>4 | 28=>85 | 0=>0 | 27=>84 | 33=>170 | 4=>4 | n=>n,fun | n=>n⟩
theorem Tryz.keysB : Go.Proofs.SlLaysZI.n7 Tryz.prog Tryz.keysB_ren:={
  mixed:=by kernel_rfl
  f7:=⟨Tryz.f190.name,by decide,Tryz.func190.trans (congrArg some (by kernel_rfl))⟩
  f10:=⟨Tryz.f249.name,by decide,Tryz.func249.trans (congrArg some (by kernel_rfl))⟩
  t0:=Tryz.underlying0
  a0:=Tryz.isAgg0
  z0:=Tryz.sizeOf0
  v0:=Tryz.zeroValue0
  t4:=Tryz.underlying4
  a4:=Tryz.isAgg4
  z4:=Tryz.sizeOf4
  v4:=Tryz.zeroValue4
  t23:=Tryz.underlying114
  a23:=Tryz.isAgg114
  z23:=Tryz.sizeOf114
  v23:=Tryz.zeroValue114
  t26:=Tryz.underlying3
  a26:=Tryz.isAgg3
  z26:=Tryz.sizeOf3
  v26:=Tryz.zeroValue3
  t27:=Tryz.underlying84
  a27:=Tryz.isAgg84
  z27:=Tryz.sizeOf84
  v27:=Tryz.zeroValue84
  t28:=Tryz.underlying85
  a28:=Tryz.isAgg85
  z28:=Tryz.sizeOf85
  v28:=Tryz.zeroValue85
  t33:=Tryz.underlying170
  a33:=Tryz.isAgg170
  z33:=Tryz.sizeOf170
  v33:=Tryz.zeroValue170 }
end Go.Proofs
namespace Go.Proofs.YtbamnpenkjfgkaaGreat
open Go.RowKit
theorem repeatL_one (c : Nat) : Lib.repeatL [(0 : UInt8)] c=List.replicate c 0:=by
  induction c with
  | zero=>rfl
  | succ c ih=>rw [List.replicate_succ,← ih];rfl
theorem rep_walk : RepIs:=fun c w h1 h2=>by
  have h:=Go.Proofs.Any.strings_Repeat_main Tryz.lays105 Tryz.Builder_Extra_105 ⟨#[0]⟩ c w h1 (by omega) (by show 1 * c≤_;omega) (by decide)
  have e : Lib.repeatL (ByteArray.mk #[0]).data.toList c=List.replicate c 0:=repeatL_one c
  rw [e] at h
  exact h
end Go.Proofs.YtbamnpenkjfgkaaGreat
namespace Go.Proofs.YtbamnpenkjfgkaaGreat
open Go.RowKit
theorem cells_app (l m : List UInt8) : Lib.byteCells (l ++ m)=Lib.byteCells l ++ Lib.byteCells m:=by simp [Lib.byteCells]
theorem bwrite_is : BWrite:=fun B b l s w h hlen hBw=>by
  have hx:=Any.Builder_WriteString_k (P:=Tryz.prog) (ρ:=Tryz.lays105_ren) { Tryz.lays105 with } Tryz.Builder_Extra_105 B b (Lib.byteCells l) s w h (by rw [Lib.byteCells_length];omega) hBw
  refine Calls.mono hx ?_
  rintro e w' ⟨he,hb,h1,h2⟩
  refine ⟨he,.inr ?_,h1,h2⟩
  rw [cells_app]
  exact hb
theorem bstring_is : BString:=fun B b l w h h0=>by
  have hx:=Any.Builder_String_k (P:=Tryz.prog) (ρ:=Tryz.lays105_ren) { Tryz.lays105 with } Tryz.Builder_Extra_105 B b l w h h0
  exact hx
end Go.Proofs.YtbamnpenkjfgkaaGreat
namespace Go.Proofs
open Go.Shelf
def Tryz.sortRuns_ren : Go.Shelf.Ren:=⟨fun | 6=>242 | 15=>108 | 14=>283 | 28=>174 | 29=>175 | 20=>300 | 21=>301 | 22=>302 | 23=>303 | 24=>304 | 25=>305 | 26=>306 | 27=>307 | 46=>319 | 47=>234 | 48=>235 | 49=>320 | 50=>321 | 57=>330 | n=>n,fun | 22=>209 | 24=>212 | 25=>347 | 3=>3 | 39=>137 | 0=>0 | 53=>156 | 55=>74 | 4=>4 | 46=>281 | 45=>280 | 50=>153 | 5=>5 | 9=>9 | 66=>339 | 70=>151 | 76=>382 | 77=>383 | n=>n,fun | n=>n⟩
theorem Tryz.sortRuns : Go.Proofs.SlLaysF0.n6 Tryz.prog Tryz.sortRuns_ren:={
  mixed:=by kernel_rfl
  f6:=⟨Tryz.f242.name,by decide,Tryz.func242.trans (congrArg some (by kernel_rfl))⟩
  f14:=⟨Tryz.f283.name,by decide,Tryz.func283.trans (congrArg some (by kernel_rfl))⟩
  f15:=Tryz.func108.trans (congrArg some (by kernel_rfl))
  f20:=⟨Tryz.f300.name,by decide,Tryz.func300.trans (congrArg some (by kernel_rfl))⟩
  f21:=⟨Tryz.f301.name,by decide,Tryz.func301.trans (congrArg some (by kernel_rfl))⟩
  f22:=⟨Tryz.f302.name,by decide,Tryz.func302.trans (congrArg some (by kernel_rfl))⟩
  f23:=⟨Tryz.f303.name,by decide,Tryz.func303.trans (congrArg some (by kernel_rfl))⟩
  f24:=⟨Tryz.f304.name,by decide,Tryz.func304.trans (congrArg some (by kernel_rfl))⟩
  f25:=⟨Tryz.f305.name,by decide,Tryz.func305.trans (congrArg some (by kernel_rfl))⟩
  f26:=⟨Tryz.f306.name,by decide,Tryz.func306.trans (congrArg some (by kernel_rfl))⟩
  f27:=⟨Tryz.f307.name,by decide,Tryz.func307.trans (congrArg some (by kernel_rfl))⟩
  f28:=Tryz.func174.trans (congrArg some (by kernel_rfl))
  f29:=Tryz.func175.trans (congrArg some (by kernel_rfl))
  f46:=⟨Tryz.f319.name,by decide,Tryz.func319.trans (congrArg some (by kernel_rfl))⟩
  f47:=Tryz.func234.trans (congrArg some (by kernel_rfl))
  f48:=Tryz.func235.trans (congrArg some (by kernel_rfl))
  f49:=⟨Tryz.f320.name,by decide,Tryz.func320.trans (congrArg some (by kernel_rfl))⟩
  f50:=⟨Tryz.f321.name,by decide,Tryz.func321.trans (congrArg some (by kernel_rfl))⟩
  f57:=⟨Tryz.f330.name,by decide,Tryz.func330.trans (congrArg some (by kernel_rfl))⟩
  t0:=Tryz.underlying0
  a0:=Tryz.isAgg0
  z0:=Tryz.sizeOf0
  v0:=Tryz.zeroValue0
  t3:=Tryz.underlying3
  a3:=Tryz.isAgg3
  z3:=Tryz.sizeOf3
  v3:=Tryz.zeroValue3
  t4:=Tryz.underlying4
  a4:=Tryz.isAgg4
  z4:=Tryz.sizeOf4
  v4:=Tryz.zeroValue4
  t5:=Tryz.underlying5
  a5:=Tryz.isAgg5
  z5:=Tryz.sizeOf5
  v5:=Tryz.zeroValue5
  t9:=Tryz.underlying9
  a9:=Tryz.isAgg9
  z9:=Tryz.sizeOf9
  v9:=Tryz.zeroValue9
  t22:=Tryz.underlying209
  a22:=Tryz.isAgg209
  z22:=Tryz.sizeOf209
  v22:=Tryz.zeroValue209
  t25:=Tryz.underlying347
  a25:=Tryz.isAgg347
  z25:=Tryz.sizeOf347
  v25:=Tryz.zeroValue347
  t39:=Tryz.underlying137
  a39:=Tryz.isAgg137
  z39:=Tryz.sizeOf137
  v39:=Tryz.zeroValue137
  t45:=Tryz.underlying280
  a45:=Tryz.isAgg280
  z45:=Tryz.sizeOf280
  v45:=Tryz.zeroValue280
  t46:=Tryz.underlying281
  a46:=Tryz.isAgg281
  z46:=Tryz.sizeOf281
  v46:=Tryz.zeroValue281
  t50:=Tryz.underlying153
  a50:=Tryz.isAgg153
  z50:=Tryz.sizeOf153
  v50:=Tryz.zeroValue153
  t53:=Tryz.underlying156
  a53:=Tryz.isAgg156
  z53:=Tryz.sizeOf156
  v53:=Tryz.zeroValue156
  t55:=Tryz.underlying74
  a55:=Tryz.isAgg74
  z55:=Tryz.sizeOf74
  v55:=Tryz.zeroValue74
  t66:=Tryz.underlying339
  a66:=Tryz.isAgg339
  z66:=Tryz.sizeOf339
  v66:=Tryz.zeroValue339
  t70:=Tryz.underlying151
  a70:=Tryz.isAgg151
  z70:=Tryz.sizeOf151
  v70:=Tryz.zeroValue151
  t76:=Tryz.underlying382
  a76:=Tryz.isAgg382
  z76:=Tryz.sizeOf382
  v76:=Tryz.zeroValue382
  t77:=Tryz.underlying383
  a77:=Tryz.isAgg383
  z77:=Tryz.sizeOf383
  v77:=Tryz.zeroValue383 }
end Go.Proofs
namespace Go.Proofs.YtbamnpenkjfgkaaGreat
open Go.RowKit
theorem Tryz.info212 : (Tryz.prog.info? 212).map (fun i=>(i.zero,i.size,i.bytes))=some (some (.agg #[.int .i64 0,.int .i64 0]),2,16):=by kernel_rfl
theorem make_runs : ∃ M,∀ W,(Instr.makeSlice 209 (.int .i64 0) (.int .i64 0)).run Tryz.prog W=.ok (.slice (some ⟨W.heap.size,0,none⟩) 0 0) (W.alloc (.cells M 212)):=by
  obtain ⟨i0,hi,hz0,hz1,hz2⟩:=info_parts Tryz.info212
  refine ⟨madeCells (Value.agg #[.int .i64 0,.int .i64 0]).cells (0 * i0.size),fun W=>?_⟩
  have hr:=run_make (P:=Tryz.prog) W 209 212 i0 (.agg #[.int .i64 0,.int .i64 0]) Tryz.underlying209 hi hz0 .i64 .i64 0 0 (by omega) (Int.le_refl _) (by rw [hz2];omega) (by omega)
  simpa using hr
theorem sort0 (A : Option Addr) (c : Nat) (fv : Value) (w : World) : Calls Tryz.prog 242 #[.slice A 0 c,fv] w fun e w'=>e=.returned (.tuple #[])∧w'=w :=
  AnyF.slices_SortFunc_none Tryz.sortRuns A c fv w
set_option maxRecDepth 100000 in
set_option maxHeartbeats 8000000 in
theorem index0F (A : Option Addr) (c : Nat) (fv : Value) (w : World) : Calls Tryz.prog 282 #[.slice A 0 c,fv] w fun e w'=>e=.returned (.int .i64 (-1))∧w'=w:=by
  go_enter Tryz.func282,Tryz.ntmps282
  go_wp2
  go_loopw [8] (fun i wr=>i=.int .i64 0∧wr=w) (fun i _=>0)
  case atStart=>exact ⟨rfl,rfl⟩
  case round =>
    obtain ⟨rfl,rfl⟩:=hrel
    go_wp2
    go_ret
    exact ⟨rfl,rfl⟩
set_option maxRecDepth 100000 in
set_option maxHeartbeats 8000000 in
theorem delete0 (A : Option Addr) (c : Nat) (fv : Value) (w : World) : Calls Tryz.prog 238 #[.slice A 0 c,fv] w fun e w'=>e=.returned (.slice A 0 c)∧w'=w:=by
  go_enter Tryz.func238,Tryz.ntmps238
  go_wp2_with (go_at_call 282;refine (index0F _ _ _ _).mono ?_;rintro e w1 ⟨rfl,rfl⟩)
  go_ret
  exact ⟨rfl,rfl⟩
set_option maxRecDepth 100000 in
set_option maxHeartbeats 8000000 in
theorem clone0 (A : Option Addr) (c : Nat) (w : World) : Calls Tryz.prog 239 #[.slice A 0 c] w fun e w'=>(∃ (A' : Option Addr) (c' : Nat),e=.returned (.slice A' 0 c'))∧Below w.heap.size w w':=by
  have hq:=fun W=>Lib.run_eql_slice_nil (P:=Tryz.prog) W 209 212 A 0 c 0 0 Tryz.underlying209
  cases A
  · dsimp at hq
    go_enter Tryz.func239,Tryz.ntmps239
    go_wp2
    go_ret
    exact ⟨⟨_,_,rfl⟩,Below.refl _ _⟩
  · dsimp at hq
    go_enter Tryz.func239,Tryz.ntmps239
    go_wp2
    go_ret
    exact ⟨⟨_,_,rfl⟩,below_one w _⟩
set_option maxRecDepth 100000 in
set_option maxHeartbeats 8000000 in
theorem normal0 (A : Option Addr) (c : Nat) (w : World) : Calls Tryz.prog 178 #[.slice A 0 c] w fun e w'=>e=.returned (.slice none 0 0)∧Below w.heap.size w w':=by
  go_enter Tryz.func178,Tryz.ntmps178
  go_wp2_with first
    | (go_at_call 239;refine (clone0 _ _ _).mono ?_;rintro e w1 ⟨⟨A1,c1,rfl⟩,hb1⟩;have HB1:=Lib.hid hb1;clear hb1)
    | (go_at_call 238;refine (delete0 _ _ _ _).mono ?_;rintro e w2 ⟨rfl,hw⟩;subst hw)
    | (go_at_call 242;refine (sort0 _ _ _ _).mono ?_;rintro e w2 ⟨rfl,hw⟩;subst hw)
  go_loopw [3,14] (fun r i wr=>r=.slice none 0 0∧i=.int .i64 0∧Hid (Below w.heap.size w wr)) (fun _ _ _=>0)
  case atStart=>exact ⟨rfl,rfl,HB1⟩
  case round =>
    obtain ⟨rfl,rfl,HB⟩:=hrel
    go_wp2
    go_ret
    exact ⟨rfl,HB.out⟩
set_option maxRecDepth 100000 in
set_option maxHeartbeats 8000000 in
theorem blk_nil : BlkNil:=fun w=>by
  obtain ⟨M,hm⟩:=make_runs
  go_enter Tryz.func113,Tryz.ntmps113
  go_wp2_with (go_at_call 162;refine (extsCheck0 _ _ _).mono ?_;rintro e w1 ⟨rfl,hw⟩;rw [hw];clear hw w1)
  have hb:=Lib.hid (below_one w (.cells M 212))
  generalize w.alloc (.cells M 212)=w2 at hb ⊢
  clear hm
  go_loopw [3,14] (fun r i wr=>r=.slice (some ⟨w.heap.size,0,none⟩) 0 0∧i=.int .i64 0∧wr=w2) (fun _ _ _=>0)
  case atStart=>exact ⟨rfl,rfl,rfl⟩
  case round =>
    obtain ⟨rfl,rfl,hw⟩:=hrel
    subst hw
    go_wp2_with (go_at_call 178;refine (normal0 _ _ _).mono ?_;rintro e w3 ⟨rfl,hb3⟩;have HB3:=Lib.hid (bl_trans hb.out hb3);clear hb3)
    go_ret
    exact ⟨⟨_,_,rfl⟩,HB3.out⟩
end Go.Proofs.YtbamnpenkjfgkaaGreat
