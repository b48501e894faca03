/- The shelf's contracts at this dump: iterators, sorting, copying of maps. slices.Sorted over maps.Keys: the names of files, the numbers of pages; maps.Copy of images. pager: restore; maps.Copy of images. -/
import Derived.Test.YtdmhbgpejppbkaaGreatXShelf
import Derived.Test.YtdmhbgpejppbkaaGreatXGaz
import Derived.Test.YtdmhbgpejppbkaaGreatXGav
import Derived.Test.YtdmhbgpejppbkaaGreatXGbg
import Derived.Shelf.SlIter.Nil
import Derived.Shelf.SlIterI.Nil
import Derived.Shelf.SortM.Plain
import Derived.Shelf.SortM.SortNone
import Derived.Shelf.SlMaps.Copy
import Derived.Ground.GgzProg
import Derived.Ground.SlgmProg
import Derived.Ground.SlmpProg
set_option maxRecDepth 100000
set_option maxHeartbeats 4000000
namespace Go.Proofs
open Go.Shelf
def Tryz.keysS_ren:Go.Shelf.Ren:=⟨fun | 7=>119 | 10=>182 | n=>n,fun | 23=>67 | 26=>9 | 3=>82 | 28=>142 | 0=>0 | 27=>141 | 33=>97 | 4=>4 | n=>n,fun | n=>n⟩
theorem Tryz.keysS:Go.Proofs.SlLaysZ.n7 Tryz.prog Tryz.keysS_ren:={
 mixed:=by kernel_rfl
 f7:=⟨Tryz.f119.name,by decide,Tryz.func119.trans (congrArg some (by kernel_rfl))⟩
 f10:=⟨Tryz.f182.name,by decide,Tryz.func182.trans (congrArg some (by kernel_rfl))⟩
 t0:=Tryz.underlying0
 a0:=Tryz.isAgg0
 z0:=Tryz.sizeOf0
 v0:=Tryz.zeroValue0
 t4:=Tryz.underlying4
 a4:=Tryz.isAgg4
 z4:=Tryz.sizeOf4
 v4:=Tryz.zeroValue4
 t23:=Tryz.underlying67
 a23:=Tryz.isAgg67
 z23:=Tryz.sizeOf67
 v23:=Tryz.zeroValue67
 t26:=Tryz.underlying9
 a26:=Tryz.isAgg9
 z26:=Tryz.sizeOf9
 v26:=Tryz.zeroValue9
 t27:=Tryz.underlying141
 a27:=Tryz.isAgg141
 z27:=Tryz.sizeOf141
 v27:=Tryz.zeroValue141
 t28:=Tryz.underlying142
 a28:=Tryz.isAgg142
 z28:=Tryz.sizeOf142
 v28:=Tryz.zeroValue142
 t33:=Tryz.underlying97
 a33:=Tryz.isAgg97
 z33:=Tryz.sizeOf97
 v33:=Tryz.zeroValue97 }
def Tryz.sortedS_ren:Go.Shelf.Ren:=⟨fun | 6=>118 | 8=>180 | 9=>181 | 11=>226 | 13=>205 | 12=>227 | 23=>245 | 24=>246 | 14=>264 | 15=>265 | 16=>266 | 17=>267 | 18=>268 | 19=>269 | 20=>270 | 21=>271 | 22=>272 | 25=>285 | 26=>277 | 27=>278 | 28=>286 | 29=>287 | 30=>288 | 31=>291 | n=>n,fun | 26=>9 | 28=>142 | 24=>57 | 0=>0 | 3=>3 | 37=>51 | 48=>223 | 50=>36 | 4=>4 | 40=>269 | 39=>268 | 45=>252 | 5=>5 | 9=>9 | 51=>293 | 55=>187 | 57=>302 | 58=>303 | 33=>97 | n=>n,fun | n=>n⟩
theorem Tryz.sortedS:Go.Proofs.SlLaysZ.n6 Tryz.prog Tryz.sortedS_ren:={
 mixed:=by kernel_rfl
 f6:=⟨Tryz.f118.name,by decide,Tryz.func118.trans (congrArg some (by kernel_rfl))⟩
 f8:=⟨Tryz.f180.name,by decide,Tryz.func180.trans (congrArg some (by kernel_rfl))⟩
 f11:=⟨Tryz.f226.name,by decide,Tryz.func226.trans (congrArg some (by kernel_rfl))⟩
 t0:=Tryz.underlying0
 a0:=Tryz.isAgg0
 z0:=Tryz.sizeOf0
 v0:=Tryz.zeroValue0
 t24:=Tryz.underlying57
 a24:=Tryz.isAgg57
 z24:=Tryz.sizeOf57
 v24:=Tryz.zeroValue57
 t26:=Tryz.underlying9
 a26:=Tryz.isAgg9
 z26:=Tryz.sizeOf9
 v26:=Tryz.zeroValue9
 t28:=Tryz.underlying142
 a28:=Tryz.isAgg142
 z28:=Tryz.sizeOf142
 v28:=Tryz.zeroValue142
 i26:=by kernel_rfl }
def Tryz.sortS_ren:Go.Shelf.Ren:=⟨fun | 6=>181 | 8=>205 | 9=>227 | 19=>245 | 20=>246 | 21=>264 | 22=>265 | 23=>266 | 24=>267 | 25=>268 | 26=>269 | 27=>270 | 28=>271 | 29=>272 | 36=>285 | 31=>277 | 32=>278 | 37=>286 | 38=>287 | 39=>288 | 41=>291 | n=>n,fun | 27=>57 | 29=>9 | 3=>3 | 32=>51 | 26=>57 | 0=>0 | 44=>223 | 46=>36 | 4=>4 | 36=>269 | 35=>268 | 41=>252 | 5=>5 | 9=>9 | 53=>293 | 57=>187 | 63=>302 | 64=>303 | n=>n,fun | n=>n⟩
theorem Tryz.sortS:Go.Proofs.SlLaysM.n6 Tryz.prog Tryz.sortS_ren:={
 mixed:=by kernel_rfl
 f6:=⟨Tryz.f181.name,by decide,Tryz.func181.trans (congrArg some (by kernel_rfl))⟩
 f8:=Tryz.func205.trans (congrArg some (by kernel_rfl))
 f9:=⟨Tryz.f227.name,by decide,Tryz.func227.trans (congrArg some (by kernel_rfl))⟩
 f19:=Tryz.func245.trans (congrArg some (by kernel_rfl))
 f20:=Tryz.func246.trans (congrArg some (by kernel_rfl))
 f21:=⟨Tryz.f264.name,by decide,Tryz.func264.trans (congrArg some (by kernel_rfl))⟩
 f22:=⟨Tryz.f265.name,by decide,Tryz.func265.trans (congrArg some (by kernel_rfl))⟩
 f23:=⟨Tryz.f266.name,by decide,Tryz.func266.trans (congrArg some (by kernel_rfl))⟩
 f24:=⟨Tryz.f267.name,by decide,Tryz.func267.trans (congrArg some (by kernel_rfl))⟩
 f25:=⟨Tryz.f268.name,by decide,Tryz.func268.trans (congrArg some (by kernel_rfl))⟩
 f26:=⟨Tryz.f269.name,by decide,Tryz.func269.trans (congrArg some (by kernel_rfl))⟩
 f27:=⟨Tryz.f270.name,by decide,Tryz.func270.trans (congrArg some (by kernel_rfl))⟩
 f28:=⟨Tryz.f271.name,by decide,Tryz.func271.trans (congrArg some (by kernel_rfl))⟩
 f29:=⟨Tryz.f272.name,by decide,Tryz.func272.trans (congrArg some (by kernel_rfl))⟩
 f31:=Tryz.func277.trans (congrArg some (by kernel_rfl))
 f32:=Tryz.func278.trans (congrArg some (by kernel_rfl))
 f36:=⟨Tryz.f285.name,by decide,Tryz.func285.trans (congrArg some (by kernel_rfl))⟩
 f37:=⟨Tryz.f286.name,by decide,Tryz.func286.trans (congrArg some (by kernel_rfl))⟩
 f38:=⟨Tryz.f287.name,by decide,Tryz.func287.trans (congrArg some (by kernel_rfl))⟩
 f39:=⟨Tryz.f288.name,by decide,Tryz.func288.trans (congrArg some (by kernel_rfl))⟩
 f41:=⟨Tryz.f291.name,by decide,Tryz.func291.trans (congrArg some (by kernel_rfl))⟩
 t0:=Tryz.underlying0
 a0:=Tryz.isAgg0
 z0:=Tryz.sizeOf0
 v0:=Tryz.zeroValue0
 t3:=Tryz.underlying3
 a3:=Tryz.isAgg3
 z3:=Tryz.sizeOf3
 v3:=Tryz.zeroValue3
 t4:=Tryz.underlying4
 a4:=Tryz.isAgg4
 z4:=Tryz.sizeOf4
 v4:=Tryz.zeroValue4
 t5:=Tryz.underlying5
 a5:=Tryz.isAgg5
 z5:=Tryz.sizeOf5
 v5:=Tryz.zeroValue5
 t9:=Tryz.underlying9
 a9:=Tryz.isAgg9
 z9:=Tryz.sizeOf9
 v9:=Tryz.zeroValue9
 t26:=Tryz.underlying57
 a26:=Tryz.isAgg57
 z26:=Tryz.sizeOf57
 v26:=Tryz.zeroValue57
 t27:=Tryz.underlying57
 a27:=Tryz.isAgg57
 z27:=Tryz.sizeOf57
 v27:=Tryz.zeroValue57
 t29:=Tryz.underlying9
 a29:=Tryz.isAgg9
 z29:=Tryz.sizeOf9
 v29:=Tryz.zeroValue9
 t32:=Tryz.underlying51
 a32:=Tryz.isAgg51
 z32:=Tryz.sizeOf51
 v32:=Tryz.zeroValue51
 t35:=Tryz.underlying268
 a35:=Tryz.isAgg268
 z35:=Tryz.sizeOf268
 v35:=Tryz.zeroValue268
 t36:=Tryz.underlying269
 a36:=Tryz.isAgg269
 z36:=Tryz.sizeOf269
 v36:=Tryz.zeroValue269
 t41:=Tryz.underlying252
 a41:=Tryz.isAgg252
 z41:=Tryz.sizeOf252
 v41:=Tryz.zeroValue252
 t44:=Tryz.underlying223
 a44:=Tryz.isAgg223
 z44:=Tryz.sizeOf223
 v44:=Tryz.zeroValue223
 t46:=Tryz.underlying36
 a46:=Tryz.isAgg36
 z46:=Tryz.sizeOf36
 v46:=Tryz.zeroValue36
 t53:=Tryz.underlying293
 a53:=Tryz.isAgg293
 z53:=Tryz.sizeOf293
 v53:=Tryz.zeroValue293
 t57:=Tryz.underlying187
 a57:=Tryz.isAgg187
 z57:=Tryz.sizeOf187
 v57:=Tryz.zeroValue187
 t63:=Tryz.underlying302
 a63:=Tryz.isAgg302
 z63:=Tryz.sizeOf302
 v63:=Tryz.zeroValue302
 t64:=Tryz.underlying303
 a64:=Tryz.isAgg303
 z64:=Tryz.sizeOf303
 v64:=Tryz.zeroValue303 }
def Tryz.keysI_ren:Go.Shelf.Ren:=⟨fun | 7=>98 | 10=>146 | n=>n,fun | 23=>102 | 26=>3 | 3=>9 | 28=>121 | 0=>0 | 27=>120 | 33=>171 | 4=>4 | n=>n,fun | n=>n⟩
theorem Tryz.keysI:Go.Proofs.SlLaysZI.n7 Tryz.prog Tryz.keysI_ren:={
 mixed:=by kernel_rfl
 f7:=⟨Tryz.f98.name,by decide,Tryz.func98.trans (congrArg some (by kernel_rfl))⟩
 f10:=⟨Tryz.f146.name,by decide,Tryz.func146.trans (congrArg some (by kernel_rfl))⟩
 t0:=Tryz.underlying0
 a0:=Tryz.isAgg0
 z0:=Tryz.sizeOf0
 v0:=Tryz.zeroValue0
 t4:=Tryz.underlying4
 a4:=Tryz.isAgg4
 z4:=Tryz.sizeOf4
 v4:=Tryz.zeroValue4
 t23:=Tryz.underlying102
 a23:=Tryz.isAgg102
 z23:=Tryz.sizeOf102
 v23:=Tryz.zeroValue102
 t26:=Tryz.underlying3
 a26:=Tryz.isAgg3
 z26:=Tryz.sizeOf3
 v26:=Tryz.zeroValue3
 t27:=Tryz.underlying120
 a27:=Tryz.isAgg120
 z27:=Tryz.sizeOf120
 v27:=Tryz.zeroValue120
 t28:=Tryz.underlying121
 a28:=Tryz.isAgg121
 z28:=Tryz.sizeOf121
 v28:=Tryz.zeroValue121
 t33:=Tryz.underlying171
 a33:=Tryz.isAgg171
 z33:=Tryz.sizeOf171
 v33:=Tryz.zeroValue171 }
def Tryz.keysJ_ren:Go.Shelf.Ren:=⟨fun | 7=>215 | 10=>254 | n=>n,fun | 23=>195 | 26=>3 | 3=>3 | 28=>121 | 0=>0 | 27=>120 | 33=>171 | 4=>4 | n=>n,fun | n=>n⟩
theorem Tryz.keysJ:Go.Proofs.SlLaysZI.n7 Tryz.prog Tryz.keysJ_ren:={
 mixed:=by kernel_rfl
 f7:=⟨Tryz.f215.name,by decide,Tryz.func215.trans (congrArg some (by kernel_rfl))⟩
 f10:=⟨Tryz.f254.name,by decide,Tryz.func254.trans (congrArg some (by kernel_rfl))⟩
 t0:=Tryz.underlying0
 a0:=Tryz.isAgg0
 z0:=Tryz.sizeOf0
 v0:=Tryz.zeroValue0
 t4:=Tryz.underlying4
 a4:=Tryz.isAgg4
 z4:=Tryz.sizeOf4
 v4:=Tryz.zeroValue4
 t23:=Tryz.underlying195
 a23:=Tryz.isAgg195
 z23:=Tryz.sizeOf195
 v23:=Tryz.zeroValue195
 t26:=Tryz.underlying3
 a26:=Tryz.isAgg3
 z26:=Tryz.sizeOf3
 v26:=Tryz.zeroValue3
 t27:=Tryz.underlying120
 a27:=Tryz.isAgg120
 z27:=Tryz.sizeOf120
 v27:=Tryz.zeroValue120
 t28:=Tryz.underlying121
 a28:=Tryz.isAgg121
 z28:=Tryz.sizeOf121
 v28:=Tryz.zeroValue121
 t33:=Tryz.underlying171
 a33:=Tryz.isAgg171
 z33:=Tryz.sizeOf171
 v33:=Tryz.zeroValue171 }
def Tryz.sortedI_ren:Go.Shelf.Ren:=⟨fun | 6=>97 | 8=>144 | 9=>145 | 11=>203 | 13=>205 | 12=>204 | 23=>245 | 24=>246 | 14=>236 | 15=>237 | 16=>238 | 17=>239 | 18=>240 | 19=>241 | 20=>242 | 21=>243 | 22=>244 | 25=>276 | 26=>277 | 27=>278 | 28=>279 | 29=>280 | 30=>221 | 31=>289 | n=>n,fun | 26=>3 | 28=>121 | 24=>30 | 0=>0 | 3=>3 | 37=>51 | 48=>223 | 50=>36 | 4=>4 | 40=>269 | 39=>268 | 45=>252 | 5=>5 | 9=>9 | 51=>293 | 55=>187 | 57=>302 | 58=>303 | 33=>171 | n=>n,fun | n=>n⟩
theorem Tryz.sortedI:Go.Proofs.SlLaysZI.n6 Tryz.prog Tryz.sortedI_ren:={
 mixed:=by kernel_rfl
 f6:=⟨Tryz.f97.name,by decide,Tryz.func97.trans (congrArg some (by kernel_rfl))⟩
 f8:=⟨Tryz.f144.name,by decide,Tryz.func144.trans (congrArg some (by kernel_rfl))⟩
 f11:=⟨Tryz.f203.name,by decide,Tryz.func203.trans (congrArg some (by kernel_rfl))⟩
 t0:=Tryz.underlying0
 a0:=Tryz.isAgg0
 z0:=Tryz.sizeOf0
 v0:=Tryz.zeroValue0
 t24:=Tryz.underlying30
 a24:=Tryz.isAgg30
 z24:=Tryz.sizeOf30
 v24:=Tryz.zeroValue30
 t26:=Tryz.underlying3
 a26:=Tryz.isAgg3
 z26:=Tryz.sizeOf3
 v26:=Tryz.zeroValue3
 t28:=Tryz.underlying121
 a28:=Tryz.isAgg121
 z28:=Tryz.sizeOf121
 v28:=Tryz.zeroValue121
 i26:=by kernel_rfl }
def Tryz.sortI_ren:Go.Shelf.Ren:=⟨fun | 5=>145 | 8=>205 | 7=>204 | 19=>245 | 20=>246 | 10=>236 | 11=>237 | 12=>238 | 13=>239 | 14=>240 | 15=>241 | 16=>242 | 17=>243 | 18=>244 | 30=>276 | 31=>277 | 32=>278 | 33=>279 | 34=>280 | 35=>221 | 40=>289 | n=>n,fun | 23=>30 | 25=>3 | 3=>3 | 32=>51 | 22=>30 | 0=>0 | 44=>223 | 46=>36 | 4=>4 | 36=>269 | 35=>268 | 41=>252 | 5=>5 | 9=>9 | 53=>293 | 57=>187 | 63=>302 | 64=>303 | n=>n,fun | n=>n⟩
theorem Tryz.sortI:Go.Proofs.SlLaysM.n5 Tryz.prog Tryz.sortI_ren:={
 mixed:=by kernel_rfl
 f5:=⟨Tryz.f145.name,by decide,Tryz.func145.trans (congrArg some (by kernel_rfl))⟩
 f7:=⟨Tryz.f204.name,by decide,Tryz.func204.trans (congrArg some (by kernel_rfl))⟩
 f8:=Tryz.func205.trans (congrArg some (by kernel_rfl))
 f10:=⟨Tryz.f236.name,by decide,Tryz.func236.trans (congrArg some (by kernel_rfl))⟩
 f11:=⟨Tryz.f237.name,by decide,Tryz.func237.trans (congrArg some (by kernel_rfl))⟩
 f12:=⟨Tryz.f238.name,by decide,Tryz.func238.trans (congrArg some (by kernel_rfl))⟩
 f13:=⟨Tryz.f239.name,by decide,Tryz.func239.trans (congrArg some (by kernel_rfl))⟩
 f14:=⟨Tryz.f240.name,by decide,Tryz.func240.trans (congrArg some (by kernel_rfl))⟩
 f15:=⟨Tryz.f241.name,by decide,Tryz.func241.trans (congrArg some (by kernel_rfl))⟩
 f16:=⟨Tryz.f242.name,by decide,Tryz.func242.trans (congrArg some (by kernel_rfl))⟩
 f17:=⟨Tryz.f243.name,by decide,Tryz.func243.trans (congrArg some (by kernel_rfl))⟩
 f18:=⟨Tryz.f244.name,by decide,Tryz.func244.trans (congrArg some (by kernel_rfl))⟩
 f19:=Tryz.func245.trans (congrArg some (by kernel_rfl))
 f20:=Tryz.func246.trans (congrArg some (by kernel_rfl))
 f30:=⟨Tryz.f276.name,by decide,Tryz.func276.trans (congrArg some (by kernel_rfl))⟩
 f31:=Tryz.func277.trans (congrArg some (by kernel_rfl))
 f32:=Tryz.func278.trans (congrArg some (by kernel_rfl))
 f33:=⟨Tryz.f279.name,by decide,Tryz.func279.trans (congrArg some (by kernel_rfl))⟩
 f34:=⟨Tryz.f280.name,by decide,Tryz.func280.trans (congrArg some (by kernel_rfl))⟩
 f35:=⟨Tryz.f221.name,by decide,Tryz.func221.trans (congrArg some (by kernel_rfl))⟩
 f40:=⟨Tryz.f289.name,by decide,Tryz.func289.trans (congrArg some (by kernel_rfl))⟩
 t0:=Tryz.underlying0
 a0:=Tryz.isAgg0
 z0:=Tryz.sizeOf0
 v0:=Tryz.zeroValue0
 t3:=Tryz.underlying3
 a3:=Tryz.isAgg3
 z3:=Tryz.sizeOf3
 v3:=Tryz.zeroValue3
 t4:=Tryz.underlying4
 a4:=Tryz.isAgg4
 z4:=Tryz.sizeOf4
 v4:=Tryz.zeroValue4
 t5:=Tryz.underlying5
 a5:=Tryz.isAgg5
 z5:=Tryz.sizeOf5
 v5:=Tryz.zeroValue5
 t9:=Tryz.underlying9
 a9:=Tryz.isAgg9
 z9:=Tryz.sizeOf9
 v9:=Tryz.zeroValue9
 t22:=Tryz.underlying30
 a22:=Tryz.isAgg30
 z22:=Tryz.sizeOf30
 v22:=Tryz.zeroValue30
 t23:=Tryz.underlying30
 a23:=Tryz.isAgg30
 z23:=Tryz.sizeOf30
 v23:=Tryz.zeroValue30
 t25:=Tryz.underlying3
 a25:=Tryz.isAgg3
 z25:=Tryz.sizeOf3
 v25:=Tryz.zeroValue3
 t32:=Tryz.underlying51
 a32:=Tryz.isAgg51
 z32:=Tryz.sizeOf51
 v32:=Tryz.zeroValue51
 t35:=Tryz.underlying268
 a35:=Tryz.isAgg268
 z35:=Tryz.sizeOf268
 v35:=Tryz.zeroValue268
 t36:=Tryz.underlying269
 a36:=Tryz.isAgg269
 z36:=Tryz.sizeOf269
 v36:=Tryz.zeroValue269
 t41:=Tryz.underlying252
 a41:=Tryz.isAgg252
 z41:=Tryz.sizeOf252
 v41:=Tryz.zeroValue252
 t44:=Tryz.underlying223
 a44:=Tryz.isAgg223
 z44:=Tryz.sizeOf223
 v44:=Tryz.zeroValue223
 t46:=Tryz.underlying36
 a46:=Tryz.isAgg36
 z46:=Tryz.sizeOf36
 v46:=Tryz.zeroValue36
 t53:=Tryz.underlying293
 a53:=Tryz.isAgg293
 z53:=Tryz.sizeOf293
 v53:=Tryz.zeroValue293
 t57:=Tryz.underlying187
 a57:=Tryz.isAgg187
 z57:=Tryz.sizeOf187
 v57:=Tryz.zeroValue187
 t63:=Tryz.underlying302
 a63:=Tryz.isAgg302
 z63:=Tryz.sizeOf302
 v63:=Tryz.zeroValue302
 t64:=Tryz.underlying303
 a64:=Tryz.isAgg303
 z64:=Tryz.sizeOf303
 v64:=Tryz.zeroValue303 }
def Tryz.copyI_ren:Go.Shelf.Ren:=⟨fun | 5=>96 | n=>n,fun | 23=>102 | 24=>102 | 26=>3 | 27=>9 | 0=>0 | 4=>4 | n=>n,fun | n=>n⟩
theorem Tryz.copyI:Go.Proofs.SlLaysX.n5 Tryz.prog Tryz.copyI_ren:={
 mixed:=by kernel_rfl
 f5:=⟨Tryz.f96.name,by decide,Tryz.func96.trans (congrArg some (by kernel_rfl))⟩
 t0:=Tryz.underlying0
 a0:=Tryz.isAgg0
 z0:=Tryz.sizeOf0
 v0:=Tryz.zeroValue0
 t4:=Tryz.underlying4
 a4:=Tryz.isAgg4
 z4:=Tryz.sizeOf4
 v4:=Tryz.zeroValue4
 t23:=Tryz.underlying102
 a23:=Tryz.isAgg102
 z23:=Tryz.sizeOf102
 v23:=Tryz.zeroValue102
 t24:=Tryz.underlying102
 a24:=Tryz.isAgg102
 z24:=Tryz.sizeOf102
 v24:=Tryz.zeroValue102
 a26:=Tryz.isAgg3
 z26:=Tryz.sizeOf3
 a27:=Tryz.isAgg9
 z27:=Tryz.sizeOf9 }
end Go.Proofs
namespace Go.Proofs.YtdmhbgpejppbkaaGreat
open Go.RowKit Go.Maps Go.Sort Go.Shelf
theorem zM (m:Nat):AnyZ.SortsIn Tryz.prog Tryz.sortedS_ren Fence.wide m:=
 ⟨fun blk off cap ss W hH hblk hsz=>callsIn_wide.2 (AnyM.slices_Sort_string Tryz.sortS blk off cap ss W hH hblk hsz),
  fun p cap W=>callsIn_wide.2 (AnyM.slices_Sort_string_none Tryz.sortS p cap W)⟩
theorem vE (m:Nat):AnyZI.SortsIn Tryz.prog Tryz.sortedI_ren Fence.wide m:=
 ⟨fun blk off cap ss W hH hblk hsz=>callsIn_wide.2 (AnyM.slices_Sort_int Tryz.sortI blk off cap ss W hH hblk hsz),
  fun p cap W=>callsIn_wide.2 (AnyM.slices_Sort_int_none Tryz.sortI p cap W)⟩
theorem uD (mb:Option Nat) (W:World):Calls Tryz.prog 119 #[.map mb] W fun e w'=>e=.returned (.func (.func 182) #[] #[.pointer (some ⟨W.heap.size,0,none⟩)])∧w'=W.alloc (.cells #[.map mb] 67):=
 (callsIn_wide (n:=5)).1 (AnyZ.keys_in Tryz.keysS Fence.wide 5 trivial rfl mb W)
theorem nn (mb:Option Nat) (W:World):Calls Tryz.prog 98 #[.map mb] W fun e w'=>e=.returned (.func (.func 146) #[] #[.pointer (some ⟨W.heap.size,0,none⟩)])∧w'=W.alloc (.cells #[.map mb] 102):=
 (callsIn_wide (n:=5)).1 (AnyZI.keys_in Tryz.keysI Fence.wide 5 trivial rfl mb W)
def Bu (n:By):List Value:=[cZ n]
theorem yv (n:By):(Bu n).length=1:=rfl
theorem wU (l:List By):l.flatMap Bu=l.map encStr:=by
 induction l with
 | nil=>rfl
 | cons a l ih=>rw [List.flatMap_cons,ih];rfl
theorem qG (l:List Int):l.flatMap (fun n=>[Value.int .i64 n])=l.map encZ:=by
 induction l with
 | nil=>rfl
 | cons a l ih=>rw [List.flatMap_cons,ih];rfl
theorem kQ {w:World} {gm n:Nat} {K:List (By × Nat)} {D:DataW Unit} (ho:w.ownsMap Tryz.prog 9 ga gm n D) (hm:MpOf oL AO D K):(K.map (·.1)).Perm (strKeys D):=by
 obtain ⟨es,hD,hpw,_⟩:=ho.entries (string_keyed Tryz.underlying9);obtain ⟨es',hD',hko⟩:=ho.keysOf;obtain rfl:es=es':=by rw [hD] at hD';simpa using hD'
 subst hD;refine perm_strKeys hpw (fun p hp=>by obtain ⟨v,hv⟩:=hko p hp;obtain ⟨x,_,hx,_⟩:=Maps.keyOf_str Tryz.underlying9 hv;exact ⟨x,hx⟩) hm.nd (fun x=>?_);have h1:=hm.has fmT x;rw [cC] at h1;rw [show (Lit.string x)=oL x from rfl,h1];exact ⟨fun h=>by simpa using h,fun h=>by simpa using h⟩
theorem ui {w:World} {gm n:Nat} {K:List (Int × By)} {D:DataW Unit} (ho:w.ownsMap Tryz.prog 3 zu gm n D) (hm:MpOf cq stL D K):(K.map (·.1)).Perm (intKeys D):=by
 obtain ⟨es,hD,hpw,_⟩:=ho.entries bY;obtain ⟨es',hD',hko⟩:=ho.keysOf;obtain rfl:es=es':=by rw [hD] at hD';simpa using hD'
 subst hD;refine perm_intKeys hpw (fun p hp=>by obtain ⟨v,hv⟩:=hko p hp;obtain ⟨x,_,hx,_⟩:=Maps.keyOf_i64 Tryz.underlying3 hv;exact ⟨x,hx⟩) hm.nd (fun x=>?_);have h1:=hm.has xM x;rw [cC] at h1;rw [show (Lit.int .i64 x)=cq x from rfl,h1];exact ⟨fun h=>by simpa using h,fun h=>by simpa using h⟩
def iE (l:List By):List By:=l.mergeSort fun x y=>decide (x≤y)
def bF (l:List Int):List Int:=l.mergeSort fun x y=>decide (x≤y)
theorem pI {K:List (By × Nat)} (gm:Nat) (w:World) (hm:pk w gm K) (hl:K.length≤1000000):
  Calls Tryz.prog 118 #[.func (.func 182) #[] #[.pointer (some ⟨w.heap.size,0,none⟩)]] (w.alloc (.cells #[.map (some gm)] 67)) fun e w'=>∃ v,e=.returned v∧
   Own Bu 1 9 w.heap.size w' v (iE (K.map (·.1)))∧Below w.heap.size w w':=by
 obtain ⟨D0,hown,hmo⟩:=hm;have hsz:Maps.size D0=K.length:=hmo.size;have hp:=kQ hown hmo
 have hseq:SeqGives Fence.wide 2 Tryz.prog 182 #[.pointer (some ⟨w.heap.size,0,none⟩)] encStr (fun ss=>ss.Perm (strKeys D0)) (Maps.size D0) (w.alloc (.cells #[.map (some gm)] 67)):=
  AnyZ.keys_gives (ρ:=Tryz.keysS_ren) { Tryz.keysS with } Fence.wide _ trivial rfl (by omega) w.heap.size gm K.length D0 _ (by simp) (by simp) (by
   have hbl:=hown.lt;obtain ⟨es,clock,hb,Ft,hs,hD⟩:=hown;exact ⟨es,clock,(Below.heap_alloc _ _ gm hbl).trans hb,Ft,hs,hD⟩)
 have h:=AnyZ.sorted_in Tryz.sortedS Fence.wide 5 trivial trivial trivial trivial rfl (by omega) (zM _) (enters_of Tryz.func181 (by kernel_rfl) rfl) 182 #[.pointer (some ⟨w.heap.size,0,none⟩)] trivial (enters_of Tryz.func182 (by kernel_rfl) rfl) _ _ (by rw [hsz];unfold maxLen;omega) (by rw [hsz];omega) _ hseq;refine ((callsIn_wide (n:=5)).1 h).mono ?_;rintro e w' ⟨v,ss,rfl,hS,hrow,-,hb⟩;refine ⟨v,rfl,?_,((Below.refl _ w).alloc (Nat.le_refl _) _).trans (hb.mono (by simp))⟩;have hS2:ss.Perm (K.map (·.1)):=hS.trans hp.symm;have e1:iE (K.map (·.1))=ss.mergeSort fun x y=>decide (x≤y):=(mergeSort_of_perm hS2).symm
 unfold Own;rw [wU,e1,List.length_mergeSort];exact ownsRow_base_a hrow (by simp)
theorem jZ {K:List (Int × By)} (gm:Nat) (w:World) (hm:fu w gm K) (hl:K.length≤1000000):
  Calls Tryz.prog 97 #[.func (.func 146) #[] #[.pointer (some ⟨w.heap.size,0,none⟩)]] (w.alloc (.cells #[.map (some gm)] 102)) fun e w'=>∃ v,e=.returned v∧
   Own (fun n=>[Value.int .i64 n]) 1 3 w.heap.size w' v (bF (K.map (·.1)))∧Below w.heap.size w w':=by
 obtain ⟨D0,hown,hmo⟩:=hm;have hsz:Maps.size D0=K.length:=hmo.size;have hp:=ui hown hmo
 have hseq:SeqGives Fence.wide 2 Tryz.prog 146 #[.pointer (some ⟨w.heap.size,0,none⟩)] encZ (fun ss=>ss.Perm (intKeys D0)) (Maps.size D0) (w.alloc (.cells #[.map (some gm)] 102)):=
  AnyZI.keys_gives (ρ:=Tryz.keysI_ren) { Tryz.keysI with } Fence.wide _ trivial rfl (by omega) w.heap.size gm K.length D0 _ (by simp) (by simp) (by
   have hbl:=hown.lt;obtain ⟨es,clock,hb,Ft,hs,hD⟩:=hown;exact ⟨es,clock,(Below.heap_alloc _ _ gm hbl).trans hb,Ft,hs,hD⟩)
 have h:=AnyZI.sorted_in Tryz.sortedI Fence.wide 5 trivial trivial trivial trivial rfl (by omega) (vE _) (enters_of Tryz.func145 (by kernel_rfl) rfl) 146 #[.pointer (some ⟨w.heap.size,0,none⟩)] trivial (enters_of Tryz.func146 (by kernel_rfl) rfl) _ _ (by rw [hsz];unfold maxLen;omega) (by rw [hsz];omega) _ hseq;refine ((callsIn_wide (n:=5)).1 h).mono ?_;rintro e w' ⟨v,ss,rfl,hS,hrow,-,hb⟩;refine ⟨v,rfl,?_,((Below.refl _ w).alloc (Nat.le_refl _) _).trans (hb.mono (by simp))⟩;have hS2:ss.Perm (K.map (·.1)):=hS.trans hp.symm;have e1:bF (K.map (·.1))=ss.mergeSort fun x y=>decide (x≤y):=(mergeSort_of_perm_i hS2).symm
 unfold Own;rw [qG,e1,List.length_mergeSort];exact ownsRow_base_a hrow (by simp)
end Go.Proofs.YtdmhbgpejppbkaaGreat
namespace Go.Proofs.YtdmhbgpejppbkaaGreat
open Go.Lib (hid)
open Go.RowKit Go.Maps
theorem sK (n:Nat) (p:He × Nat) (g:Nat) (w:World) (hg:w.cell? ⟨g,0,none⟩=some (.int .i64 n)) (hl:g<w.heap.size):
  Calls Tryz.prog 148 #[sV p,.pointer (some ⟨g,0,none⟩)] w fun e w'=>e=.returned (.bool (bo n p))∧Below w.heap.size w w':=by
 have HA:=hid ((Below.refl _ w).alloc (Nat.le_refl _) (pD p));unfold sV;go_enter Tryz.func148,Tryz.ntmps148;by_cases h:n<p.1.pages
 ·have h1:(n:Int)<(p.1.pages:Int):=by omega
  go_wp2_with fail;go_ret;exact ⟨by simp [bo,h],HA.out⟩
 ·have h1:¬ (n:Int)<(p.1.pages:Int):=by omega
  go_wp2_with fail;go_ret;exact ⟨by simp [bo,h],HA.out⟩
theorem sr (n:Nat) (g:Nat) (v:Value) (xs:List (He × Nat)) (w:World) (h:Sl mO 7 w v xs) (hl:xs.length≤1000000) (hg:w.cell? ⟨g,0,none⟩=some (.int .i64 n)) (hgl:g<w.heap.size):
  Calls Tryz.prog 206 #[v,.func (Fn.func 148) #[] #[.pointer (some ⟨g,0,none⟩)]] w fun e w'=>e=.returned (.int .i64 (bI (bo n) xs))∧Below w.heap.size w w':=by
 obtain ⟨A,c,rfl⟩:=Sl.len' h;have H:=hid h;have HG:=hid (And.intro hg hgl);clear h hg hgl;go_enter Tryz.func206,Tryz.ntmps206;go_wp2_with fail;go_loopw [8] (fun i wr=>∃ k:Nat,k≤xs.length∧i=.int .i64 k∧(∀ j (h:j<xs.length),j<k→bo n xs[j]=false)∧Below w.heap.size w wr) (fun i _=>xs.length - (intOf i).toNat)
 case atStart=>exact ⟨0,Nat.zero_le _,rfl,fun _ _ h=>absurd h (Nat.not_lt_zero _),Below.refl _ _⟩
 case round=>
  obtain ⟨k,hk,rfl,hno,hb⟩:=hrel;have HN:=hid hno;have HB:=hid hb;clear hno hb;by_cases hlt:k<xs.length
  ·obtain ⟨b,off,c',he,hbl,hcells⟩:=(H.out.keep HB.out).at1 hlt;injection he with he1 he2 he3
   subst he1 he3;have hk0:(0:Int)≤(k:Int):=by omega
   have hk1:(k:Int)<(xs.length:Int):=by omega
   have HI:=hid (show bo n xs[k]=true→bI (bo n) xs=k from fun h=>fM hlt h HN.out);have HU:=hid (show bo n xs[k]=false→∀ j (h:j<xs.length),j<k+1→bo n xs[j]=false from fun h=>oK HN.out hlt h);generalize xs[k]=x at *;have e0:wr.cell? ⟨b,off+k * 7,none⟩=some (.int .i64 x.1.mode):=hcells 0 _ rfl;have e1:wr.cell? ⟨b,off+k * 7+1,none⟩=some (.int .i64 x.1.pages):=hcells 1 _ rfl;have e2:wr.cell? ⟨b,off+k * 7+2,none⟩=some (.int .i64 x.1.trunk):=hcells 2 _ rfl;have e3:wr.cell? ⟨b,off+k * 7+3,none⟩=some (.int .i64 x.1.spare):=hcells 3 _ rfl;have e4:wr.cell? ⟨b,off+k * 7+4,none⟩=some (.int .i64 x.1.root):=hcells 4 _ rfl;have e5:wr.cell? ⟨b,off+k * 7+5,none⟩=some (.int .u64 x.1.change):=hcells 5 _ rfl;have e6:wr.cell? ⟨b,off+k * 7+6,none⟩=some (.map (some x.2)):=hcells 6 _ rfl;have HBL:=hid (sK n x g wr ((HB.out.cell (p:=⟨g,0,none⟩) HG.out.2).trans HG.out.1) (Nat.lt_of_lt_of_le HG.out.2 HB.out.size));unfold sV at HBL;clear hcells;go_wp2_with fail;refine HBL.out.mono ?_;rintro e w' ⟨rfl,hb⟩;have HB2:=hid (HB.out.trans (hb.mono HB.out.size));clear hb;cases hx:bo n x
   ·have HX:=hid (HU.out hx);go_wp2_with fail;go_roundw
    case rel=>exact ⟨k+1,by omega,by go_num,HX.out,HB2.out⟩
    case measure=>simp [intOf];omega
   ·have HX:=hid (HI.out hx);go_wp2_with fail;go_ret;exact ⟨by rw [HX.out];rfl,HB2.out⟩
  ·have HX:=hid (dZ (p:=bo n) hlt HN.out);go_wp2_with fail;go_ret;exact ⟨by rw [HX.out];rfl,HB.out⟩
theorem mJ (n:Nat) (g:Nat) (v:Value) (xs:List (He × Nat)) (w:World) (h:Sl mO 7 w v xs) (hl:xs.length≤1000000) (hg:w.cell? ⟨g,0,none⟩=some (.int .i64 n)) (hgl:g<w.heap.size):
  Calls Tryz.prog 147 #[v,.func (Fn.func 148) #[] #[.pointer (some ⟨g,0,none⟩)]] w fun e w'=>e=.returned (.bool (xs.any (bo n)))∧Below w.heap.size w w':=by
 go_enter Tryz.func147,Tryz.ntmps147;go_wp2_with fail;refine (sr n g v xs w h hl hg hgl).mono ?_;rintro e w' ⟨rfl,hb⟩;have HB:=hid hb;clear hb;have HF:=hid (fL (bo n) xs);generalize bI (bo n) xs=m at *;go_wp2_with fail;go_ret;exact ⟨by rw [← HF.out];rfl,HB.out⟩
def Pgr.restore (P:Pgr) (n:Nat) (s:By):Pgr:=if P.work.pages≤n∧P.any n=false then { P with ca:=without n P.ca } else P.hold n s true
structure CanRestore (P:Pgr) (n:Nat) (s:By):Prop where
 lt:n<4096
 gone:¬ (P.work.pages≤n∧P.any n=false)→(P.gone n s true).length≤1000
 spills:¬ (P.work.pages≤n∧P.any n=false)→bU (P.putc n s true) (P.gone n s true)
theorem oz (n:Nat) (s:By) (w:World) {L:PgL} {P:Pgr} (h:PgIs w L P) (hc:CanRestore P n s):
  Calls Tryz.prog 99 #[ai L.gp,.int .i64 n,.string (aj s)] w fun e w'=>e=.returned (.int .i64 0)∧PTo w L (P.restore n s) w':=by
 have hA:Below w.heap.size w (w.alloc (.cells #[.int .i64 n] 3)):=(Below.refl _ w).alloc (Nat.le_refl _) _;have hX:(w.alloc (.cells #[.int .i64 n] 3)).heap[w.heap.size]?=some (.cells #[.int .i64 n] 3 (0,0)):=af rfl;have HA:=hid hA;have HH:=hid (h.below hA);have HX:=hid hX;have HCC:=hid hc;have hnf:¬ L.Fc w.heap.size:=fun e=>by have:=h.calt _ e;omega
 unfold ai at *;clear h hc hA hX;go_enter Tryz.func99,Tryz.ntmps99;go_upto_region 1 with fail
 have hw0:∃ w0,w.alloc (.cells #[.int .i64 n] 3)=w0:=⟨_,rfl⟩;obtain ⟨w0,hw0⟩:=hw0;rw [hw0] at HA HH HX ⊢;clear hw0;have HNF:=hid hnf;clear hnf;have hC:=ag HH.out.blk;have hl:=hC.lt;have x0:=aa HX.out 0;have xl:=ab HX.out;simp only [List.getElem?_toArray,List.getElem?_cons_zero] at x0;have c16:=hC.c16;clear hC;by_cases hp:P.work.pages≤n
 ·have hp1:(P.work.pages:Int)≤(n:Int):=by omega
  obtain ⟨A,c,hv,-⟩:=dz HH.out.sv;have hzl:((P.saves.map (·.head)).zip L.gs).length=P.saves.length:=by rw [List.length_zip,List.length_map,HH.out.sv.len,Nat.min_self]
  have hn16:=HH.out.ok.nos;have HCT:=hid (mJ n w.heap.size L.vs ((P.saves.map (·.head)).zip L.gs) w0.drew ((HH.out.below ((Below.refl w0.heap.size w0).drew)).sv.row.sl cL) (by rw [hzl];omega) x0 xl);rw [nZ n HH.out.sv.len,show P.saves.any (iz n)=P.any n from rfl,hv] at HCT;have c21:=(ag HH.out.blk).c21;have d21:w0.drew.cell? ⟨L.gp,21,none⟩=some L.vs:=c21;have dl:L.gp<w0.drew.heap.size:=hl;rw [hv] at c21 d21;obtain ⟨q,hq⟩:∃ q,P.any n=q:=⟨_,rfl⟩;rw [hq] at HCT;have HQ:=hid (And.intro hq hp);clear hv hzl hn16 hq hp;go_wp2_with fail;go_region;go_wp2_with fail;refine HCT.out.mono ?_;rintro e w2 ⟨rfl,hb2⟩;have HB2:=hid (show Below w0.heap.size w0 w2 from ((Below.refl w0.heap.size w0).drew).trans hb2);have HP2:=hid (HH.out.below HB2.out);have e0:=(HB2.out.cell (p:=⟨w.heap.size,0,none⟩) xl).trans x0;have el:=Nat.lt_of_lt_of_le xl HB2.out.size;have hC2:=ag HP2.out.blk;have e1:=hC2.c1;have ell:=hC2.lt;clear hb2 hC2 c21 d21 dl c16 x0 xl hl;cases q
  ·have HAP:=hid (HP2.out.apart);obtain ⟨gc,hvc⟩:=HP2.out.ca.ptr;have HFG:=hid (fun (wx:World) (hx:Below w2.heap.size w2 wx)=>gV n wx (HP2.out.below hx).ca (bD (by have:=HCC.out.lt;omega)))
   have HPP:=hid (show ∀ wx w',Below w2.heap.size w2 wx→Ca w' L.Fc L.vc P.size (without n P.ca)→Ch L.Fc wx w'→PTo w L (P.restore n s) w' from fun wx w' hx h1 h2=>by
    have e:P.restore n s={ P with ca:=without n P.ca }:=by unfold Pgr.restore;rw [if_pos ⟨HQ.out.2,HQ.out.1⟩]
    rw [e];exact PTo.pre (PTo.pre (PTo.pre ((HP2.out.below hx).getCa h1 h2) hx) HB2.out) HA.out)
   rw [hvc] at HFG HPP e1;have f1:w2.drew.cell? ⟨L.gp,1,none⟩=some (.pointer (some gc)):=e1;have f0:w2.drew.cell? ⟨w.heap.size,0,none⟩=some (.int .i64 n):=e0;have HF1:=hid (And.intro f1 f0);have HARM:=hid (show ∀ w3,Ca w3 L.Fc (.pointer (some gc)) P.size (without n P.ca)→Ch L.Fc w2.drew w3→Hid (PTo w L (P.restore n s) w3)∧w3.cell? ⟨L.gp,1,none⟩=some (.pointer (some gc))∧w3.cell? ⟨w.heap.size,0,none⟩=some (.int .i64 n) from fun w3 h1 h2=>
    ⟨hid (HPP.out _ w3 ((Below.refl w2.heap.size w2).drew) h1 h2),h2.cell HF1.out.1 (fun e=>HAP.out.pc e),h2.cell HF1.out.2 (fun e=>HNF.out e)⟩)
   clear f1 f0;go_wp2_with fail
   go_region_held3 (fun w'=>w'.cell? ⟨L.gp,1,none⟩=some (.pointer (some gc))∧w'.cell? ⟨w.heap.size,0,none⟩=some (.int .i64 n)) (first | exact ⟨d1,d0⟩ | exact ⟨e1,e0⟩)
    (first
     | (go_at_call 115;(with_reducible refine (HFG.out _ ?ba).mono ?_);(case ba=>exact (Below.refl w2.heap.size w2).drew);rintro e w3 ⟨rfl,h1,h2⟩;obtain ⟨HR3,d1,d0⟩:=HARM.out w3 h1 h2;clear h1 h2))
   go_wp2_with fail;go_ret;exact ⟨rfl,HR3.out⟩
  ·have HNO:=hid (show ¬ (P.work.pages≤n∧P.any n=false) from fun h=>by rw [HQ.out.1] at h;cases h.2);have HHD:=hid (cY n s true w2 (HH.out.below HB2.out) HCC.out.lt (HCC.out.gone HNO.out) (HCC.out.spills HNO.out));unfold ai at HHD;have HBH:=hid HB2.out;go_wp2_with fail;refine HHD.out.mono ?_;rintro e w9 ⟨rfl,hr⟩;have HRR:=hid (show PTo w L (P.restore n s) w9 from by unfold Pgr.restore;rw [if_neg HNO.out];exact PTo.pre (PTo.pre hr HBH.out) HA.out);clear hr;go_wp2_with fail;go_ret;exact ⟨rfl,HRR.out⟩
 ·have hp1:(n:Int)<(P.work.pages:Int):=by omega
  have HNO:=hid (show ¬ (P.work.pages≤n∧P.any n=false) from fun h=>hp h.1);clear hp;go_wp2_with fail;go_region;have x0':w0.drew.cell? ⟨w.heap.size,0,none⟩=some (.int .i64 n):=x0;have xl':w.heap.size<w0.drew.heap.size:=xl;have HHD:=hid (cY n s true w0.drew (HH.out.below ((Below.refl w0.heap.size w0).drew)) HCC.out.lt (HCC.out.gone HNO.out) (HCC.out.spills HNO.out));unfold ai at HHD;have HBH:=hid ((Below.refl w0.heap.size w0).drew);go_wp2_with fail;refine HHD.out.mono ?_;rintro e w9 ⟨rfl,hr⟩;have HRR:=hid (show PTo w L (P.restore n s) w9 from by unfold Pgr.restore;rw [if_neg HNO.out];exact PTo.pre (PTo.pre hr HBH.out) HA.out);clear hr;go_wp2_with fail;go_ret;exact ⟨rfl,HRR.out⟩
end Go.Proofs.YtdmhbgpejppbkaaGreat
