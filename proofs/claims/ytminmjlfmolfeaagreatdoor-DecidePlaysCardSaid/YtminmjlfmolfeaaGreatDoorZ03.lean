/- Parts of the proof, one behind the other, each under its own heading. No conditions. -/
import Derived.Test.YtminmjlfmolfeaaGreatDoorZ02
import Derived.Test.YtminmjlfmolfeaaGreatDoorProg
import Derived.LaidMore
import Derived.OpenShut
import Derived.Handed
import Derived.MakeChecks
import Derived.Stop.Joined
import Derived.SevenTiedAt
import Derived.DeepKeys3
import Derived.Laws.IdiomRangeMap
set_option linter.unusedSectionVars false
set_option linter.unusedSimpArgs false
set_option linter.unusedVariables false
/- Facts on the types and the functions of this translation, as instances: printed by a program (types.py). -/
set_option maxHeartbeats 1600000
set_option maxRecDepth 20000
namespace Go.Proofs.YtminmjlfmolfeaaGreatDoor
open Go
instance ty14:Und Tryz.prog 3 (Go.TypeDesc.int Go.IntKind.i64):=⟨Tryz.underlying3⟩
instance ty15:Siz Tryz.prog 3 1:=⟨by kernel_rfl⟩
instance ty16:Byt Tryz.prog 3 8:=⟨by kernel_rfl⟩
instance ty17:Zer Tryz.prog 3 (.int .i64 0):=⟨by kernel_rfl⟩
instance ty18:Und Tryz.prog 4 (Go.TypeDesc.bool):=⟨Tryz.underlying4⟩
instance ty19:Siz Tryz.prog 4 1:=⟨by kernel_rfl⟩
instance ty21:Zer Tryz.prog 4 (.bool false):=⟨by kernel_rfl⟩
instance ty22:Und Tryz.prog 5 (Go.TypeDesc.int Go.IntKind.u8):=⟨Tryz.underlying5⟩
instance ty23:Siz Tryz.prog 5 1:=⟨by kernel_rfl⟩
instance ty24:Byt Tryz.prog 5 1:=⟨by kernel_rfl⟩
instance ty25:Zer Tryz.prog 5 (.int .u8 0):=⟨by kernel_rfl⟩
instance ty40:Und Tryz.prog 9 (Go.TypeDesc.string):=⟨Tryz.underlying9⟩
instance ty41:Siz Tryz.prog 9 1:=⟨by kernel_rfl⟩
instance ty43:Zer Tryz.prog 9 (.string ByteArray.empty):=⟨by kernel_rfl⟩
instance ty96:Und Tryz.prog 22 (Go.TypeDesc.slice 88):=⟨Tryz.underlying22⟩
instance ty100:Und Tryz.prog 23 (Go.TypeDesc.slice 44):=⟨Tryz.underlying23⟩
instance ty101:Siz Tryz.prog 23 1:=⟨by kernel_rfl⟩
instance ty104:Und Tryz.prog 24 (Go.TypeDesc.int Go.IntKind.u64):=⟨Tryz.underlying24⟩
instance ty105:Siz Tryz.prog 24 1:=⟨by kernel_rfl⟩
instance ty106:Byt Tryz.prog 24 8:=⟨by kernel_rfl⟩
instance ty107:Zer Tryz.prog 24 (.int .u64 0):=⟨by kernel_rfl⟩
instance ty128:Und Tryz.prog 30 (Go.TypeDesc.slice 36):=⟨Tryz.underlying30⟩
instance ty129:Siz Tryz.prog 30 1:=⟨by kernel_rfl⟩
instance ty132:Und Tryz.prog 31 (Go.TypeDesc.slice 51):=⟨Tryz.underlying31⟩
instance ty133:Siz Tryz.prog 31 1:=⟨by kernel_rfl⟩
instance ty136:Und Tryz.prog 32 (Go.TypeDesc.pointer 75):=⟨Tryz.underlying32⟩
instance ty137:Siz Tryz.prog 32 1:=⟨by kernel_rfl⟩
instance ty145:type_of% (Und.mk Tryz.underlying34):=⟨Tryz.underlying34⟩
instance ty148:Plc Tryz.prog 34 [(0,1),(1,1),(2,1)]:=⟨fun fs w h=>by rw [Tryz.underlying34] at h;cases h;kernel_rfl⟩
instance ty149:Zer Tryz.prog 34 (.agg (([.slice none 0 0,.slice none 0 0,.pointer none]:List Value)).toArray):=⟨by kernel_rfl⟩
instance ty154:Und Tryz.prog 36 (Go.TypeDesc.array 11 24):=⟨Tryz.underlying36⟩
instance ty155:Siz Tryz.prog 36 11:=⟨by kernel_rfl⟩
instance ty156:Byt Tryz.prog 36 88:=⟨by kernel_rfl⟩
instance ty157:Zer Tryz.prog 36 (.agg ((List.replicate 11 (.int .u64 0):List Value)).toArray):=⟨by kernel_rfl⟩
instance ty158:Und Tryz.prog 37 (Go.TypeDesc.pointer 130):=⟨Tryz.underlying37⟩
instance ty172:type_of% (Und.mk Tryz.underlying41):=⟨Tryz.underlying41⟩
instance ty173:Siz Tryz.prog 41 6:=⟨by kernel_rfl⟩
instance ty175:Plc Tryz.prog 41 [(0,1),(1,1),(2,1),(3,1),(4,1),(5,1)]:=⟨fun fs w h=>by rw [Tryz.underlying41] at h;cases h;kernel_rfl⟩
instance ty176:Zer Tryz.prog 41 (.agg (([.int .u8 0,.string ByteArray.empty,.string ByteArray.empty,.string ByteArray.empty,.string ByteArray.empty,.int .u64 0]:List Value)).toArray):=⟨by kernel_rfl⟩
instance ty177:Und Tryz.prog 42 (Go.TypeDesc.array 32 5):=⟨Tryz.underlying42⟩
instance ty178:Siz Tryz.prog 42 32:=⟨by kernel_rfl⟩
instance ty180:Zer Tryz.prog 42 (.agg ((List.replicate 32 (.int .u8 0):List Value)).toArray):=⟨by kernel_rfl⟩
instance ty186:type_of% (Und.mk Tryz.underlying44):=⟨Tryz.underlying44⟩
instance ty187:Siz Tryz.prog 44 40:=⟨by kernel_rfl⟩
instance ty188:Byt Tryz.prog 44 128:=⟨by kernel_rfl⟩
instance ty189:Plc Tryz.prog 44 [(0,1),(1,1),(2,6),(8,32)]:=⟨fun fs w h=>by rw [Tryz.underlying44] at h;cases h;kernel_rfl⟩
instance ty190:Zer Tryz.prog 44 (.agg (([.int .i64 0,.int .u64 0,.int .u8 0,.string ByteArray.empty,.string ByteArray.empty,.string ByteArray.empty,.string ByteArray.empty,.int .u64 0]:List Value) ++ (List.replicate 32 (.int .u8 0):List Value)).toArray):=⟨by kernel_rfl⟩
instance ty191:Und Tryz.prog 45 (Go.TypeDesc.slice 133):=⟨Tryz.underlying45⟩
instance ty192:Siz Tryz.prog 45 1:=⟨by kernel_rfl⟩
instance ty200:type_of% (Und.mk Tryz.underlying47):=⟨Tryz.underlying47⟩
instance ty201:Siz Tryz.prog 47 76:=⟨by kernel_rfl⟩
instance ty203:Plc Tryz.prog 47 [(0,1),(1,1),(2,1),(3,40),(43,1),(44,32)]:=⟨fun fs w h=>by rw [Tryz.underlying47] at h;cases h;kernel_rfl⟩
instance ty204:Zer Tryz.prog 47 (.agg (([.int .u8 0,.int .u64 0,.int .u64 0,.int .i64 0,.int .u64 0,.int .u8 0,.string ByteArray.empty,.string ByteArray.empty,.string ByteArray.empty,.string ByteArray.empty,.int .u64 0]:List Value) ++ (List.replicate 32 (.int .u8 0):List Value) ++ ([.slice none 0 0]:List Value) ++ (List.replicate 32 (.int .u8 0):List Value)).toArray):=⟨by kernel_rfl⟩
instance ty215:type_of% (Und.mk Tryz.underlying51):=⟨Tryz.underlying51⟩
instance ty216:Siz Tryz.prog 51 121:=⟨by kernel_rfl⟩
instance ty217:Byt Tryz.prog 51 344:=⟨by kernel_rfl⟩
instance ty218:Plc Tryz.prog 51 [(0,1),(1,1),(2,11),(13,76),(89,32)]:=⟨fun fs w h=>by rw [Tryz.underlying51] at h;cases h;kernel_rfl⟩
instance ty219:Zer Tryz.prog 51 (.agg (([.int .i64 0,.int .u64 0]:List Value) ++ (List.replicate 11 (.int .u64 0):List Value) ++ ([.int .u8 0,.int .u64 0,.int .u64 0,.int .i64 0,.int .u64 0,.int .u8 0,.string ByteArray.empty,.string ByteArray.empty,.string ByteArray.empty,.string ByteArray.empty,.int .u64 0]:List Value) ++ (List.replicate 32 (.int .u8 0):List Value) ++ ([.slice none 0 0]:List Value) ++ (List.replicate 32 (.int .u8 0):List Value) ++ (List.replicate 32 (.int .u8 0):List Value)).toArray):=⟨by kernel_rfl⟩
instance ty284:Und Tryz.prog 71 (Go.TypeDesc.slice 81):=⟨Tryz.underlying71⟩
instance ty285:Siz Tryz.prog 71 1:=⟨by kernel_rfl⟩
instance ty288:Und Tryz.prog 72 (Go.TypeDesc.slice 161):=⟨Tryz.underlying72⟩
instance ty289:Siz Tryz.prog 72 1:=⟨by kernel_rfl⟩
instance ty292:Und Tryz.prog 73 (Go.TypeDesc.slice 253):=⟨Tryz.underlying73⟩
instance ty293:Siz Tryz.prog 73 1:=⟨by kernel_rfl⟩
instance ty301:type_of% (Und.mk Tryz.underlying75):=⟨Tryz.underlying75⟩
instance ty304:Plc Tryz.prog 75 [(0,1),(1,11),(12,1),(13,1),(14,1)]:=⟨fun fs w h=>by rw [Tryz.underlying75] at h;cases h;kernel_rfl⟩
instance ty305:Zer Tryz.prog 75 (.agg (([.int .i64 0]:List Value) ++ (List.replicate 11 (.int .u64 0):List Value) ++ ([.slice none 0 0,.slice none 0 0,.slice none 0 0]:List Value)).toArray):=⟨by kernel_rfl⟩
instance ty318:Und Tryz.prog 79 (Go.TypeDesc.slice 258):=⟨Tryz.underlying79⟩
instance ty319:Siz Tryz.prog 79 1:=⟨by kernel_rfl⟩
instance ty327:type_of% (Und.mk Tryz.underlying81):=⟨Tryz.underlying81⟩
instance ty328:Siz Tryz.prog 81 4:=⟨by kernel_rfl⟩
instance ty329:Byt Tryz.prog 81 64:=⟨by kernel_rfl⟩
instance ty330:Plc Tryz.prog 81 [(0,1),(1,1),(2,1),(3,1)]:=⟨fun fs w h=>by rw [Tryz.underlying81] at h;cases h;kernel_rfl⟩
instance ty331:Zer Tryz.prog 81 (.agg (([.int .u64 0,.int .u64 0,.slice none 0 0,.slice none 0 0]:List Value)).toArray):=⟨by kernel_rfl⟩
instance ty348:Und Tryz.prog 86 (Go.TypeDesc.slice 5):=⟨Tryz.underlying86⟩
instance ty349:Siz Tryz.prog 86 1:=⟨by kernel_rfl⟩
instance ty351:Zer Tryz.prog 86 (.slice none 0 0):=⟨by kernel_rfl⟩
instance ty357:type_of% (Und.mk Tryz.underlying88):=⟨Tryz.underlying88⟩
instance ty358:Siz Tryz.prog 88 12:=⟨by kernel_rfl⟩
instance ty366:Und Tryz.prog 90 (Go.TypeDesc.slice 24):=⟨Tryz.underlying90⟩
instance ty367:Siz Tryz.prog 90 1:=⟨by kernel_rfl⟩
instance ty397:Und Tryz.prog 98 (Go.TypeDesc.slice 3):=⟨Tryz.underlying98⟩
instance ty500:Und Tryz.prog 125 (Go.TypeDesc.func #[47] #[4] false):=⟨Tryz.underlying125⟩
instance ty501:Siz Tryz.prog 125 1:=⟨by kernel_rfl⟩
instance ty504:Und Tryz.prog 126 (Go.TypeDesc.map 24 146):=⟨Tryz.underlying126⟩
instance ty505:Siz Tryz.prog 126 1:=⟨by kernel_rfl⟩
instance ty508:Und Tryz.prog 127 (Go.TypeDesc.slice 137):=⟨Tryz.underlying127⟩
instance ty509:Siz Tryz.prog 127 1:=⟨by kernel_rfl⟩
instance ty512:Und Tryz.prog 128 (Go.TypeDesc.slice 235):=⟨Tryz.underlying128⟩
instance ty513:Siz Tryz.prog 128 1:=⟨by kernel_rfl⟩
instance ty521:type_of% (Und.mk Tryz.underlying130):=⟨Tryz.underlying130⟩
instance ty524:Plc Tryz.prog 130 [(0,1),(1,11),(12,1),(13,1),(14,1)]:=⟨fun fs w h=>by rw [Tryz.underlying130] at h;cases h;kernel_rfl⟩
instance ty525:Zer Tryz.prog 130 (.agg (([.int .i64 0]:List Value) ++ (List.replicate 11 (.int .u64 0):List Value) ++ ([.map none,.slice none 0 0,.slice none 0 0]:List Value)).toArray):=⟨by kernel_rfl⟩
instance ty535:type_of% (Und.mk Tryz.underlying133):=⟨Tryz.underlying133⟩
instance ty536:Siz Tryz.prog 133 2:=⟨by kernel_rfl⟩
instance ty537:Byt Tryz.prog 133 16:=⟨by kernel_rfl⟩
instance ty538:Plc Tryz.prog 133 [(0,1),(1,1)]:=⟨fun fs w h=>by rw [Tryz.underlying133] at h;cases h;kernel_rfl⟩
instance ty539:Zer Tryz.prog 133 (.agg (([.int .i64 0,.int .u64 0]:List Value)).toArray):=⟨by kernel_rfl⟩
instance ty552:Und Tryz.prog 137 (Go.TypeDesc.pointer 188):=⟨Tryz.underlying137⟩
instance ty553:Siz Tryz.prog 137 1:=⟨by kernel_rfl⟩
instance ty554:Byt Tryz.prog 137 8:=⟨by kernel_rfl⟩
instance ty555:Zer Tryz.prog 137 (.pointer none):=⟨by kernel_rfl⟩
instance ty588:Und Tryz.prog 146 (Go.TypeDesc.pointer 150):=⟨Tryz.underlying146⟩
instance ty591:Zer Tryz.prog 146 (.pointer none):=⟨by kernel_rfl⟩
instance ty596:Und Tryz.prog 148 (Go.TypeDesc.map 152 4):=⟨Tryz.underlying148⟩
instance ty597:Siz Tryz.prog 148 1:=⟨by kernel_rfl⟩
instance ty605:type_of% (Und.mk Tryz.underlying150):=⟨Tryz.underlying150⟩
instance ty608:Plc Tryz.prog 150 [(0,1),(1,1),(2,1),(3,1),(4,1)]:=⟨fun fs w h=>by rw [Tryz.underlying150] at h;cases h;kernel_rfl⟩
instance ty609:Zer Tryz.prog 150 (.agg (([.int .u64 0,.int .i64 0,.slice none 0 0,.slice none 0 0,.map none]:List Value)).toArray):=⟨by kernel_rfl⟩
instance ty615:type_of% (Und.mk Tryz.underlying152):=⟨Tryz.underlying152⟩
instance ty618:Plc Tryz.prog 152 [(0,1),(1,1)]:=⟨fun fs w h=>by rw [Tryz.underlying152] at h;cases h;kernel_rfl⟩
instance ty619:Zer Tryz.prog 152 (.agg (([.int .i64 0,.int .u64 0]:List Value)).toArray):=⟨by kernel_rfl⟩
instance ty646:Und Tryz.prog 161 (Go.TypeDesc.pointer 202):=⟨Tryz.underlying161⟩
instance ty647:Siz Tryz.prog 161 1:=⟨by kernel_rfl⟩
instance ty648:Byt Tryz.prog 161 8:=⟨by kernel_rfl⟩
instance ty649:Zer Tryz.prog 161 (.pointer none):=⟨by kernel_rfl⟩
instance ty742:Und Tryz.prog 186 (Go.TypeDesc.map 24 3):=⟨Tryz.underlying186⟩
instance ty743:Siz Tryz.prog 186 1:=⟨by kernel_rfl⟩
instance ty751:type_of% (Und.mk Tryz.underlying188):=⟨Tryz.underlying188⟩
instance ty754:Plc Tryz.prog 188 [(0,1),(1,1),(2,1)]:=⟨fun fs w h=>by rw [Tryz.underlying188] at h;cases h;kernel_rfl⟩
instance ty755:Zer Tryz.prog 188 (.agg (([.int .u64 0,.slice none 0 0,.map none]:List Value)).toArray):=⟨by kernel_rfl⟩
instance ty793:Und Tryz.prog 199 (Go.TypeDesc.int Go.IntKind.u64):=⟨Tryz.underlying199⟩
instance ty797:Und Tryz.prog 200 (Go.TypeDesc.slice 204):=⟨Tryz.underlying200⟩
instance ty798:Siz Tryz.prog 200 1:=⟨by kernel_rfl⟩
instance ty806:type_of% (Und.mk Tryz.underlying202):=⟨Tryz.underlying202⟩
instance ty809:Plc Tryz.prog 202 [(0,1),(1,1)]:=⟨fun fs w h=>by rw [Tryz.underlying202] at h;cases h;kernel_rfl⟩
instance ty810:Zer Tryz.prog 202 (.agg (([.int .u64 0,.slice none 0 0]:List Value)).toArray):=⟨by kernel_rfl⟩
instance ty816:type_of% (Und.mk Tryz.underlying204):=⟨Tryz.underlying204⟩
instance ty817:Siz Tryz.prog 204 2:=⟨by kernel_rfl⟩
instance ty818:Byt Tryz.prog 204 16:=⟨by kernel_rfl⟩
instance ty819:Plc Tryz.prog 204 [(0,1),(1,1)]:=⟨fun fs w h=>by rw [Tryz.underlying204] at h;cases h;kernel_rfl⟩
instance ty820:Zer Tryz.prog 204 (.agg (([.int .u64 0,.int .i64 0]:List Value)).toArray):=⟨by kernel_rfl⟩
instance ty899:Und Tryz.prog 225 (Go.TypeDesc.func #[86,47] #[86] false):=⟨Tryz.underlying225⟩
instance ty900:Siz Tryz.prog 225 1:=⟨by kernel_rfl⟩
instance ty903:Und Tryz.prog 226 (Go.TypeDesc.func #[232,234] #[] false):=⟨Tryz.underlying226⟩
instance ty904:Siz Tryz.prog 226 1:=⟨by kernel_rfl⟩
instance ty912:type_of% (Und.mk Tryz.underlying228):=⟨Tryz.underlying228⟩
instance ty913:Siz Tryz.prog 228 3:=⟨by kernel_rfl⟩
instance ty915:Plc Tryz.prog 228 [(0,1),(1,1),(2,1)]:=⟨fun fs w h=>by rw [Tryz.underlying228] at h;cases h;kernel_rfl⟩
instance ty916:Zer Tryz.prog 228 (.agg (([.nilFunc,.nilFunc,.nilFunc]:List Value)).toArray):=⟨by kernel_rfl⟩
instance ty918:Und Tryz.prog 230 (Go.TypeDesc.map 5 228):=⟨Tryz.underlying230⟩
instance ty926:Und Tryz.prog 232 (Go.TypeDesc.pointer 290):=⟨Tryz.underlying232⟩
instance ty938:Und Tryz.prog 235 (Go.TypeDesc.slice 237):=⟨Tryz.underlying235⟩
instance ty939:Siz Tryz.prog 235 1:=⟨by kernel_rfl⟩
instance ty940:Byt Tryz.prog 235 24:=⟨by kernel_rfl⟩
instance ty941:Zer Tryz.prog 235 (.slice none 0 0):=⟨by kernel_rfl⟩
instance ty947:type_of% (Und.mk Tryz.underlying237):=⟨Tryz.underlying237⟩
instance ty948:Siz Tryz.prog 237 2:=⟨by kernel_rfl⟩
instance ty949:Byt Tryz.prog 237 16:=⟨by kernel_rfl⟩
instance ty950:Plc Tryz.prog 237 [(0,1),(1,1)]:=⟨fun fs w h=>by rw [Tryz.underlying237] at h;cases h;kernel_rfl⟩
instance ty951:Zer Tryz.prog 237 (.agg (([.int .u64 0,.int .u64 0]:List Value)).toArray):=⟨by kernel_rfl⟩
instance ty980:Und Tryz.prog 245 (Go.TypeDesc.int Go.IntKind.u32):=⟨Tryz.underlying245⟩
instance ty981:Siz Tryz.prog 245 1:=⟨by kernel_rfl⟩
instance ty984:Und Tryz.prog 246 (Go.TypeDesc.array 8 245):=⟨Tryz.underlying246⟩
instance ty985:Siz Tryz.prog 246 8:=⟨by kernel_rfl⟩
instance ty987:Zer Tryz.prog 246 (.agg ((List.replicate 8 (.int .u32 0):List Value)).toArray):=⟨by kernel_rfl⟩
instance ty992:Und Tryz.prog 248 (Go.TypeDesc.array 64 5):=⟨Tryz.underlying248⟩
instance ty993:Siz Tryz.prog 248 64:=⟨by kernel_rfl⟩
instance ty995:Zer Tryz.prog 248 (.agg ((List.replicate 64 (.int .u8 0):List Value)).toArray):=⟨by kernel_rfl⟩
instance ty1004:Und Tryz.prog 251 (Go.TypeDesc.int Go.IntKind.u16):=⟨Tryz.underlying251⟩
instance ty1012:Und Tryz.prog 253 (Go.TypeDesc.slice 255):=⟨Tryz.underlying253⟩
instance ty1013:Siz Tryz.prog 253 1:=⟨by kernel_rfl⟩
instance ty1014:Byt Tryz.prog 253 24:=⟨by kernel_rfl⟩
instance ty1015:Zer Tryz.prog 253 (.slice none 0 0):=⟨by kernel_rfl⟩
instance ty1021:type_of% (Und.mk Tryz.underlying255):=⟨Tryz.underlying255⟩
instance ty1022:Siz Tryz.prog 255 2:=⟨by kernel_rfl⟩
instance ty1023:Byt Tryz.prog 255 16:=⟨by kernel_rfl⟩
instance ty1024:Plc Tryz.prog 255 [(0,1),(1,1)]:=⟨fun fs w h=>by rw [Tryz.underlying255] at h;cases h;kernel_rfl⟩
instance ty1025:Zer Tryz.prog 255 (.agg (([.int .u64 0,.int .u64 0]:List Value)).toArray):=⟨by kernel_rfl⟩
instance ty1035:type_of% (Und.mk Tryz.underlying258):=⟨Tryz.underlying258⟩
instance ty1036:Siz Tryz.prog 258 41:=⟨by kernel_rfl⟩
instance ty1037:Byt Tryz.prog 258 136:=⟨by kernel_rfl⟩
instance ty1038:Plc Tryz.prog 258 [(0,1),(1,40)]:=⟨fun fs w h=>by rw [Tryz.underlying258] at h;cases h;kernel_rfl⟩
instance ty1039:Zer Tryz.prog 258 (.agg (([.int .u64 0,.int .i64 0,.int .u64 0,.int .u8 0,.string ByteArray.empty,.string ByteArray.empty,.string ByteArray.empty,.string ByteArray.empty,.int .u64 0]:List Value) ++ (List.replicate 32 (.int .u8 0):List Value)).toArray):=⟨by kernel_rfl⟩
instance ty1164:type_of% (Und.mk Tryz.underlying290):=⟨Tryz.underlying290⟩
instance ty1167:Plc Tryz.prog 290 [(0,1),(1,1)]:=⟨fun fs w h=>by rw [Tryz.underlying290] at h;cases h;kernel_rfl⟩
instance ty1168:Zer Tryz.prog 290 (.agg (([.slice none 0 0,.bool false]:List Value)).toArray):=⟨by kernel_rfl⟩
instance ty1177:Und Tryz.prog 293 (Go.TypeDesc.array 64 245):=⟨Tryz.underlying293⟩
instance ty1178:Siz Tryz.prog 293 64:=⟨by kernel_rfl⟩
instance ty1180:Zer Tryz.prog 293 (.agg ((List.replicate 64 (.int .u32 0):List Value)).toArray):=⟨by kernel_rfl⟩
instance ty1193:Und Tryz.prog 297 (Go.TypeDesc.int Go.IntKind.u64):=⟨Tryz.underlying297⟩
instance ty1194:Siz Tryz.prog 297 1:=⟨by kernel_rfl⟩
instance ty1196:Zer Tryz.prog 297 (.int .u64 0):=⟨by kernel_rfl⟩
instance ty1233:Und Tryz.prog 307 (Go.TypeDesc.slice 9):=⟨Tryz.underlying307⟩
instance ty1262:Und Tryz.prog 315 (Go.TypeDesc.slice 86):=⟨Tryz.underlying315⟩
instance ty1286:Und Tryz.prog 321 (Go.TypeDesc.pointer 327):=⟨Tryz.underlying321⟩
instance ty1311:type_of% (Und.mk Tryz.underlying327):=⟨Tryz.underlying327⟩
instance ty1312:Siz Tryz.prog 327 74:=⟨by kernel_rfl⟩
instance ty1314:Plc Tryz.prog 327 [(0,8),(8,64),(72,1),(73,1)]:=⟨fun fs w h=>by rw [Tryz.underlying327] at h;cases h;kernel_rfl⟩
instance ty1315:Zer Tryz.prog 327 (.agg ((List.replicate 8 (.int .u32 0):List Value) ++ (List.replicate 64 (.int .u8 0):List Value) ++ ([.int .i64 0,.int .u64 0]:List Value)).toArray):=⟨by kernel_rfl⟩
instance ty1328:Und Tryz.prog 331 (Go.TypeDesc.slice 245):=⟨Tryz.underlying331⟩
instance ty1412:Fun Tryz.prog 13:=.i Tryz.func13
instance ty1415:Fun Tryz.prog 16:=.i Tryz.func16
instance ty1416:Fun Tryz.prog 17:=.i Tryz.func17
instance ty1418:Fun Tryz.prog 19:=.i Tryz.func19
instance ty1419:Fun Tryz.prog 20:=.i Tryz.func20
instance ty1420:Fun Tryz.prog 21:=.i Tryz.func21
instance ty1422:Fun Tryz.prog 23:=.i Tryz.func23
instance ty1423:Fun Tryz.prog 24:=.i Tryz.func24
instance ty1425:Fun Tryz.prog 26:=.i Tryz.func26
instance ty1426:Fun Tryz.prog 27:=.i Tryz.func27
instance ty1427:Fun Tryz.prog 28:=.i Tryz.func28
instance ty1428:Fun Tryz.prog 29:=.i Tryz.func29
instance ty1429:Fun Tryz.prog 30:=.i Tryz.func30
instance ty1430:Fun Tryz.prog 31:=.i Tryz.func31
instance ty1431:Fun Tryz.prog 32:=.i Tryz.func32
instance ty1432:Fun Tryz.prog 33:=.i Tryz.func33
instance ty1433:Fun Tryz.prog 34:=.i Tryz.func34
instance ty1434:Fun Tryz.prog 35:=.i Tryz.func35
instance ty1435:Fun Tryz.prog 36:=.i Tryz.func36
instance ty1436:Fun Tryz.prog 37:=.i Tryz.func37
instance ty1437:Fun Tryz.prog 38:=.i Tryz.func38
instance ty1444:Fun Tryz.prog 45:=.i Tryz.func45
instance ty1448:Fun Tryz.prog 49:=.i Tryz.func49
instance ty1449:Fun Tryz.prog 50:=.i Tryz.func50
instance ty1450:Fun Tryz.prog 51:=.i Tryz.func51
instance ty1451:Fun Tryz.prog 52:=.i Tryz.func52
instance ty1452:Fun Tryz.prog 53:=.i Tryz.func53
instance ty1453:Fun Tryz.prog 54:=.i Tryz.func54
instance ty1454:Fun Tryz.prog 55:=.i Tryz.func55
instance ty1455:Fun Tryz.prog 56:=.i Tryz.func56
instance ty1457:Fun Tryz.prog 58:=.i Tryz.func58
instance ty1458:Fun Tryz.prog 59:=.i Tryz.func59
instance ty1459:Fun Tryz.prog 60:=.i Tryz.func60
instance ty1460:Fun Tryz.prog 61:=.i Tryz.func61
instance ty1461:Fun Tryz.prog 62:=.i Tryz.func62
instance ty1462:Fun Tryz.prog 63:=.i Tryz.func63
instance ty1463:Fun Tryz.prog 64:=.i Tryz.func64
instance ty1464:Fun Tryz.prog 65:=.i Tryz.func65
instance ty1465:Fun Tryz.prog 66:=.i Tryz.func66
instance ty1466:Fun Tryz.prog 67:=.i Tryz.func67
instance ty1467:Fun Tryz.prog 68:=.i Tryz.func68
instance ty1468:Fun Tryz.prog 69:=.i Tryz.func69
instance ty1469:Fun Tryz.prog 70:=.i Tryz.func70
instance ty1470:Fun Tryz.prog 71:=.i Tryz.func71
instance ty1471:Fun Tryz.prog 72:=.i Tryz.func72
instance ty1472:Fun Tryz.prog 73:=.i Tryz.func73
instance ty1473:Fun Tryz.prog 74:=.i Tryz.func74
instance ty1474:Fun Tryz.prog 75:=.i Tryz.func75
instance ty1480:Fun Tryz.prog 81:=.i Tryz.func81
instance ty1481:Fun Tryz.prog 82:=.i Tryz.func82
instance ty1482:Fun Tryz.prog 83:=.i Tryz.func83
instance ty1483:Fun Tryz.prog 84:=.i Tryz.func84
instance ty1489:Fun Tryz.prog 90:=.i Tryz.func90
instance ty1490:Fun Tryz.prog 91:=.i Tryz.func91
instance ty1491:Fun Tryz.prog 92:=.i Tryz.func92
instance ty1492:Fun Tryz.prog 93:=.i Tryz.func93
instance ty1493:Fun Tryz.prog 94:=.i Tryz.func94
instance ty1494:Fun Tryz.prog 95:=.i Tryz.func95
instance ty1495:Fun Tryz.prog 96:=.i Tryz.func96
instance ty1496:Fun Tryz.prog 97:=.i Tryz.func97
instance ty1497:Fun Tryz.prog 98:=.i Tryz.func98
instance ty1498:Fun Tryz.prog 99:=.i Tryz.func99
instance ty1499:Fun Tryz.prog 100:=.i Tryz.func100
instance ty1500:Fun Tryz.prog 101:=.i Tryz.func101
instance ty1501:Fun Tryz.prog 102:=.i Tryz.func102
instance ty1502:Fun Tryz.prog 103:=.i Tryz.func103
instance ty1503:Fun Tryz.prog 104:=.i Tryz.func104
instance ty1504:Fun Tryz.prog 105:=.i Tryz.func105
instance ty1505:Fun Tryz.prog 106:=.i Tryz.func106
instance ty1506:Fun Tryz.prog 107:=.i Tryz.func107
instance ty1507:Fun Tryz.prog 108:=.i Tryz.func108
instance ty1508:Fun Tryz.prog 109:=.i Tryz.func109
instance ty1509:Fun Tryz.prog 110:=.i Tryz.func110
instance ty1510:Fun Tryz.prog 111:=.i Tryz.func111
instance ty1511:Fun Tryz.prog 112:=.i Tryz.func112
instance ty1512:Fun Tryz.prog 113:=.i Tryz.func113
instance ty1513:Fun Tryz.prog 114:=.i Tryz.func114
instance ty1514:Fun Tryz.prog 115:=.i Tryz.func115
instance ty1515:Fun Tryz.prog 116:=.i Tryz.func116
instance ty1516:Fun Tryz.prog 117:=.i Tryz.func117
instance ty1523:Fun Tryz.prog 124:=.i Tryz.func124
instance ty1524:Fun Tryz.prog 125:=.i Tryz.func125
instance ty1528:Fun Tryz.prog 129:=.i Tryz.func129
instance ty1529:Fun Tryz.prog 130:=.i Tryz.func130
instance ty1530:Fun Tryz.prog 131:=.i Tryz.func131
instance ty1531:Fun Tryz.prog 132:=.i Tryz.func132
instance ty1532:Fun Tryz.prog 133:=.i Tryz.func133
instance ty1533:Fun Tryz.prog 134:=.i Tryz.func134
instance ty1534:Fun Tryz.prog 135:=.i Tryz.func135
instance ty1535:Fun Tryz.prog 136:=.i Tryz.func136
instance ty1536:Fun Tryz.prog 137:=.i Tryz.func137
instance ty1537:Fun Tryz.prog 138:=.i Tryz.func138
instance ty1538:Fun Tryz.prog 139:=.i Tryz.func139
instance ty1539:Fun Tryz.prog 140:=.i Tryz.func140
instance ty1540:Fun Tryz.prog 141:=.i Tryz.func141
instance ty1541:Fun Tryz.prog 142:=.i Tryz.func142
instance ty1542:Fun Tryz.prog 143:=.i Tryz.func143
instance ty1543:Fun Tryz.prog 144:=.i Tryz.func144
instance ty1544:Fun Tryz.prog 145:=.i Tryz.func145
instance ty1545:Fun Tryz.prog 146:=.i Tryz.func146
instance ty1546:Fun Tryz.prog 147:=.i Tryz.func147
instance ty1547:Fun Tryz.prog 148:=.i Tryz.func148
instance ty1548:Fun Tryz.prog 149:=.i Tryz.func149
instance ty1549:Fun Tryz.prog 150:=.i Tryz.func150
instance ty1550:Fun Tryz.prog 151:=.i Tryz.func151
instance ty1551:Fun Tryz.prog 152:=.i Tryz.func152
instance ty1552:Fun Tryz.prog 153:=.i Tryz.func153
instance ty1553:Fun Tryz.prog 154:=.i Tryz.func154
instance ty1562:Fun Tryz.prog 163:=.i Tryz.func163
instance ty1563:Fun Tryz.prog 164:=.i Tryz.func164
instance ty1572:Fun Tryz.prog 173:=.i Tryz.func173
instance ty1573:Fun Tryz.prog 174:=.i Tryz.func174
instance ty1574:Fun Tryz.prog 175:=.i Tryz.func175
instance ty1575:Fun Tryz.prog 176:=.i Tryz.func176
instance ty1576:Fun Tryz.prog 177:=.i Tryz.func177
instance ty1577:Fun Tryz.prog 178:=.i Tryz.func178
instance ty1578:Fun Tryz.prog 179:=.i Tryz.func179
instance ty1579:Fun Tryz.prog 180:=.i Tryz.func180
instance ty1580:Fun Tryz.prog 181:=.i Tryz.func181
instance ty1582:Fun Tryz.prog 183:=.i Tryz.func183
instance ty1583:Fun Tryz.prog 184:=.i Tryz.func184
instance ty1584:Fun Tryz.prog 185:=.i Tryz.func185
instance ty1585:Fun Tryz.prog 186:=.i Tryz.func186
instance ty1586:Fun Tryz.prog 187:=.i Tryz.func187
instance ty1587:Fun Tryz.prog 188:=.i Tryz.func188
instance ty1588:Fun Tryz.prog 189:=.i Tryz.func189
instance ty1589:Fun Tryz.prog 190:=.i Tryz.func190
instance ty1590:Fun Tryz.prog 191:=.i Tryz.func191
instance ty1591:Fun Tryz.prog 192:=.i Tryz.func192
instance ty1592:Fun Tryz.prog 193:=.i Tryz.func193
instance ty1593:Fun Tryz.prog 194:=.i Tryz.func194
instance ty1594:Fun Tryz.prog 195:=.i Tryz.func195
instance ty1595:Fun Tryz.prog 196:=.i Tryz.func196
instance ty1596:Fun Tryz.prog 197:=.i Tryz.func197
instance ty1597:Fun Tryz.prog 198:=.i Tryz.func198
instance ty1598:Fun Tryz.prog 199:=.i Tryz.func199
instance ty1599:Fun Tryz.prog 200:=.i Tryz.func200
instance ty1600:Fun Tryz.prog 201:=.i Tryz.func201
instance ty1601:Fun Tryz.prog 202:=.i Tryz.func202
instance ty1602:Fun Tryz.prog 203:=.i Tryz.func203
instance ty1603:Fun Tryz.prog 204:=.i Tryz.func204
instance ty1604:Fun Tryz.prog 205:=.i Tryz.func205
instance ty1605:Fun Tryz.prog 206:=.i Tryz.func206
instance ty1606:Fun Tryz.prog 207:=.i Tryz.func207
instance ty1607:Fun Tryz.prog 208:=.i Tryz.func208
instance ty1608:Fun Tryz.prog 209:=.i Tryz.func209
instance ty1609:Fun Tryz.prog 210:=.i Tryz.func210
instance ty1610:Fun Tryz.prog 211:=.i Tryz.func211
instance ty1611:Fun Tryz.prog 212:=.i Tryz.func212
instance ty1612:Fun Tryz.prog 213:=.i Tryz.func213
instance ty1613:Fun Tryz.prog 214:=.i Tryz.func214
instance ty1614:Fun Tryz.prog 215:=.i Tryz.func215
instance ty1615:Fun Tryz.prog 216:=.i Tryz.func216
instance ty1616:Fun Tryz.prog 217:=.i Tryz.func217
instance ty1617:Fun Tryz.prog 218:=.i Tryz.func218
instance ty1619:Fun Tryz.prog 220:=.i Tryz.func220
instance ty1620:Fun Tryz.prog 221:=.i Tryz.func221
instance ty1629:Fun Tryz.prog 230:=.i Tryz.func230
instance ty1630:Fun Tryz.prog 231:=.i Tryz.func231
instance ty1631:Fun Tryz.prog 232:=.i Tryz.func232
instance ty1632:Fun Tryz.prog 233:=.i Tryz.func233
instance ty1633:Fun Tryz.prog 234:=.i Tryz.func234
instance ty1634:Fun Tryz.prog 235:=.i Tryz.func235
instance ty1635:Fun Tryz.prog 236:=.i Tryz.func236
instance ty1636:Fun Tryz.prog 237:=.i Tryz.func237
instance ty1637:Fun Tryz.prog 238:=.i Tryz.func238
instance ty1638:Fun Tryz.prog 239:=.i Tryz.func239
instance ty1639:Fun Tryz.prog 240:=.i Tryz.func240
instance ty1640:Fun Tryz.prog 241:=.i Tryz.func241
instance ty1641:Fun Tryz.prog 242:=.i Tryz.func242
instance ty1642:Fun Tryz.prog 243:=.i Tryz.func243
instance ty1643:Fun Tryz.prog 244:=.i Tryz.func244
instance ty1644:Fun Tryz.prog 245:=.i Tryz.func245
instance ty1645:Fun Tryz.prog 246:=.i Tryz.func246
instance ty1646:Fun Tryz.prog 247:=.i Tryz.func247
instance ty1648:Fun Tryz.prog 249:=.i Tryz.func249
instance ty1653:Fun Tryz.prog 254:=.i Tryz.func254
instance ty1654:Fun Tryz.prog 255:=.i Tryz.func255
instance ty1655:Fun Tryz.prog 256:=.i Tryz.func256
instance ty1656:Fun Tryz.prog 257:=.i Tryz.func257
instance ty1657:Fun Tryz.prog 258:=.i Tryz.func258
instance ty1658:Fun Tryz.prog 259:=.i Tryz.func259
instance ty1660:Fun Tryz.prog 261:=.i Tryz.func261
instance ty1661:Fun Tryz.prog 262:=.i Tryz.func262
instance ty1662:Fun Tryz.prog 263:=.i Tryz.func263
instance ty1663:Fun Tryz.prog 264:=.i Tryz.func264
instance ty1664:Fun Tryz.prog 265:=.i Tryz.func265
instance ty1665:Fun Tryz.prog 266:=.i Tryz.func266
instance ty1666:Fun Tryz.prog 267:=.i Tryz.func267
instance ty1667:Fun Tryz.prog 268:=.i Tryz.func268
instance ty1668:Fun Tryz.prog 269:=.i Tryz.func269
def byteAt (n:Int) (i:Nat):UInt8:=UInt8.ofNat ((n.fdiv (2 ^ (8 * i))) % 256).toNat
def beTop (k:Nat) (n:Int):Nat→List UInt8
 | 0=>[]
 | i + 1=>beTop k n i ++ [byteAt n (k - 1 - i)]
def be (k:Nat) (n:Int):List UInt8:=beTop k n k
theorem beTop_len (k:Nat) (n:Int):∀ i,(beTop k n i).length = i
 | 0=>rfl
 | i + 1=>by simp [beTop,beTop_len k n i]
theorem be_len (k:Nat) (n:Int):(be k n).length = k:=beTop_len k n k
theorem byteAt_wrap (n:Int) (i:Nat):IntKind.u8.wrap (n.fdiv (2 ^ (8 * i))) = ((byteAt n i).toNat:Int):=by
 have h:IntKind.u8.wrap (n.fdiv (2 ^ (8 * i))) = (n.fdiv (2 ^ (8 * i))) % 256:=by
  simp [IntKind.wrap,IntKind.signed,IntKind.bits]
 rw [h];unfold byteAt;have h1:0 ≤ (n.fdiv (2 ^ (8 * i))) % 256:=Int.emod_nonneg _ (by decide);have h2:(n.fdiv (2 ^ (8 * i))) % 256 < 256:=Int.emod_lt_of_pos _ (by decide)
 generalize (n.fdiv (2 ^ (8 * i))) % 256 = z at h1 h2;exact qcl
theorem zad (l:List UInt8):(bytesV l).length = l.length:=by simp [bytesV]
theorem zag (a b:List UInt8):bytesV (a ++ b) = bytesV a ++ bytesV b:=by simp [bytesV]
theorem zal (l:List UInt8):∀ v ∈ bytesV l,one v = true:=by
 intro v hv;obtain ⟨b,_,rfl⟩:=List.mem_map.1 hv;rfl
variable {P:Program} {fid:FuncId} {args:List Value} {f:Frag} {A:List HP} {R:Value→Frag→List HP→Prop} {p:Option Addr} {m c:Nat} {T:TypeId}
theorem Fn.slc_cap {A':List HP} {sz:Nat} {xs:List Value} (h:At A (slc p m c T sz xs) A' (slc p m c T sz xs))
  (k:m ≤ c→c ≤ 9223372036854775807→xs.length = m * sz→Fn P fid args f A R):Fn P fid args f A R:=fun base w s=>by
 obtain ⟨h1,h2,h3⟩:=s.slc_at h
 rcases h3 with ⟨rfl,rfl⟩ | ⟨b,sp,rfl,h4,_⟩
 ·exact k (Nat.le_refl _) h2 h1 base w s
 ·exact k h4 h2 h1 base w s
def BytesR (l:List UInt8) (f:Frag) (A:List HP):Value→Frag→List HP→Prop:=fun v f' A'=>∃ p c,v = .slice p l.length c ∧ f' = f ∧ A' = slc p l.length c 5 1 (bytesV l)::A
variable {l:List UInt8} {n:Int}
section
variable (f:Frag) (A:List HP)
theorem cloneB_fn (hs:Src Tryz.prog f A (.slice p l.length c) 1 l.length (bytesV l)) (hn:p = none→l = []) (hl:l.length ≤ 100000000000) :
  Fn Tryz.prog 206 [.slice p l.length c] f A (BytesR l f A):=by
 cases p with
 | none =>
  have:=hn rfl;subst this
  refine Fn.e1 Tryz.func206 Tryz.ntmps206 fun base=>?_;refine gX ?_;refine H.slc0 5 1 ?_;exact H.r1 ⟨none,0,rfl,rfl,rfl⟩
 | some a =>
  refine Fn.e1 Tryz.func206 Tryz.ntmps206 fun base=>?_;refine qfl fun eb=>?_;repeat (((apply H.Au);(iterate 3 exact rfl)))
  refine H.imp (A':=slc (some ⟨eb,0,none⟩) 0 0 5 1 []::A) ?_ ?_
  ·rintro x ⟨m1,m2,d,e,a,r⟩;exact qbz
  refine H.Aw rfl rfl rfl rfl rfl (fun p' c'=>.here _ _ _) hs.cons (zal l) rfl (by omega) (by omega) fun p' c'=>?_;refine gR ?_;refine H.Ad rfl rfl (A':=slc p' l.length c' 5 1 (bytesV l)::A) ?_ ⟨p',c',by rw [Nat.zero_add],rfl,rfl⟩;simp only [List.nil_append,Nat.zero_add];exact fun _ h=>h
theorem growB_fn (hl:l.length ≤ 100000000000) (hm:m ≤ 1000000) :
  Fn Tryz.prog 249 [.slice p l.length c,.int .i64 (m:Nat)] f (slc p l.length c 5 1 (bytesV l)::A) (BytesR l f A):=by
 refine Fn.slc_cap (.here _ _ _) fun hc hcm _=>?_;by_cases hg:c < l.length + m
 ·refine Fn.e2 Tryz.func249 Tryz.ntmps249 fun base=>?_;refine gc ?_;skip;refine H.slc_full fun sp hsp _=>?_;refine H.sliceTo rfl rfl rfl rfl (Nat.le_refl _) rfl ?_;refine gJ ?_;refine H.appendZ (m:=m - (c - l.length)) rfl rfl rfl rfl (by omega) (fun p' c'=>.here _ _ _) rfl (by omega) (by omega) (by omega) (by omega) fun p' c'=>?_;repeat (((first | apply H.Au | apply H.Bi);(iterate 3 exact rfl)))
  refine H.Cg (.here _ _ _) fun hc' _ _=>?_;refine H.sliceTo rfl rfl rfl rfl (by omega) rfl ?_;refine H.slc_trunc (m':=l.length) (ys:=bytesV l) (by omega) hc' ?_ ?_
  ·rw [List.append_assoc,Nat.mul_one,List.take_append_of_le_length (by rw [zad];exact Nat.le_refl _),List.take_of_length_le (by rw [zad];exact Nat.le_refl _)]
  refine gR ?_;exact H.r1 ⟨p',c',rfl,rfl,rfl⟩
 ·refine Fn.e2 Tryz.func249 Tryz.ntmps249 fun base=>?_;refine gc ?_;skip;exact H.r1 ⟨p,c,rfl,rfl,rfl⟩
theorem put_fn {k:Nat} (hs:Src Tryz.prog f A (.slice p l.length c) 1 l.length (bytesV l)) (hn:p = none→l = []) (hl:l.length ≤ 10000000000) (hk:k ≤ 8) :
  Fn Tryz.prog 237 [.slice p l.length c,.int .u64 n,.int .i64 (k:Nat)] f A (BytesR (l ++ be k n) f A):=by
 refine Fn.e3 Tryz.func237 Tryz.ntmps237 fun base=>?_;refine gJ ?_;refine H.Ap rfl rfl rfl (cloneB_fn f A hs hn (by omega)) fun p1 c1=>?_;refine gJ ?_;refine H.Ap rfl rfl rfl (growB_fn f A (by omega) (by omega)) fun p2 c2=>?_;exact qab
theorem putH_fn {k:Nat} (hs:Src Tryz.prog f A (.slice p l.length c) 1 l.length (bytesV l)) (hn:p = none→l = []) (hl:l.length ≤ 10000000000) (hk:k ≤ 2) :
  Fn Tryz.prog 264 [.slice p l.length c,.int .u16 n,.int .i64 (k:Nat)] f A (BytesR (l ++ be k n) f A):=by
 refine Fn.e3 Tryz.func264 Tryz.ntmps264 fun base=>?_;refine gJ ?_;refine H.Ap rfl rfl rfl (cloneB_fn f A hs hn (by omega)) fun p1 c1=>?_;refine gJ ?_;refine H.Ap rfl rfl rfl (growB_fn f A (by omega) (by omega)) fun p2 c2=>?_;refine gD ?_
 refine H.loop (ι:=Nat × Option Addr × Nat) (fun i=>[(8,.int .i64 ((k:Int) - 1 - (i.1:Int))),(7,.slice i.2.1 (l ++ beTop k n i.1).length i.2.2),(1,.int .u16 n)]) (fun _=>f)
  (fun i=>slc i.2.1 (l ++ beTop k n i.1).length i.2.2 5 1 (bytesV (l ++ beTop k n i.1))::A) (fun i=>i.1 ≤ k) (fun i=>k - i.1) (0,p2,c2) (Nat.zero_le _) ?_ rfl ?_ fun i hi=>?_
 ·refine ⟨?_,?_,rfl,trivial⟩
  ·show some (Value.int .i64 ((k:Int) - 1)) = some (Value.int .i64 ((k:Int) - 1 - ((0:Nat):Int)));simp
  ·show some (Value.slice p2 l.length c2) = some (Value.slice p2 (l ++ []).length c2);simp
 ·show slc p2 l.length c2 _ 1 (bytesV l)::A = slc p2 (l ++ []).length c2 _ 1 (bytesV (l ++ []))::A;simp
 ·obtain ⟨i,p',c'⟩:=i;have hi:i ≤ k:=hi;show H _ _ _ [(8,.int .i64 ((k:Int) - 1 - (i:Int))),(7,.slice p' (l ++ beTop k n i).length c'),(1,.int .u16 n)] _ (slc p' (l ++ beTop k n i).length c' _ 1 (bytesV (l ++ beTop k n i))::A) _
  generalize hacc:l ++ beTop k n i = acc;have hlen:acc.length = l.length + i:=by rw [← hacc,List.length_append,beTop_len]
  by_cases hlt:i < k
  ·have hexp:min (8 * ((k:Int) - 1 - (i:Int))).toNat IntKind.u16.bits = 8 * (k - 1 - i):=by simp only [IntKind.bits];omega
   have hsh:n.fdiv (2 ^ (min (8 * ((k:Int) - 1 - (i:Int))).toNat IntKind.u16.bits)) = n.fdiv (2 ^ (8 * (k - 1 - i))):=by rw [hexp]
   refine gc ?_;refine H.Bo rfl rfl rfl rfl (by omega) hsh rfl ?_;refine H.Bk rfl rfl (byteAt_wrap n (k - 1 - i)) rfl ?_;refine qdF fun tb=>?_;refine qeD fun p'' c''=>?_;refine gD ?_;refine qdp ?_;have e1:l ++ beTop k n (i + 1) = acc ++ [byteAt n (k - 1 - i)]:=by rw [← hacc];simp [beTop]
   refine H.Bh (d:=8) (u:=.int .i64 ((k:Int) - 1 - ((i + 1:Nat):Int))) rfl (congrArg (Value.int .i64) (by omega)) ?_;refine H.Aq (i + 1,p'',c'') (by show i + 1 ≤ k;omega) (by show k - (i + 1) < k - i;omega) ⟨rfl,?_,rfl,trivial⟩ rfl ?_
   ·show some _ = some (Value.slice p'' (l ++ beTop k n (i + 1)).length c'');rw [e1,List.length_append];exact rfl
   ·show _ = slc p'' (l ++ beTop k n (i + 1)).length c'' _ 1 (bytesV (l ++ beTop k n (i + 1)))::A;rw [e1,List.length_append,zag];rfl
  ·have:i = k:=by omega
   subst this;subst hacc;refine gP ?_;exact H.r1 ⟨p',c',rfl,rfl,rfl⟩
theorem rput_fn {k:Nat} (hs:Src Tryz.prog f A (.slice p l.length c) 1 l.length (bytesV l)) (hl:l.length ≤ 10000000000) (hk:k ≤ 8) :
  Fn Tryz.prog 142 [.slice p l.length c,.int .u64 n,.int .i64 (k:Nat)] f A (BytesR (l ++ be k n) f A):=by
 refine Fn.e3 Tryz.func142 Tryz.ntmps142 fun base=>?_;repeat (first | ((apply H.Bd);(iterate 3 exact rfl)) | (first | apply H.seq | apply H.Bf | apply H.nil | apply H.Bj))
 refine qdF fun eb=>?_;repeat (((apply H.Au);(iterate 3 exact rfl)))
 refine H.imp (A':=slc (some ⟨eb,0,none⟩) 0 0 5 1 []::A) ?_ ?_
 ·rintro x ⟨m1,m2,d,e,a,r⟩;exact qbz
 refine H.Aw rfl rfl rfl rfl rfl (fun p' c'=>.here _ _ _) hs.cons (zal l) rfl (by omega) (by omega) fun p2 c2=>?_;rw [Nat.zero_add,List.nil_append];exact qab
theorem word_fn (hs:Src Tryz.prog f A (.slice p l.length c) 1 l.length (bytesV l)) (hn:p = none→l = []) (hl:l.length ≤ 10000000000) :
  Fn Tryz.prog 188 [.slice p l.length c,.int .u64 n] f A (BytesR (l ++ be 8 n) f A):=by
 refine Fn.e2 Tryz.func188 Tryz.ntmps188 fun base=>?_;refine gJ ?_;refine H.Ap rfl rfl rfl (put_fn (k:=8) f A hs hn hl (by decide)) fun p1 c1=>?_;exact qbf
theorem half_fn (hs:Src Tryz.prog f A (.slice p l.length c) 1 l.length (bytesV l)) (hn:p = none→l = []) (hl:l.length ≤ 10000000000) :
  Fn Tryz.prog 258 [.slice p l.length c,.int .u16 n] f A (BytesR (l ++ be 2 n) f A):=by
 refine Fn.e2 Tryz.func258 Tryz.ntmps258 fun base=>?_;refine gJ ?_;refine H.Ap rfl rfl rfl (putH_fn (k:=2) f A hs hn hl (by decide)) fun p1 c1=>?_;exact qbf
theorem zbw (hs:Src Tryz.prog f A (.slice p l.length c) 1 l.length (bytesV l)) (hl:l.length ≤ 10000000000) :
  Fn Tryz.prog 101 [.slice p l.length c,.int .u64 n] f A (BytesR (l ++ be 8 n) f A):=by
 refine Fn.e2 Tryz.func101 Tryz.ntmps101 fun base=>?_;refine gJ ?_;refine H.Ap rfl rfl rfl (rput_fn (k:=8) f A hs hl (by decide)) fun p1 c1=>?_;exact qbf
theorem rhalf_fn (hs:Src Tryz.prog f A (.slice p l.length c) 1 l.length (bytesV l)) (hl:l.length ≤ 10000000000) (h0:0 ≤ n ∧ n ≤ 65535) :
  Fn Tryz.prog 145 [.slice p l.length c,.int .u16 n] f A (BytesR (l ++ be 2 n) f A):=by
 refine Fn.e2 Tryz.func145 Tryz.ntmps145 fun base=>?_;refine gD ?_;refine H.Ap rfl rfl rfl (rput_fn (k:=2) f A hs hl (by decide)) fun p1 c1=>?_;exact qbf
end
def BytesR2 (l:List UInt8) (e:Int) (f:Frag) (A:List HP):Value→Frag→List HP→Prop:=fun v f' A'=>∃ p c,v = .tuple #[.slice p l.length c,.int .i64 e] ∧ f' = f ∧ A' = slc p l.length c 5 1 (bytesV l)::A
def textB (s:ByteArray):List UInt8:=be 2 (s.size:Nat) ++ s.data.toList
variable {s:ByteArray}
section
variable (f:Frag) (A:List HP)
theorem zbr (s:ByteArray):s.data.toList.length = s.size:=by rw [Array.length_toList];rfl
theorem text_fn (hs:Src Tryz.prog f A (.slice p l.length c) 1 l.length (bytesV l)) (hn:p = none→l = []) (hl:l.length ≤ 10000000000) (hz:s.size < 65536) :
  Fn Tryz.prog 236 [.slice p l.length c,.string s] f A (BytesR2 (l ++ textB s) 0 f A):=by
 refine Fn.e2 Tryz.func236 Tryz.ntmps236 fun base=>?_;refine gP ?_;skip;skip;refine H.Ap rfl rfl rfl (half_fn f A hs hn hl) fun p1 c1=>?_;exact qaB
theorem rtext_fn (hs:Src Tryz.prog f A (.slice p l.length c) 1 l.length (bytesV l)) (hl:l.length ≤ 10000000000) (hz:s.size < 65536) :
  Fn Tryz.prog 105 [.slice p l.length c,.string s] f A (BytesR2 (l ++ textB s) 0 f A):=by
 refine Fn.e2 Tryz.func105 Tryz.ntmps105 fun base=>?_;refine gP ?_;skip;skip;refine H.Ap rfl rfl rfl (rhalf_fn f A hs hl (by omega)) fun p1 c1=>?_;exact qaB
end
def BAt (f:Frag) (p:Option Addr) (l:List UInt8):Prop:=
 l = [] ∨ ∃ b off cs T fr,p = some ⟨b,off,none⟩ ∧ f b = some (.cells cs T fr) ∧ ∀ i,i < l.length→cs[off + i]? = (bytesV l)[i]?
theorem BAt.take (h:BAt f p l) (n:Nat):BAt f p (l.take n):=by
 rcases h with rfl | ⟨b,off,cs,T,fr,h1,h2,h3⟩
 ·exact .inl (by simp)
 ·refine .inr ⟨b,off,cs,T,fr,h1,h2,fun i hi=>?_⟩;rw [List.length_take] at hi;rw [h3 i (by omega)];simp only [bytesV,List.map_take];rw [List.getElem?_take,if_pos (by omega)]
theorem BAt.drop (h:BAt f p l) {n:Nat} (hn:n ≤ l.length) (hc:l.length ≤ c):BAt f (slP p n c 1) (l.drop n):=by
 unfold slP;split
 ·rename_i e
  subst e;exact .inl (List.drop_eq_nil_of_le hc)
 ·rcases h with rfl | ⟨b,off,cs,T,fr,rfl,h2,h3⟩
  ·exact .inl (by simp)
  ·refine .inr ⟨b,off + n,cs,T,fr,?_,h2,fun i hi=>?_⟩
   ·rw [Option.map_some,zay,Nat.mul_one]
   ·rw [List.length_drop] at hi;rw [Nat.add_assoc,h3 (n + i) (by omega)];simp only [bytesV,List.map_drop];rw [List.getElem?_drop]
theorem BAt.src (h:BAt f p l):Src P f A (.slice p l.length c) 1 l.length (bytesV l):=by
 rcases h with rfl | ⟨b,off,cs,T,fr,rfl,h2,h3⟩
 ·refine ⟨fun w=>rfl,fun base w s=>?_,rfl⟩
  cases p with
  | none=>exact run_firstCells_none w 1 0 0 c
  | some a=>exact run_firstCells_some w 1 0 a 0 c [] (by simp) (by simp)
 ·exact Src.slice (Rd.imm h2 (fun i hi=>h3 i (by rwa [zad] at hi))) (by rw [zad,Nat.mul_one])
def cutL (cb:Nat) (p:Option Addr) (c:Nat) (l:List UInt8) (sp:Bool):HP:=row cb 290 [.slice p l.length c,.bool sp]
def cutH (f:Frag) (cb:Nat) (l:List UInt8) (sp:Bool):HP:=fun h=>∃ i:Option Addr × Nat,stars [fact (BAt f i.1 l ∧ l.length ≤ i.2),cutL cb i.1 i.2 l sp] h
variable {cb:Nat} {sp:Bool} {F:List HP}
theorem zbk (hb:BAt f p l) (hc:l.length ≤ c):∀ x,stars (cutL cb p c l sp::F) x→stars (cutH f cb l sp::F) x:=by
 intro x hx;obtain ⟨m1,m2,d,e,a,r⟩:=hx;refine ⟨m1,m2,d,e,⟨(p,c),?_⟩,r⟩;exact ⟨nil0,m1,(Dj.nil m1).symm,(nil_un m1).symm,⟨⟨hb,hc⟩,rfl⟩,m1,nil0,Dj.nil m1,(un_nil m1).symm,a,rfl⟩
theorem cutH_open
  (k:∀ p c,BAt f p l→l.length ≤ c→Fn Tryz.prog fid args f (row cb 290 [.slice p l.length c,.bool sp]::F) R):Fn Tryz.prog fid args f (cutH f cb l sp::F) R:=fun base w s=>by
 obtain ⟨m,hm,hd,hw⟩:=s.mem
 obtain ⟨m1,m2,d,rfl,⟨⟨p,c⟩,hh⟩,r⟩:=hm
 obtain ⟨n1,n2,dd,rfl,⟨⟨hb,hc⟩,rfl⟩,n3,n4,d3,rfl,h4,h5⟩:=hh
 refine k p c hb hc base w ⟨s.os,s.tape,s.output,s.size,s.imm,_,?_,hd,hw⟩
 have e5:n4 = nil0:=h5
 subst e5
 rw [nil_un,un_nil]
 rw [nil_un,un_nil] at d
 exact ⟨n3,m2,d,rfl,h4,r⟩
def RetP {α:Type} (φ:α→Prop) (v:α→Value) (f:Frag) (A:α→List HP):Value→Frag→List HP→Prop:=fun u f' A'=>∃ i,φ i ∧ u = v i ∧ f' = f ∧ A' = A i
variable {α:Type} {xs:List Operand} {vs:List Value} {ats:Array TypeId}
section
variable {P:Program} {base:World} {n:Nat} {L:Env} {f f':Frag} {A:List HP} {q:Post}
variable {l rest:List Oper} {d:Nat} {ty:TypeId} {pos:String} {af:Array Edge} {gd:Option (Nat × Bool)}
theorem H.callP {φ:α→Prop} {v:α→Value} {Ai:α→List HP} [hfun:Fun P fid] (hw:want? l L gd = true) (hd:Nat.ble (d + 1) n = true)
  (hx:evs? L xs = some vs) (hc:Fn P fid vs f A (RetP φ v f' Ai)) (k:∀ i,φ i→H P base n ((d,v i)::L) f' (Ai i) (.ops l rest q)) :
  H P base n L f A (.ops l (⟨some d,.call ⟨.value (.func fid),xs.toArray,ats⟩,ty,pos,af,gd⟩::rest) q):=
 H.Al hw hd hx hc fun _ _ _ h=>by obtain ⟨i,hp,rfl,rfl,rfl⟩:=h;exact k i hp
theorem H.callVP {φ:α→Prop} {x:Operand} {fs cs:List Value} {v:α→Value} {Ai:α→List HP} (hx:ev? L x = some (.func (.func fid) fs.toArray cs.toArray)) [hfun:Fun P fid] (hw:want? l L gd = true) (hd:Nat.ble (d + 1) n = true)
  (hxs:evs? L xs = some vs) (hc:Fn P fid (fs ++ vs ++ cs) f A (RetP φ v f' Ai)) (k:∀ i,φ i→H P base n ((d,v i)::L) f' (Ai i) (.ops l rest q)) :
  H P base n L f A (.ops l (⟨some d,.call ⟨.value x,xs.toArray,ats⟩,ty,pos,af,gd⟩::rest) q):=
 H.callV hx hw hd hxs hc fun _ _ _ h=>by obtain ⟨i,hp,rfl,rfl,rfl⟩:=h;exact k i hp
end
section
variable (f:Frag) (F:List HP) (cb:Nat)
theorem take_no (h:sp = true ∨ n < 0 ∨ (l.length:Int) < n) :
  Fn Tryz.prog 238 [.pointer (some ⟨cb,0,none⟩),.int .i64 n] f (cutH f cb l sp::F) (Ret (.slice none 0 0) f (cutH f cb l true::F)):=by
 refine cutH_open fun p c hb hc=>?_;have fin:∀ x,stars (row cb 290 [.slice p l.length c,.bool true]::F) x→stars (cutH f cb l true::F) x:=zbk hb hc
 cases sp with
 | true =>
  exact qcp
 | false =>
  by_cases h0:n < 0
  ·exact qcp
  ·have h1:(l.length:Int) < n:=by simp at h;omega
   refine Fn.e2 Tryz.func238 Tryz.ntmps238 fun base=>?_;refine ga ?_;rw [decide_eq_true h1];exact H.Ad rfl rfl fin ⟨rfl,rfl,rfl⟩
theorem take_yes {n:Nat} (hn:n ≤ l.length) (hl:l.length ≤ 1000000000000) :
  Fn Tryz.prog 238 [.pointer (some ⟨cb,0,none⟩),.int .i64 (n:Nat)] f (cutH f cb l false::F)
   (RetP (fun i:Option Addr × Nat=>BAt f i.1 (l.take n)) (fun i=>.slice i.1 n i.2) f (fun _=>cutH f cb (l.drop n) false::F)):=by
 refine cutH_open fun p c hb hc=>?_
 have fin:∀ x,stars (row cb 290 [.slice (slP p n c 1) (l.length - n) (c - n),.bool false]::F) x→stars (cutH f cb (l.drop n) false::F) x:=by
  have:=zbk (cb:=cb) (sp:=false) (F:=F) (hb.drop hn hc) (c:=c - n) (by rw [List.length_drop];omega);rw [show cutL cb (slP p n c 1) (c - n) (l.drop n) false = row cb 290 [.slice (slP p n c 1) (l.length - n) (c - n),.bool false] by unfold cutL;rw [List.length_drop]] at this
  exact this
 refine Fn.e2 Tryz.func238 Tryz.ntmps238 fun base=>?_;refine ga ?_;rw [decide_eq_false (show ¬ ((l.length:Int) < (n:Int)) by omega)];skip;refine H.sliceTo rfl rfl rfl rfl (by omega) rfl ?_;refine gF ?_;refine H.slice (lv:=n) (hv:=l.length) (mv:=c) rfl rfl ⟨_,_,rfl,rfl⟩ rfl rfl (fun h=>by cases h) hn hc (Nat.le_refl _) rfl ?_;refine gM ?_;exact H.Ad rfl rfl fin ⟨(p,c),hb.take n,rfl,rfl,rfl⟩
end
def numB (l:List UInt8):Nat:=l.foldl (fun n b=>n * 256 + b.toNat) 0
theorem numB_snoc (l:List UInt8) (b:UInt8):numB (l ++ [b]) = numB l * 256 + b.toNat:=by simp [numB]
theorem numB_acc:∀ (l:List UInt8) (a k:Nat),a < 256 ^ k→l.foldl (fun n b=>n * 256 + b.toNat) a < 256 ^ (k + l.length)
 | [],a,k,h=>h
 | b :: l, a, k, h => by
  have hb:=b.toNat_lt
  have:=numB_acc l (a * 256 + b.toNat) (k + 1) (by rw [Nat.pow_succ];omega)
  rw [List.length_cons,show k + (l.length + 1) = k + 1 + l.length by omega]
  exact this
theorem numB_lt (l:List UInt8):numB l < 256 ^ l.length:=by
 have:=numB_acc l 0 0 (by decide);rwa [Nat.zero_add] at this
theorem or_byte {n:Nat} {b:UInt8} (hn:n < 72057594037927936):bitsI .or .u64 (IntKind.u64.wrap ((n:Int) * 2 ^ 8)) ((b.toNat:Nat):Int) = some ((n * 256 + b.toNat:Nat):Int):=by
 have hb:=b.toNat_lt
 have h1:IntKind.u64.wrap ((n:Int) * 2 ^ 8) = ((n * 256:Nat):Int):=by
  rw [wr_u64 (by omega)];omega
 rw [h1];simp only [bitsI,Option.some.injEq]
 have e1:(BitVec.ofInt IntKind.u64.bits ((n * 256:Nat):Int) ||| BitVec.ofInt IntKind.u64.bits ((b.toNat:Nat):Int)).toNat = n * 256 + b.toNat:=by
  rw [BitVec.toNat_or];simp only [BitVec.ofInt_natCast,BitVec.toNat_ofNat,IntKind.bits];rw [Nat.mod_eq_of_lt (by omega),Nat.mod_eq_of_lt (by omega)]
  have:=Nat.shiftLeft_add_eq_or_of_lt (i:=8) (b:=b.toNat) (by simpa using hb) n;rw [Nat.shiftLeft_eq,show n * 2 ^ 8 = n * 256 from rfl] at this
  omega
 rw [e1,wr_u64 (by omega)]
section
variable (f:Frag) (F:List HP) (cb:Nat)
abbrev takeV (cb:Nat):Value:=.func (.func 238) #[.pointer (some ⟨cb,0,none⟩)] #[]
theorem sum_no (h:sp = true ∨ n < 0 ∨ (l.length:Int) < n) :
  Fn Tryz.prog 239 [takeV cb,.int .i64 n] f (cutH f cb l sp::F) (Ret (.int .u64 0) f (cutH f cb l true::F)):=by
 refine Fn.e2 Tryz.func239 Tryz.ntmps239 fun base=>?_;refine gJ ?_;refine H.callVR (fs:=[_]) (cs:=[]) rfl rfl rfl rfl (take_no f F cb h) ?_;refine gR ?_;refine H.lo (ι:=Unit) (fun _=>[(4,.int .u64 0),(9,.slice none 0 0),(10,.int .i64 ((0:Nat):Int)),(11,.int .i64 0)]) (fun _=>f) (fun _=>cutH f cb l true::F) (fun _=>True) (fun _=>0) () trivial fun _ _=>?_;refine gL ?_;exact qah
theorem sum_yes {k:Nat} (hn:k ≤ l.length) (hk:k ≤ 8) (hl:l.length ≤ 1000000000000) :
  Fn Tryz.prog 239 [takeV cb,.int .i64 (k:Nat)] f (cutH f cb l false::F) (Ret (.int .u64 (numB (l.take k):Nat)) f (cutH f cb (l.drop k) false::F)):=by
 refine Fn.e2 Tryz.func239 Tryz.ntmps239 fun base=>?_;refine gJ ?_;refine H.callVP (fs:=[_]) (cs:=[]) rfl rfl rfl rfl (take_yes f F cb hn hl) fun i hb=>?_;obtain ⟨p,c⟩:=i;have hb:BAt f p (l.take k):=hb;refine gR ?_
 have hlen:(l.take k).length = k:=by rw [List.length_take];omega
 refine H.lo (ι:=Nat) (fun i=>[(4,.int .u64 (numB ((l.take k).take i):Nat)),(9,.slice p k c),(10,.int .i64 ((k:Nat):Int)),(11,.int .i64 (i:Int))]) (fun _=>f) (fun _=>cutH f cb (l.drop k) false::F) (fun i=>i ≤ k) (fun i=>k - i) 0 (Nat.zero_le _) fun i hi=>?_;have hi:i ≤ k:=hi;refine gL ?_
 by_cases hlt:i < k
 ·obtain ⟨x,hx⟩:∃ x,(l.take k)[i]? = some x:=⟨(l.take k)[i]'(by omega),List.getElem?_eq_getElem (by omega)⟩;have hsrc:(l.take k).take (i + 1) = (l.take k).take i ++ [x]:=by rw [List.take_add_one,hx];rfl
  have hm:numB ((l.take k).take i) < 72057594037927936:=by
   have h1:=numB_lt ((l.take k).take i);have h2:((l.take k).take i).length = i:=by rw [List.length_take];omega
   rw [h2] at h1;have h3:256 ^ i ≤ 256 ^ 7:=Nat.pow_le_pow_right (by decide) (by omega);have h4:(256:Nat) ^ 7 = 72057594037927936:=by decide
   omega
  rcases hb with hnil | ⟨b,off,cs,T,fr,rfl,h2,h3⟩
  ·rw [hnil] at hlen;simp at hlen;omega
  have rd:∀ A,Rd f A b off (bytesV (l.take k)):=fun A=>Rd.imm h2 (fun j hj=>h3 j (by rwa [zad] at hj));have hv:(bytesV (l.take k))[i]? = some (.int .u8 (x.toNat:Nat)):=by unfold bytesV;rw [List.getElem?_map,hx];rfl
  refine gG ?_;refine H.index1 rfl rfl rfl rfl hlt rfl ?_;refine H.Ab rfl rfl rfl (.of (rd _) hv) rfl ?_;refine gJ ?_;have hxl:=x.toNat_lt;refine H.Bo rfl rfl rfl rfl (by decide) rfl rfl ?_
  refine gD ?_;refine H.Bg rfl rfl rfl (or_byte hm) rfl rfl ?_;refine gD ?_;refine H.Aq (i + 1) (by show i + 1 ≤ k;omega) (by show k - (i + 1) < k - i;omega) ⟨?_,rfl,rfl,rfl,trivial⟩ rfl rfl;show some _ = some (Value.int .u64 (numB ((l.take k).take (i + 1)):Nat));rw [hsrc,numB_snoc]
 ·have:i = k:=by omega
  subst this;rw [List.take_of_length_le (by omega)];refine gP ?_;exact qah
theorem cutWord_no (h:sp = true ∨ l.length < 8) :
  Fn Tryz.prog 190 [.pointer (some ⟨cb,0,none⟩)] f (cutH f cb l sp::F) (Ret (.int .u64 0) f (cutH f cb l true::F)):=by
 refine Fn.e1 Tryz.func190 Tryz.ntmps190 fun base=>?_;refine gX ?_;refine H.Af rfl rfl rfl (sum_no f F cb (n:=8) (h.elim .inl fun h=>.inr (.inr (by omega)))) ?_;refine gR ?_;exact qah
theorem cutWord_yes (h:8 ≤ l.length) (hl:l.length ≤ 1000000000000) :
  Fn Tryz.prog 190 [.pointer (some ⟨cb,0,none⟩)] f (cutH f cb l false::F) (Ret (.int .u64 (numB (l.take 8):Nat)) f (cutH f cb (l.drop 8) false::F)):=by
 have hb:=numB_lt (l.take 8);rw [show (l.take 8).length = 8 by rw [List.length_take];omega] at hb
 have e:(256:Nat) ^ 8 = 18446744073709551616:=by decide
 rw [e] at hb;clear e;refine Fn.e1 Tryz.func190 Tryz.ntmps190 fun base=>?_;refine gX ?_;refine H.Af rfl rfl rfl (sum_yes f F cb (k:=8) h (by decide) hl) ?_;refine gR ?_;exact qah
theorem cutHalf_no (h:sp = true ∨ l.length < 2) :
  Fn Tryz.prog 259 [.pointer (some ⟨cb,0,none⟩)] f (cutH f cb l sp::F) (Ret (.int .u16 0) f (cutH f cb l true::F)):=by
 refine Fn.e1 Tryz.func259 Tryz.ntmps259 fun base=>?_;refine gX ?_;refine H.Af rfl rfl rfl (sum_no f F cb (n:=2) (h.elim .inl fun h=>.inr (.inr (by omega)))) ?_;refine gD ?_;exact qah
theorem cutHalf_yes (h:2 ≤ l.length) (hl:l.length ≤ 1000000000000) :
  Fn Tryz.prog 259 [.pointer (some ⟨cb,0,none⟩)] f (cutH f cb l false::F) (Ret (.int .u16 (numB (l.take 2):Nat)) f (cutH f cb (l.drop 2) false::F)):=by
 have hb:=numB_lt (l.take 2);rw [show (l.take 2).length = 2 by rw [List.length_take];omega] at hb
 have e:(256:Nat) ^ 2 = 65536:=by decide
 rw [e] at hb;clear e;refine Fn.e1 Tryz.func259 Tryz.ntmps259 fun base=>?_;refine gX ?_;refine H.Af rfl rfl rfl (sum_yes f F cb (k:=2) h (by decide) hl) ?_;refine gD ?_;exact qah
theorem cutByte_no (h:sp = true ∨ l.length < 1) :
  Fn Tryz.prog 199 [.pointer (some ⟨cb,0,none⟩)] f (cutH f cb l sp::F) (Ret (.int .u8 0) f (cutH f cb l true::F)):=by
 refine Fn.e1 Tryz.func199 Tryz.ntmps199 fun base=>?_;refine gX ?_;refine H.Af rfl rfl rfl (sum_no f F cb (n:=1) (h.elim .inl fun h=>.inr (.inr (by omega)))) ?_;refine gD ?_;exact qah
theorem cutByte_yes (h:1 ≤ l.length) (hl:l.length ≤ 1000000000000) :
  Fn Tryz.prog 199 [.pointer (some ⟨cb,0,none⟩)] f (cutH f cb l false::F) (Ret (.int .u8 (numB (l.take 1):Nat)) f (cutH f cb (l.drop 1) false::F)):=by
 have hb:=numB_lt (l.take 1);rw [show (l.take 1).length = 1 by rw [List.length_take];omega] at hb
 have e:(256:Nat) ^ 1 = 256:=by decide
 rw [e] at hb;clear e;refine Fn.e1 Tryz.func199 Tryz.ntmps199 fun base=>?_;refine gX ?_;refine H.Af rfl rfl rfl (sum_yes f F cb (k:=1) h (by decide) hl) ?_;refine gD ?_;exact qah
end
section
variable (f:Frag) (F:List HP) (cb:Nat)
theorem cutLeft_fn:Fn Tryz.prog 200 [.pointer (some ⟨cb,0,none⟩)] f (cutH f cb l sp::F) (Ret (.bool (!sp)) f (cutH f cb l sp::F)):=by
 refine cutH_open fun p c hb hc=>?_;refine Fn.e1 Tryz.func200 Tryz.ntmps200 fun base=>?_;refine gT ?_;exact H.Ad rfl rfl (zbk hb hc) ⟨rfl,rfl,rfl⟩
theorem raw_no (h:sp = true ∨ n < 0 ∨ (l.length:Int) < n) :
  Fn Tryz.prog 244 [.pointer (some ⟨cb,0,none⟩),.int .i64 n] f (cutH f cb l sp::F) (BytesR [] f (cutH f cb l true::F)):=by
 refine Fn.e2 Tryz.func244 Tryz.ntmps244 fun base=>?_;refine gJ ?_;refine H.Af rfl rfl rfl (take_no f F cb h) ?_;skip;refine H.Ap rfl rfl rfl (cloneB_fn (l:=[]) f _ Src.nil (fun _=>rfl) (by decide)) fun p c=>?_;exact qcN
theorem raw_yes {n:Nat} (hn:n ≤ l.length) (hl:l.length ≤ 10000000000) :
  Fn Tryz.prog 244 [.pointer (some ⟨cb,0,none⟩),.int .i64 (n:Nat)] f (cutH f cb l false::F) (BytesR (l.take n) f (cutH f cb (l.drop n) false::F)):=by
 have hlen:(l.take n).length = n:=by rw [List.length_take];omega
 refine Fn.e2 Tryz.func244 Tryz.ntmps244 fun base=>?_;refine gJ ?_;refine H.callP rfl rfl rfl (take_yes f F cb hn (by omega)) fun i hb=>?_;obtain ⟨p,c⟩:=i;have hb:BAt f p (l.take n):=hb;skip
 have hs:Src Tryz.prog f (cutH f cb (l.drop n) false::F) (.slice p (l.take n).length c) 1 (l.take n).length (bytesV (l.take n)):=hb.src;have hc:=cloneB_fn f _ hs (fun hp=>by rcases hb with h | ⟨b,off,cs,T,fr,h,_⟩;exact h;rw [hp] at h;cases h) (by omega)
 rw [hlen] at hc;refine H.Ap rfl rfl rfl hc fun p1 c1=>?_;exact qbf
theorem slc_bat {g:Frag} (h:slc p l.length c T 1 (bytesV l) g) (hd:Dj f g):BAt (un f g) p l:=by
 obtain ⟨_,_,h3⟩:=h;rcases h3 with ⟨h0,_,_⟩ | ⟨b,sp,rfl,h4,h5,rfl⟩
 ·exact .inl (List.eq_nil_of_length_eq_zero h0)
 ·refine .inr ⟨b,0,(bytesV l ++ sp).toArray,T,(0,0),rfl,?_,fun i hi=>?_⟩
  ·show (f b).or (sing b _ b) = _
   have:f b = none:=by
    rcases hd b with h | h
    ·exact h
    ·simp [sing] at h
   rw [this];simp [sing]
  ·rw [Nat.zero_add];simp only [List.getElem?_toArray];rw [List.getElem?_append_left (by rw [zad];exact hi)]
theorem octNew_fn {p0:Option Addr} {c0:Nat} (hs:Src Tryz.prog f F (.slice p0 l.length c0) 1 l.length (bytesV l)) (hn:p0 = none→l = []) (hl:l.length ≤ 100000000000) :
  Fn Tryz.prog 131 [.slice p0 l.length c0] f F (fun v f' A'=>∃ g cb p c,v = .pointer (some ⟨cb,0,none⟩) ∧ slc p l.length c 5 1 (bytesV l) g ∧ Dj f g ∧ f' = un f g ∧ A' = cutH (un f g) cb l false::F):=by
 refine Fn.e1 Tryz.func131 Tryz.ntmps131 fun base=>?_;refine gJ ?_;refine H.Ap rfl rfl rfl (cloneB_fn f F hs hn hl) fun p c=>?_;refine H.Cg (.here _ _ _) fun hc _ _=>?_;refine qhm fun g hg hd=>?_;refine gL ?_;refine H.box (ls:=[.slice p l.length c,.bool false]) rfl rfl rfl rfl fun cb=>?_;refine gR ?_;exact H.Ad rfl rfl (zbk (slc_bat f hg hd) hc) ⟨g,cb,p,c,rfl,hg,hd,rfl,rfl⟩
end
structure Cs where
 l:List UInt8
 bad:Bool
def Cs.ok (s:Cs) (n:Nat):Bool:=!s.bad && Nat.ble n s.l.length
def Cs.num (s:Cs) (n:Nat):Nat:=if s.ok n then numB (s.l.take n) else 0
def Cs.skip (s:Cs) (n:Nat):Cs:=if s.ok n then ⟨s.l.drop n,false⟩ else ⟨s.l,true⟩
def Cs.raw (s:Cs) (n:Nat):List UInt8:=if s.ok n then s.l.take n else []
def Cs.tok (s:Cs) (most:Nat):Bool:=s.ok 2 && Nat.ble (s.num 2) most && Nat.ble (2 + s.num 2) s.l.length
def Cs.text (s:Cs) (most:Nat):List UInt8:=if s.tok most then (s.l.drop 2).take (s.num 2) else []
def Cs.textS (s:Cs) (most:Nat):Cs:=if s.tok most then ⟨s.l.drop (2 + s.num 2),false⟩ else ⟨s.l,true⟩
theorem Cs.ok_iff (s:Cs) (n:Nat):s.ok n = true ↔ s.bad = false ∧ n ≤ s.l.length:=by
 simp [Cs.ok]
theorem Cs.skip_len (s:Cs) (n:Nat):(s.skip n).l.length ≤ s.l.length:=by
 unfold Cs.skip;split
 ·simp
 ·exact Nat.le_refl _
theorem Cs.textS_len (s:Cs) (n:Nat):(s.textS n).l.length ≤ s.l.length:=by
 unfold Cs.textS;split
 ·simp
 ·exact Nat.le_refl _
theorem Cs.num_lt (s:Cs) (n:Nat):s.num n < 256 ^ n:=by
 unfold Cs.num;split
 ·rename_i h
  have h1:=numB_lt (s.l.take n);have h2:=((Cs.ok_iff s n).1 h).2
  rw [List.length_take,Nat.min_eq_left h2] at h1;exact h1
 ·exact Nat.pow_pos (by decide)
theorem Cs.num1_lt (s:Cs):s.num 1 < 256:=s.num_lt 1
theorem Cs.num2_lt (s:Cs):s.num 2 < 65536:=s.num_lt 2
def cutC (f:Frag) (cb:Nat) (s:Cs):HP:=cutH f cb s.l s.bad
section
variable (f:Frag) (F:List HP) (cb:Nat) (s:Cs)
theorem Cs.no {n:Nat} (h:¬ s.ok n = true):s.bad = true ∨ s.l.length < n:=by
 rw [Cs.ok_iff] at h
 cases hb:s.bad with
 | true=>exact .inl rfl
 | false=>refine .inr ?_;simp [hb] at h;omega
theorem word_cs (hl:s.l.length ≤ 1000000000000) :
  Fn Tryz.prog 190 [.pointer (some ⟨cb,0,none⟩)] f (cutC f cb s::F) (Ret (.int .u64 (s.num 8:Nat)) f (cutC f cb (s.skip 8)::F)):=by
 unfold Cs.num Cs.skip cutC;by_cases h:s.ok 8 = true
 ·rw [if_pos h,if_pos h];obtain ⟨h1,h2⟩:=(Cs.ok_iff _ _).1 h;rw [h1];exact cutWord_yes f F cb h2 hl
 ·rw [if_neg h,if_neg h];exact cutWord_no f F cb (s.no h)
theorem half_cs (hl:s.l.length ≤ 1000000000000) :
  Fn Tryz.prog 259 [.pointer (some ⟨cb,0,none⟩)] f (cutC f cb s::F) (Ret (.int .u16 (s.num 2:Nat)) f (cutC f cb (s.skip 2)::F)):=by
 unfold Cs.num Cs.skip cutC;by_cases h:s.ok 2 = true
 ·rw [if_pos h,if_pos h];obtain ⟨h1,h2⟩:=(Cs.ok_iff _ _).1 h;rw [h1];exact cutHalf_yes f F cb h2 hl
 ·rw [if_neg h,if_neg h];exact cutHalf_no f F cb (s.no h)
theorem byte_cs (hl:s.l.length ≤ 1000000000000) :
  Fn Tryz.prog 199 [.pointer (some ⟨cb,0,none⟩)] f (cutC f cb s::F) (Ret (.int .u8 (s.num 1:Nat)) f (cutC f cb (s.skip 1)::F)):=by
 unfold Cs.num Cs.skip cutC;by_cases h:s.ok 1 = true
 ·rw [if_pos h,if_pos h];obtain ⟨h1,h2⟩:=(Cs.ok_iff _ _).1 h;rw [h1];exact cutByte_yes f F cb h2 hl
 ·rw [if_neg h,if_neg h];exact cutByte_no f F cb (s.no h)
theorem raw_cs (n:Nat) (hl:s.l.length ≤ 10000000000) :
  Fn Tryz.prog 244 [.pointer (some ⟨cb,0,none⟩),.int .i64 (n:Nat)] f (cutC f cb s::F) (BytesR (s.raw n) f (cutC f cb (s.skip n)::F)):=by
 unfold Cs.raw Cs.skip cutC;by_cases h:s.ok n = true
 ·rw [if_pos h,if_pos h];obtain ⟨h1,h2⟩:=(Cs.ok_iff _ _).1 h;rw [h1];exact raw_yes f F cb h2 hl
 ·rw [if_neg h,if_neg h];exact raw_no f F cb ((s.no h).elim .inl fun h=>.inr (.inr (by omega)))
theorem ok_cs:Fn Tryz.prog 200 [.pointer (some ⟨cb,0,none⟩)] f (cutC f cb s::F) (Ret (.bool (!s.bad)) f (cutC f cb s::F)):=cutLeft_fn f F cb
end
def w32 (x:UInt32):Value:=.int .u32 (x.toNat:Nat)
theorem u32_wrap (z:Int):IntKind.u32.wrap z = z % 4294967296:=by simp [IntKind.wrap,IntKind.signed,IntKind.bits]
theorem u32_bv (x:UInt32):BitVec.ofInt 32 (x.toNat:Int) = x.toBitVec:=by
 simp [BitVec.ofInt_natCast]
theorem u32_wrapN (x:UInt32):IntKind.u32.wrap ((x.toNat:Nat):Int) = (x.toNat:Int):=by
 rw [u32_wrap];have:=x.toNat_lt;omega
theorem zbq (x y:UInt32):bitsI .xor .u32 (x.toNat:Int) (y.toNat:Int) = some (((x ^^^ y).toNat:Nat):Int):=by
 have e:(BitVec.ofInt 32 (x.toNat:Int) ^^^ BitVec.ofInt 32 (y.toNat:Int)).toNat = (x ^^^ y).toNat:=by rw [u32_bv,u32_bv];rfl
 show some (IntKind.u32.wrap ((BitVec.ofInt 32 (x.toNat:Int) ^^^ BitVec.ofInt 32 (y.toNat:Int)).toNat:Int)) = _;rw [e,u32_wrapN]
theorem u32_and (x y:UInt32):bitsI .and .u32 (x.toNat:Int) (y.toNat:Int) = some (((x &&& y).toNat:Nat):Int):=by
 have e:(BitVec.ofInt 32 (x.toNat:Int) &&& BitVec.ofInt 32 (y.toNat:Int)).toNat = (x &&& y).toNat:=by rw [u32_bv,u32_bv];rfl
 show some (IntKind.u32.wrap ((BitVec.ofInt 32 (x.toNat:Int) &&& BitVec.ofInt 32 (y.toNat:Int)).toNat:Int)) = _;rw [e,u32_wrapN]
theorem u32_or (x y:UInt32):bitsI .or .u32 (x.toNat:Int) (y.toNat:Int) = some (((x ||| y).toNat:Nat):Int):=by
 have e:(BitVec.ofInt 32 (x.toNat:Int) ||| BitVec.ofInt 32 (y.toNat:Int)).toNat = (x ||| y).toNat:=by rw [u32_bv,u32_bv];rfl
 show some (IntKind.u32.wrap ((BitVec.ofInt 32 (x.toNat:Int) ||| BitVec.ofInt 32 (y.toNat:Int)).toNat:Int)) = _;rw [e,u32_wrapN]
theorem u32_not (x:UInt32):bitsI .xor .u32 (if IntKind.u32.signed then -1 else IntKind.u32.max) (x.toNat:Int) = some (((~~~ x).toNat:Nat):Int):=by
 have h:(if IntKind.u32.signed then -1 else IntKind.u32.max) = (((0xffffffff:UInt32).toNat:Nat):Int):=by decide
 rw [h,zbq];congr 3
theorem u32_shr (x:UInt32) (n:Nat) (hn:n < 32):shiftI .shr .u32 (x.toNat:Int) (n:Int) = some (((x >>> (UInt32.ofNat n)).toNat:Nat):Int):=by
 simp only [shiftI,Option.some.injEq,IntKind.bits];rw [UInt32.toNat_shiftRight]
 have h1:(UInt32.ofNat n).toNat % 32 = n:=by
  rw [UInt32.toNat_ofNat'];omega
 rw [h1,Nat.shiftRight_eq_div_pow];have h2:min ((n:Int).toNat) 32 = n:=by omega
 rw [h2];rw [show ((2:Int) ^ n) = ((2 ^ n:Nat):Int) by simp];rw [Int.fdiv_eq_ediv_of_nonneg _ (Int.natCast_nonneg _)];exact (Int.natCast_ediv _ _).symm
theorem u32_shl (x:UInt32) (n:Nat) (hn:n < 32):shiftI .shl .u32 (x.toNat:Int) (n:Int) = some (((x <<< (UInt32.ofNat n)).toNat:Nat):Int):=by
 simp only [shiftI,Option.some.injEq,IntKind.bits];rw [UInt32.toNat_shiftLeft]
 have h1:(UInt32.ofNat n).toNat % 32 = n:=by
  rw [UInt32.toNat_ofNat'];omega
 rw [h1,Nat.shiftLeft_eq];have h2:min ((n:Int).toNat) 32 = n:=by omega
 rw [h2,u32_wrap];rw [show ((2:Int) ^ n) = ((2 ^ n:Nat):Int) by simp];rw [← Int.natCast_mul];omega
theorem u32_shl24 (x:UInt32):shiftI .shl .u32 (x.toNat:Int) 24 = some (((x <<< (UInt32.ofNat 24)).toNat:Nat):Int):=u32_shl x 24 (by decide)
theorem u32_shl16 (x:UInt32):shiftI .shl .u32 (x.toNat:Int) 16 = some (((x <<< (UInt32.ofNat 16)).toNat:Nat):Int):=u32_shl x 16 (by decide)
theorem u32_shl8 (x:UInt32):shiftI .shl .u32 (x.toNat:Int) 8 = some (((x <<< (UInt32.ofNat 8)).toNat:Nat):Int):=u32_shl x 8 (by decide)
theorem u32_shr3 (x:UInt32):shiftI .shr .u32 (x.toNat:Int) 3 = some (((x >>> (UInt32.ofNat 3)).toNat:Nat):Int):=u32_shr x 3 (by decide)
theorem u32_shr10 (x:UInt32):shiftI .shr .u32 (x.toNat:Int) 10 = some (((x >>> (UInt32.ofNat 10)).toNat:Nat):Int):=u32_shr x 10 (by decide)
theorem u32_ofByte (b:UInt8):IntKind.u32.wrap ((b.toNat:Nat):Int) = ((b.toUInt32.toNat:Nat):Int):=by
 rw [u32_wrap,UInt8.toNat_toUInt32];have:=b.toNat_lt;omega
theorem u8_ofU32 (x:UInt32):IntKind.u8.wrap ((x.toNat:Nat):Int) = ((x.toUInt8.toNat:Nat):Int):=by
 have h:IntKind.u8.wrap ((x.toNat:Nat):Int) = (x.toNat:Int) % 256:=by simp [IntKind.wrap,IntKind.signed,IntKind.bits]
 rw [h,UInt32.toNat_toUInt8];omega
namespace Sha
def rot (x:UInt32) (n:Nat):UInt32:=x >>> (UInt32.ofNat n) ||| x <<< (UInt32.ofNat (32 - n))
def word (b:List UInt8) (i:Nat):UInt32:=
 (b.getD (4 * i) 0).toUInt32 <<< (UInt32.ofNat 24) ||| (b.getD (4 * i + 1) 0).toUInt32 <<< (UInt32.ofNat 16) ||| (b.getD (4 * i + 2) 0).toUInt32 <<< (UInt32.ofNat 8) ||| (b.getD (4 * i + 3) 0).toUInt32
def words (b:List UInt8):Nat→List UInt32
 | 0=>[]
 | i + 1=>words b i ++ [word b i]
def s0 (x:UInt32):UInt32:=rot x 7 ^^^ rot x 18 ^^^ x >>> (UInt32.ofNat 3)
def s1 (x:UInt32):UInt32:=rot x 17 ^^^ rot x 19 ^^^ x >>> (UInt32.ofNat 10)
def next (w:List UInt32):UInt32:=w.getD (w.length - 16) 0 + s0 (w.getD (w.length - 15) 0) + w.getD (w.length - 7) 0 + s1 (w.getD (w.length - 2) 0)
def ext (w:List UInt32):Nat→List UInt32
 | 0=>w
 | i + 1=>ext w i ++ [next (ext w i)]
def sched (b:List UInt8):List UInt32:=ext (words b 16) 48
def k:List UInt32:=[
 0x428a2f98,0x71374491,0xb5c0fbcf,0xe9b5dba5,0x3956c25b,0x59f111f1,0x923f82a4,0xab1c5ed5,
 0xd807aa98,0x12835b01,0x243185be,0x550c7dc3,0x72be5d74,0x80deb1fe,0x9bdc06a7,0xc19bf174,
 0xe49b69c1,0xefbe4786,0x0fc19dc6,0x240ca1cc,0x2de92c6f,0x4a7484aa,0x5cb0a9dc,0x76f988da,
 0x983e5152,0xa831c66d,0xb00327c8,0xbf597fc7,0xc6e00bf3,0xd5a79147,0x06ca6351,0x14292967,
 0x27b70a85,0x2e1b2138,0x4d2c6dfc,0x53380d13,0x650a7354,0x766a0abb,0x81c2c92e,0x92722c85,
 0xa2bfe8a1,0xa81a664b,0xc24b8b70,0xc76c51a3,0xd192e819,0xd6990624,0xf40e3585,0x106aa070,
 0x19a4c116,0x1e376c08,0x2748774c,0x34b0bcb5,0x391c0cb3,0x4ed8aa4a,0x5b9cca4f,0x682e6ff3,
 0x748f82ee,0x78a5636f,0x84c87814,0x8cc70208,0x90befffa,0xa4506ceb,0xbef9a3f7,0xc67178f2]
structure S8 where
 a:UInt32
 b:UInt32
 c:UInt32
 d:UInt32
 e:UInt32
 f:UInt32
 g:UInt32
 h:UInt32
def S8.vals (s:S8):List Value:=[w32 s.a,w32 s.b,w32 s.c,w32 s.d,w32 s.e,w32 s.f,w32 s.g,w32 s.h]
def start:S8:=⟨0x6a09e667,0xbb67ae85,0x3c6ef372,0xa54ff53a,0x510e527f,0x9b05688c,0x1f83d9ab,0x5be0cd19⟩
def t1 (k w:UInt32) (v:S8):UInt32:=v.h + (rot v.e 6 ^^^ rot v.e 11 ^^^ rot v.e 25) + (v.e &&& v.f ^^^ ~~~ v.e &&& v.g) + k + w
def t2 (v:S8):UInt32:=(rot v.a 2 ^^^ rot v.a 13 ^^^ rot v.a 22) + (v.a &&& v.b ^^^ v.a &&& v.c ^^^ v.b &&& v.c)
def round (k w:UInt32) (v:S8):S8:=⟨t1 k w v + t2 v,v.a,v.b,v.c,v.d + t1 k w v,v.e,v.f,v.g⟩
def rounds (w:List UInt32) (v:S8):Nat→S8
 | 0=>v
 | i + 1=>round (k.getD i 0) (w.getD i 0) (rounds w v i)
def S8.add (v s:S8):S8:=⟨v.a + s.a,v.b + s.b,v.c + s.c,v.d + s.d,v.e + s.e,v.f + s.f,v.g + s.g,v.h + s.h⟩
def block (s:S8) (b:List UInt8):S8:=(rounds (sched b) s 64).add s
def blocks (s:S8) (b:List UInt8):Nat→S8
 | 0=>s
 | i + 1=>block (blocks s b i) ((b.drop (64 * i)).take 64)
def padZ (n:Nat):Nat:=(119 - n % 64) % 64
def padded (b:List UInt8):List UInt8:=b ++ [0x80] ++ List.replicate (padZ b.length) 0 ++ be 8 ((b.length * 8:Nat):Int)
def S8.get (s:S8):Nat→UInt32
 | 0=>s.a
 | 1=>s.b
 | 2=>s.c
 | 3=>s.d
 | 4=>s.e
 | 5=>s.f
 | 6=>s.g
 | _=>s.h
def S8.out (s:S8) (i:Nat):UInt8:=(s.get (i / 4) >>> (UInt32.ofNat (24 - 8 * (i % 4)))).toUInt8
def sum (b:List UInt8):Nat→UInt8:=(blocks start (padded b) ((padded b).length / 64)).out
end Sha
variable {a b:List Value} {v:Value}
theorem fill_set {i:Nat} (ha:a[i]? = some v) (hab:a.length = b.length):SetV (a.take i ++ b.drop i) i v (a.take (i + 1) ++ b.drop (i + 1)):=by
 induction i generalizing a b with
 | zero =>
  match a,b,ha,hab with
  | x :: a, y :: b, ha, _ =>
   simp at ha;subst ha;exact .here _ _ _
 | succ i ih =>
  match a,b,ha,hab with
  | x::a,y::b,ha,hab=>exact .there _ (ih (by simpa using ha) (by simpa using hab))
variable {j:Nat}
theorem fill_get {i:Nat} (hj:j < i) (ha:a[j]? = some v):(a.take i ++ b.drop i)[j]? = some v:=by
 have:j < a.length:=by
  rcases Nat.lt_or_ge j a.length with h | h
  ·exact h
  ·simp [List.getElem?_eq_none h] at ha
 rw [List.getElem?_append_left (by rw [List.length_take];omega),List.getElem?_take,if_pos hj,ha]
theorem fill_get2 {i:Nat} (hj:i ≤ j) (hab:a.length = b.length) (hb:b[j]? = some v):(a.take i ++ b.drop i)[j]? = some v:=by
 have:j < b.length:=by
  rcases Nat.lt_or_ge j b.length with h | h
  ·exact h
  ·simp [List.getElem?_eq_none h] at hb
 have e:(a.take i).length = i:=by rw [List.length_take];omega
 rw [List.getElem?_append_right (by omega),e,List.getElem?_drop,show i + (j - i) = j by omega,hb]
theorem map_get {l:List α} (g:α→Value) {i:Nat} (h:i < l.length) (z:α):(l.map g)[i]? = some (g (l.getD i z)):=by
 rw [List.getElem?_map,List.getElem?_eq_getElem h];simp [List.getD_eq_getElem?_getD,List.getElem?_eq_getElem h]
namespace Sha
theorem zbu (b:List UInt8):∀ n,(words b n).length = n
 | 0=>rfl
 | n + 1=>by simp [words,zbu b n]
theorem words_get (b:List UInt8):∀ (n i:Nat),i < n→(words b n).getD i 0 = word b i
 | 0,i,h=>by omega
 | n + 1, i, h => by
  simp only [words,List.getD_eq_getElem?_getD]
  by_cases e:i < n
  ·rw [List.getElem?_append_left (by rw [zbu];exact e),← List.getD_eq_getElem?_getD]
   exact words_get b n i e
  ·have:i = n:=by omega
   subst this
   rw [List.getElem?_append_right (by rw [zbu];exact Nat.le_refl _),zbu]
   simp
theorem ext_len (w:List UInt32):∀ n,(ext w n).length = w.length + n
 | 0=>rfl
 | n + 1=>by simp [ext,ext_len w n];omega
theorem ext_get (w:List UInt32) (n:Nat) {i:Nat} (h:i < w.length + n):∀ k,(ext w (n + k)).getD i 0 = (ext w n).getD i 0
 | 0=>rfl
 | k + 1 => by
  show (ext w (n + k) ++ _).getD i 0 = _
  rw [List.getD_eq_getElem?_getD,List.getElem?_append_left (by rw [ext_len];omega),← List.getD_eq_getElem?_getD]
  exact ext_get w n h k
theorem sched_len (b:List UInt8):(sched b).length = 64:=by unfold sched;rw [ext_len,zbu]
theorem sched_lo (b:List UInt8) {i:Nat} (h:i < 16):(sched b).getD i 0 = word b i:=by
 unfold sched
 have:=ext_get (words b 16) 0 (i:=i) (by rw [zbu];omega) 48;rw [Nat.zero_add] at this
 rw [this];exact words_get b 16 i h
theorem sched_hi (b:List UInt8) (h:j < 48):(sched b).getD (j + 16) 0 = (sched b).getD j 0 + s0 ((sched b).getD (j + 1) 0) + (sched b).getD (j + 9) 0 + s1 ((sched b).getD (j + 14) 0):=by
 have pre:∀ i,i < 16 + j→(sched b).getD i 0 = (ext (words b 16) j).getD i 0:=fun i hi=>by
  unfold sched
  have:=ext_get (words b 16) j (i:=i) (by rw [zbu];omega) (48 - j);rw [show j + (48 - j) = 48 by omega] at this
  exact this
 have top:(sched b).getD (j + 16) 0 = next (ext (words b 16) j):=by
  unfold sched
  have:=ext_get (words b 16) (j + 1) (i:=j + 16) (by rw [zbu];omega) (48 - (j + 1));rw [show j + 1 + (48 - (j + 1)) = 48 by omega] at this
  rw [this];show (ext (words b 16) j ++ [next (ext (words b 16) j)]).getD (j + 16) 0 = _;rw [List.getD_eq_getElem?_getD,List.getElem?_append_right (by rw [ext_len,zbu];omega),ext_len,zbu,show j + 16 - (16 + j) = 0 by omega];rfl
 rw [top,pre j (by omega),pre (j + 1) (by omega),pre (j + 9) (by omega),pre (j + 14) (by omega)];unfold next;rw [ext_len,zbu,show 16 + j - 16 = j by omega,show 16 + j - 15 = j + 1 by omega,show 16 + j - 7 = j + 9 by omega,show 16 + j - 2 = j + 14 by omega]
theorem S8.get_vals (s:S8) {i:Nat} (h:i < 8):s.vals[i]? = some (w32 (s.get i)):=by
 match i,h with
 | 0,_=>rfl
 | 1,_=>rfl
 | 2,_=>rfl
 | 3,_=>rfl
 | 4,_=>rfl
 | 5,_=>rfl
 | 6,_=>rfl
 | 7,_=>rfl
theorem S8.add_get (v s:S8) {i:Nat} (h:i < 8):(v.add s).get i = v.get i + s.get i:=by
 match i,h with
 | 0,_=>rfl
 | 1,_=>rfl
 | 2,_=>rfl
 | 3,_=>rfl
 | 4,_=>rfl
 | 5,_=>rfl
 | 6,_=>rfl
 | 7,_=>rfl
end Sha
theorem zcd {i:Nat} (h:i < l.length):(bytesV l)[i]? = some (.int .u8 ((l.getD i 0).toNat:Nat)):=map_get _ h 0
section
variable (f:Frag) (F:List HP)
theorem rot_fn {x:UInt32} {n:Nat} (h0:0 < n) (hn:n < 32):Fn Tryz.prog 214 [w32 x,.int .u64 (n:Nat)] f F (Ret (w32 (Sha.rot x n)) f F):=by
 have e:IntKind.u64.wrap (32 - (n:Int)) = ((32 - n:Nat):Int):=by rw [wr_u64 (by omega)];omega
 refine Fn.e2 Tryz.func214 Tryz.ntmps214 fun base=>?_;repeat (first | (apply H.ar;(iterate 4 exact rfl);exact e;exact rfl) | (refine gg ?_) | (apply H.Bo;(iterate 3 exact rfl);(first | exact u32_shl _ _ (by omega) | exact u32_shr _ _ (by omega));omega;(iterate 2 exact rfl)) | (apply H.Bg;(iterate 3 exact rfl);exact u32_or _ _;(iterate 2 exact rfl)))
 exact qah
theorem k_fn2:Fn Tryz.prog 215 [] f F (Ret (.agg (Sha.k.map w32).toArray) f F):=by
 refine Fn.e0 Tryz.func215 Tryz.ntmps215 fun base=>?_;refine gA ?_;refine H.Ak (ls:=List.replicate 64 (.int .u32 0)) rfl rfl rfl fun kb=>?_;refine gA ?_;refine H.buildA (out:=Sha.k.map w32) rfl rfl rfl rfl rfl ?_;refine qfZ ?_;exact qae
theorem start_fn:Fn Tryz.prog 143 [] f F (Ret (.agg Sha.start.vals.toArray) f F):=by
 refine Fn.e0 Tryz.func143 Tryz.ntmps143 fun base=>?_;exact qba
end
variable {S:List UInt32}
section
variable (f:Frag) (F:List HP)
def z64:List Value:=List.replicate 64 (w32 0)
theorem z64_len:z64.length = 64:=rfl
def wRow (S:List UInt32) (n:Nat):List Value:=(S.map w32).take n ++ z64.drop n
theorem wRow_set (hS:S.length = 64) {n:Nat} (h:n < 64):SetV (wRow S n) n (w32 (S.getD n 0)) (wRow S (n + 1)):=
 fill_set (map_get w32 (by rw [hS];exact h) 0) (by rw [List.length_map,hS];rfl)
theorem wRow_get (hS:S.length = 64) {n:Nat} (h:j < n) (hn:n ≤ 64):(wRow S n)[j]? = some (w32 (S.getD j 0)):=
 fill_get h (map_get w32 (by rw [hS];omega) 0)
def addRow (v s:Sha.S8) (n:Nat):List Value:=(v.add s).vals.take n ++ v.vals.drop n
theorem addRow_set (v s:Sha.S8) {i:Nat} (h:i < 8):SetV (addRow v s i) i (w32 (v.get i + s.get i)) (addRow v s (i + 1)):=by
 rw [← Sha.S8.add_get v s h];exact fill_set (Sha.S8.get_vals (v.add s) h) rfl
theorem addRow_get (v s:Sha.S8) {i:Nat} (h:i < 8):(addRow v s i)[i]? = some (w32 (v.get i)):=
 fill_get2 (Nat.le_refl _) rfl (Sha.S8.get_vals v h)
theorem block_fn {s:Sha.S8} {bs:List UInt8} (hb:bs.length = 64):Fn Tryz.prog 144 [.agg s.vals.toArray,.agg (bytesV bs).toArray] f F (Ret (.agg (Sha.block s bs).vals.toArray) f F):=by
 have hbl:(bytesV bs).length = 64:=by rw [zad,hb]
 have hlo:∀ i,i < 16→(Sha.sched bs).getD i 0 = Sha.word bs i:=fun i h=>Sha.sched_lo bs h;have hhi:∀ j,j < 48→(Sha.sched bs).getD (j + 16) 0 = (Sha.sched bs).getD j 0 + Sha.s0 ((Sha.sched bs).getD (j + 1) 0) + (Sha.sched bs).getD (j + 9) 0 + Sha.s1 ((Sha.sched bs).getD (j + 14) 0):=fun j h=>Sha.sched_hi bs h
 have hS:=Sha.sched_len bs;unfold Sha.block
 generalize Sha.sched bs = S at hlo hhi hS ⊢;refine Fn.e2 Tryz.func144 Tryz.ntmps144 fun base=>?_;refine gA ?_;refine H.box (ls:=s.vals) rfl rfl rfl rfl fun sb=>?_;refine H.box (ls:=bytesV bs) rfl rfl rfl rfl fun nb=>?_;refine qgv fun ob=>?_;refine gA ?_;refine H.Ak (ls:=wRow S 0) rfl rfl rfl fun wb=>?_;refine gR ?_;refine H.pf (x:=row nb _ _) ?_
 refine H.lo (ι:=Nat) (fun i=>[(6,.int .i64 (i:Int)),(2,.pointer (some ⟨sb,0,none⟩)),(3,.pointer (some ⟨nb,0,none⟩)),(4,.pointer (some ⟨ob,0,none⟩)),(5,.pointer (some ⟨wb,0,none⟩))]) (fun _=>f)
  (fun i=>row nb 248 (bytesV bs)::row wb 293 (wRow S i)::row ob 246 (List.replicate 8 (.int .u32 0))::row sb 246 s.vals::F) (fun i=>i ≤ 16) (fun i=>16 - i) 0 (Nat.zero_le _) fun i hi=>?_
 have hi:i ≤ 16:=hi;by_cases hlt:i < 16
 ·have hw:S.getD i 0 = Sha.word bs i:=hlo i hlt;have hset:=wRow_set hS (n:=i) (by omega)
  rw [hw] at hset;unfold Sha.word at hset;refine gG ?_;refine qdA ?_;refine HB.qu [0,1,2,3,4,5,6,7,8,9,10,11,12,13,14,15,16,17,18,19,20,21,22,23,24,25,26,27,28,29,30] 1 ?_;repeat (first | (apply HQ.Bk;(iterate 2 exact rfl);(with_reducible exact u32_ofByte _);exact rfl) | (apply HQ.Ao (i:=4 * i);(iterate 3 exact rfl);omega;omega;exact rfl) | (apply HQ.Ao (i:=4 * i + 1);(iterate 3 exact rfl);omega;omega;exact rfl) | (apply HQ.Ao (i:=4 * i + 2);(iterate 3 exact rfl);omega;omega;exact rfl) | (apply HQ.Ao (i:=4 * i + 3);(iterate 3 exact rfl);omega;omega;exact rfl) | (apply HQ.Ab;(iterate 3 exact rfl);exact .of (Rd.ofRow (by repeat constructor)) (by rw [Nat.mul_one];exact zcd (by omega));exact rfl) | (refine gh ?_) | (apply HQ.Bg;(iterate 3 exact rfl);(with_reducible exact u32_or _ _);(iterate 2 exact rfl)) | (apply HQ.Bo;(iterate 3 exact rfl);(first | with_reducible exact u32_shl24 _ | with_reducible exact u32_shl16 _ | with_reducible exact u32_shl8 _);decide;(iterate 2 exact rfl)) | (apply HQ.Ao (i:=i);(iterate 3 exact rfl);exact rfl;omega;exact rfl))
  refine qdb ?_;refine HB.ev 31 ?_;refine H.Ay (v:=w32 _) (ls':=wRow S (i + 1)) rfl rfl rfl rfl (by repeat constructor) (by rw [Nat.mul_one,Nat.zero_add];exact hset) ?_;refine qdD ?_;refine gD ?_;exact H.ag (i + 1) (by show i + 1 ≤ 16;omega) (by show 16 - (i + 1) < 16 - i;omega)
 ·have hi16:i = 16:=by omega
  subst hi16;refine gL ?_;refine qdS ?_
  refine H.lo (ι:=Nat) (fun j=>[(7,.int .i64 ((j + 16:Nat):Int)),(2,.pointer (some ⟨sb,0,none⟩)),(4,.pointer (some ⟨ob,0,none⟩)),(5,.pointer (some ⟨wb,0,none⟩))]) (fun _=>f)
   (fun j=>row wb 293 (wRow S (j + 16))::row nb 248 (bytesV bs)::row ob 246 (List.replicate 8 (.int .u32 0))::row sb 246 s.vals::F) (fun j=>j ≤ 48) (fun j=>48 - j) 0 (Nat.zero_le _) fun j hj=>?_
  have hj:j ≤ 48:=hj;by_cases hlt:j < 48
  ·have hw:=hhi j hlt;have hset:=wRow_set hS (n:=j + 16) (by omega)
   rw [hw] at hset;have hg:∀ k,k < j + 16→(wRow S (j + 16))[k * 1]? = some (w32 (S.getD k 0)):=fun k hk=>by rw [Nat.mul_one];exact wRow_get hS hk (by omega)
   refine gG ?_;refine qdA ?_;refine HB.qu [0,1,2,3,5,6,7,8,11,12,13,14,15] 5 ?_;repeat (first | (apply HQ.Ao (i:=j + 1);(iterate 3 exact rfl);omega;omega;exact rfl) | (apply HQ.Ab;(iterate 3 exact rfl);exact .of (Rd.ofRow (by repeat constructor)) (hg _ (by omega));exact rfl) | (refine gh ?_) | (apply HQ.Bo;(iterate 3 exact rfl);(with_reducible exact u32_shr3 _);decide;(iterate 2 exact rfl)))
   refine qdb ?_;refine HB.ev 4 ?_;refine H.Af rfl rfl rfl (rot_fn f _ (n:=7) (by decide) (by decide)) ?_;refine qcS ?_;refine HB.ev 9 ?_;refine H.Af rfl rfl rfl (rot_fn f _ (n:=18) (by decide) (by decide)) ?_;refine qcS ?_;refine HB.qu [10,16,17] 0 ?_;refine qdL ?_;refine qdk ?_;refine qfn ?_;refine HB.qu [0,1,2,3,5,6,7,8,11,12,13,14,15] 5 ?_;repeat (first | (apply HQ.Ao (i:=j + 14);(iterate 3 exact rfl);omega;omega;exact rfl) | (apply HQ.Ab;(iterate 3 exact rfl);exact .of (Rd.ofRow (by repeat constructor)) (hg _ (by omega));exact rfl) | (refine gh ?_) | (apply HQ.Bo;(iterate 3 exact rfl);(with_reducible exact u32_shr10 _);decide;(iterate 2 exact rfl)))
   refine qdb ?_;refine HB.ev 4 ?_;refine H.Af rfl rfl rfl (rot_fn f _ (n:=17) (by decide) (by decide)) ?_;refine qcS ?_;refine HB.ev 9 ?_;refine H.Af rfl rfl rfl (rot_fn f _ (n:=19) (by decide) (by decide)) ?_;refine qcS ?_;refine HB.qu [10,16,17] 0 ?_;refine qdL ?_;refine qdk ?_;refine gA ?_;refine H.dc [0,1,2,3,4,5,6,7,8,9,10,11,12,13,14] (S:=[_]) rfl ?_;refine HB.qu [0,1,2,3,4,5,6,7,8,9,10,11,12,13,14] 1 ?_;repeat (first | (apply HQ.Ao (i:=j);(iterate 3 exact rfl);omega;omega;exact rfl) | (apply HQ.Ao (i:=j + 9);(iterate 3 exact rfl);omega;omega;exact rfl) | (apply HQ.Ab;(iterate 3 exact rfl);exact .of (Rd.ofRow (by repeat constructor)) (hg _ (by omega));exact rfl) | (refine gh ?_) | (apply HQ.Ao (i:=j + 16);(iterate 3 exact rfl);exact rfl;omega;exact rfl))
   refine qdo ?_;refine HB.ev 15 ?_;refine qgf ?_;exact H.Aq (j + 1) (by show j + 1 ≤ 48;omega) (by show 48 - (j + 1) < 48 - j;omega) ⟨by show some _ = some (Value.int .i64 ((j + 1 + 16:Nat):Int));rw [show j + 1 + 16 = j + 16 + 1 by omega],rfl,rfl,rfl,trivial⟩ rfl (by show _ = row wb _ (wRow S (j + 1 + 16))::_;rw [show j + 1 + 16 = j + 16 + 1 by omega];rfl)
  ·have hj48:j = 48:=by omega
   subst hj48;refine gL ?_;refine H.Ae (ls:=s.vals) rfl rfl rfl (Rd.ofRow (by repeat constructor)) rfl rfl ?_;refine qgv fun vb=>?_;refine H.Ah (ls:=List.replicate 8 (.int .u32 0)) (vs:=s.vals) (ls':=s.vals) rfl rfl rfl (zaa rfl) rfl rfl (Nat.le_refl 8) (by repeat constructor) ?_;refine gA ?_;refine H.Af rfl rfl rfl (k_fn2 f _) ?_;refine H.Ak (ls:=List.replicate 64 (.int .u32 0)) rfl rfl rfl fun kb=>?_;refine qfZ ?_;have hgS:∀ k,k < 64→(wRow S (48 + 16))[k * 1]? = some (w32 (S.getD k 0)):=fun k hk=>by rw [Nat.mul_one];exact wRow_get hS (by omega) (by omega)
   have hgK:∀ k,k < 64→(Sha.k.map w32)[k * 1]? = some (w32 (Sha.k.getD k 0)):=fun k hk=>by rw [Nat.mul_one];exact map_get w32 hk 0
   generalize wRow S (48 + 16) = WL at hgS ⊢;generalize hKL:Sha.k.map w32 = KL at hgK ⊢;refine H.pd (x:=row nb _ _) ?_;refine H.pf (x:=row vb _ _) ?_
   refine H.lo (ι:=Nat) (fun i=>[(12,.int .i64 (i:Int)),(10,.pointer (some ⟨vb,0,none⟩)),(11,.pointer (some ⟨kb,0,none⟩)),(2,.pointer (some ⟨sb,0,none⟩)),(4,.pointer (some ⟨ob,0,none⟩)),(5,.pointer (some ⟨wb,0,none⟩))]) (fun _=>f)
    (fun i=>row vb 246 (Sha.rounds S s i).vals::row kb 293 KL::row wb 293 WL::row ob 246 (List.replicate 8 (.int .u32 0))::row sb 246 s.vals::F) (fun i=>i ≤ 64) (fun i=>64 - i) 0 (Nat.zero_le _) fun i hi=>?_
   have hi:i ≤ 64:=hi;by_cases hlt:i < 64
   ·have hr:Sha.rounds S s (i + 1) = Sha.round (Sha.k.getD i 0) (S.getD i 0) (Sha.rounds S s i):=rfl;have hgs:=hgS i hlt
    have hgk:=hgK i hlt;generalize Sha.k.getD i 0 = kk at hr hgk
    generalize S.getD i 0 = ww at hr hgs;show H _ _ _ _ _ (row vb _ (Sha.rounds S s i).vals::_) _;generalize Sha.rounds S s i = v at hr ⊢;repeat (first | (refine gg ?_) | (apply H.index_arrT;(iterate 3 exact rfl);decide;exact rfl))
    refine H.db (S:=[_,_,_]) rfl ?_;refine HB.qu [0,1,2,4,7,11,12,13,14,15,16,17,18,19,20,22,23,24,26,27,28] 10 ?_;repeat (first | (apply HQ.Ao (i:=i);(iterate 3 exact rfl);exact rfl;exact hlt;exact rfl) | (apply HQ.Ab;(iterate 3 exact rfl);exact .of (Rd.ofRow (by repeat constructor)) hgk;exact rfl) | (apply HQ.Ab;(iterate 3 exact rfl);exact .of (Rd.ofRow (by repeat constructor)) hgs;exact rfl) | (refine gh ?_) | (apply HQ.Bg;(iterate 3 exact rfl);(first | with_reducible exact zbq _ _ | with_reducible exact u32_and _ _);(iterate 2 exact rfl)) | (apply HQ.flip;(iterate 2 exact rfl);exact u32_not _;(iterate 2 exact rfl)) | (apply HQ.index_arrT;(iterate 3 exact rfl);decide;exact rfl))
    refine qdb ?_;refine HB.ev 3 ?_;refine H.Af rfl rfl rfl (rot_fn f _ (n:=6) (by decide) (by decide)) ?_;refine qcS ?_;refine HB.ev 5 ?_;refine H.Af rfl rfl rfl (rot_fn f _ (n:=11) (by decide) (by decide)) ?_;refine qcS ?_;refine HB.qu [6] 7 ?_;refine qfA ?_;refine HB.ev 8 ?_;refine H.Af rfl rfl rfl (rot_fn f _ (n:=25) (by decide) (by decide)) ?_;refine qcS ?_;refine HB.qu [9,10,21,25,29,30] 0 ?_;refine qdL ?_;refine qdk ?_;refine gA ?_;refine H.db (S:=[_,_,_]) rfl ?_;refine HB.qu [0,2,5,8,9,10,11,12,13,14,15,16,17,18,19,20,21,22] 7 ?_;repeat (first | (refine gh ?_) | (apply HQ.Bg;(iterate 3 exact rfl);(first | with_reducible exact zbq _ _ | with_reducible exact u32_and _ _);(iterate 2 exact rfl)) | (apply HQ.index_arrT;(iterate 3 exact rfl);decide;exact rfl))
    refine qdb ?_;refine HB.ev 1 ?_;refine H.Af rfl rfl rfl (rot_fn f _ (n:=2) (by decide) (by decide)) ?_;refine qcS ?_;refine HB.ev 3 ?_;refine H.Af rfl rfl rfl (rot_fn f _ (n:=13) (by decide) (by decide)) ?_;refine qcS ?_;refine HB.qu [4] 4 ?_;refine qfA ?_;refine HB.ev 6 ?_;refine H.Af rfl rfl rfl (rot_fn f _ (n:=22) (by decide) (by decide)) ?_;refine qcS ?_;refine HB.qu [7,23,24] 0 ?_;refine qdL ?_;refine qdk ?_;repeat (first | (refine gg ?_) | (apply H.index_arrT;(iterate 3 exact rfl);decide;exact rfl))
    refine H.buildA (out:=(Sha.round kk ww v).vals) rfl rfl rfl rfl rfl ?_;refine H.Ah (ls:=v.vals) (vs:=(Sha.round kk ww v).vals) (ls':=(Sha.round kk ww v).vals) rfl rfl rfl (zaa rfl) rfl rfl (Nat.le_refl 8) (by repeat constructor) ?_;refine gD ?_;exact H.Aq (i + 1) (by show i + 1 ≤ 64;omega) (by show 64 - (i + 1) < 64 - i;omega) ⟨rfl,rfl,rfl,rfl,rfl,rfl,trivial⟩ rfl (by rw [hr];rfl)
   ·have hi64:i = 64:=by omega
    subst hi64;generalize Sha.rounds S s 64 = v;refine gL ?_;refine H.pd (x:=row kb _ _) ?_;refine H.pd (x:=row wb _ _) ?_;refine H.pf (x:=row sb _ _) ?_;refine H.pf (x:=row vb _ _) ?_
    refine H.lo (ι:=Nat) (fun i=>[(17,.int .i64 (i:Int)),(10,.pointer (some ⟨vb,0,none⟩)),(2,.pointer (some ⟨sb,0,none⟩)),(4,.pointer (some ⟨ob,0,none⟩))]) (fun _=>f)
     (fun i=>row vb 246 (addRow v s i)::row sb 246 s.vals::row ob 246 (List.replicate 8 (.int .u32 0))::F) (fun i=>i ≤ 8) (fun i=>8 - i) 0 (Nat.zero_le _) fun i hi=>?_
    have hi:i ≤ 8:=hi;by_cases hlt:i < 8
    ·have hset:=addRow_set v s hlt;have hg:=addRow_get v s hlt
     have hg2:=Sha.S8.get_vals s hlt;show H _ _ _ _ _ (row vb _ (addRow v s i)::_) _
     refine gG ?_;refine H.dc [0,1,2,3,4,5,6,7,8] (S:=[_,_]) rfl ?_;refine HB.qu [0,1,2,3,4,5,6,7,8] 1 ?_;repeat (first | (apply HQ.Ao (i:=i);(iterate 3 exact rfl);exact rfl;exact hlt;exact rfl) | (apply HQ.Ab;(iterate 3 exact rfl);exact .of (Rd.ofRow (by repeat constructor)) (by rw [Nat.mul_one];exact hg);exact rfl) | (apply HQ.Ab;(iterate 3 exact rfl);exact .of (Rd.ofRow (by repeat constructor)) (by rw [Nat.mul_one];exact hg2);exact rfl) | (refine gh ?_))
     refine qdo ?_;refine HB.ev 9 ?_;refine H.Ay (v:=w32 _) (ls':=addRow v s (i + 1)) rfl rfl rfl rfl (by repeat constructor) (by rw [Nat.mul_one,Nat.zero_add];exact hset) ?_;refine qdD ?_;refine gD ?_;exact qbM
    ·have hi8:i = 8:=by omega
     subst hi8;refine qeJ ?_;refine H.pd (x:=row vb _ _) ?_;refine H.pd (x:=row sb _ _) ?_;exact qae
end
end Go.Proofs.YtminmjlfmolfeaaGreatDoor

namespace Go.Proofs.YtminmjlfmolfeaaGreatDoor
open Go Go.ChangeShapes Go.WideShapes Go.RowKit Go.Deep
def IntsAt (f:Frag) (g:Nat) (k:IntKind) (zs:List Int):Prop:=∃ (cs:Array Value) (T:TypeId) (fr:Nat × Nat),f g = some (.cells cs T fr) ∧ ∀ (i:Nat) (z:Int),zs[i]? = some z→cs[i]? = some (.int k z)
variable {f:Frag} {g:Nat} {zs:List Int}
theorem IntsAt.mono {f':Frag} {k:IntKind} (hle:Le f f') (h:IntsAt f g k zs):IntsAt f' g k zs:=by
 obtain ⟨cs,T,fr,h1,h2⟩:=h;exact ⟨cs,T,fr,hle g _ h1,h2⟩
theorem IntsAt.rd {A:List HP} {k:IntKind} (h:IntsAt f g k zs) {i:Nat} {z:Int} (hz:zs[i]? = some z):Rd1 f A g i (.int k z):=by
 obtain ⟨cs,T,fr,h1,h2⟩:=h;exact Rd1.imm h1 (h2 i z hz)
variable {P:Program}
theorem laid_ints {W:World} {name:String} {t e:TypeId} {k:IntKind} (h:laidMetH P [(name,.agg (zs.map fun z=>.lit (.int k z)))] W)
  (hg:P.globalNamed name = some g) (ht:(P.globals[g]?).map (·.type) = some t) (hu:P.underlying t = some (.array zs.length e)) (he:P.underlying e = some (.int k)) (h1:P.cellsOf e = 1):IntsAt (memOf W) g k zs:=by
 rw [MakeChecks.laidMetH_plain _ _ _ rfl] at h;obtain ⟨ps,⟨g0,t0,cs0,f0,p0,q0,hg0,ht0,hv0,hd0,_,_⟩,_,_⟩:=h;obtain rfl:=Option.some.inj (hg.symm.trans hg0);obtain rfl:=Option.some.inj (ht.symm.trans ht0);obtain ⟨xs,m1,rfl,hx1,hlen,hn,hel⟩:=DataW.trod_array hu hd0;simp only [Prod.mk.injEq,DataW.agg.injEq] at hx1
 have hh:∃ T fr,W.heap[g]? = some (.cells cs0 T fr):=by
  simp only [World.var?,hg,Option.bind_some] at hv0;split at hv0
  ·rename_i cs T fr hw
   cases hv0
   exact ⟨T,fr,hw⟩
  ·cases hv0
 obtain ⟨T,fr,hw⟩:=hh;refine ⟨cs0,T,fr,hw,fun i z hz=>?_⟩;have hi:i < zs.length:=(List.getElem?_eq_some_iff.1 hz).1;have h2:=hel i hi
 have h3:(xs.map (·.1))[i]? = some (.lit (.int k z)):=by rw [← hx1.1,List.getElem?_map,hz];rfl
 rw [List.getElem?_map] at h3
 cases hxi:xs[i]? with
 | none=>rw [hxi] at h3;cases h3
 | some x =>
  rw [hxi] at h2 h3;simp only [Option.map_some,Option.some.injEq] at h3;obtain ⟨n,e1,e2,_⟩:=DataW.trod_int he h2;rw [h1,Nat.mul_one] at e1
  have hn:n = z:=by
   rw [e2] at h3;simpa using h3
  subst hn
  have h4:(cs0.toList.drop i)[0]? = some (.int k n):=by
   have:((cs0.toList.drop i).take 1)[0]? = some (.int k n):=by rw [e1];rfl
   rwa [List.getElem?_take_of_lt (by decide)] at this
  rw [List.getElem?_drop,Nat.add_zero] at h4;simpa using h4
variable {fn:Func}
theorem params_plain (h:(fn.params.toList.all fun t=>!P.wantsStandIn t) = true):∀ (j:Nat) t,fn.params[j]? = some t→P.wantsStandIn t = false:=fun j t ht=>by
 have:=List.all_eq_true.1 h t (Array.mem_toList_iff.2 (Array.mem_of_getElem? ht))
 simpa using this
theorem lawRowL {H':Type} {enc:TypeId × Value→H'} {a:Assume} {C:Checked} {os:Os} {fid:FuncId} {s:ChangeSpec} {conds:List PathCond} {apart fresh handsOn again:Bool} {tb:TypeId} {laid:List (String × DataW Unit)}
  (own:ownKnob C.prog.godebug = none) (started:os.Started) (noInit:C.prog.inits.idxOf? fid = none) (hfn:C.prog.funcs[fid]? = some fn)
  (witness : ∃ (w : World) (tape : Tape) (i : Input), w.os = os ∧ (w.forCall tape i).Shaped C.prog ∧ i.vars = [] ∧ Input.okWide C.prog (w.forCall tape i) .any w.heap.size fid i ∧
   ((s.pre enc C.prog fn conds apart (w.forCall tape i).memory i.args ∧ laidMetH C.prog laid (w.forCall tape i).memory) ∧ sizedMet enc C.prog fn (OpenSpec.ofChange s) apart (w.forCall tape i).memory i.args) ∧ a.holds C.prog (lone (Frame.enter C.prog fid i.args .normal) [] (w.forCall tape i)))
  (htb:C.prog.underlying tb = some .bool) (hres:fn.resultTypes = #[tb]) (hv:s.vars = []) (hl:laidOutB C.prog = true)
  (hts:fn.params.toList.all (fun t=>C.prog.readableRec t && Nat.blt t C.prog.types.size) = true)
  (hs:∀ ds:List (DataW H'),ds.length = fn.params.toList.length→s.fn H' ds = { results:=[.lit (.bool true)],args:=ds })
  (law:∀ (W:World) (args:List Value),ArgsOk C.prog W fn.params.toList args→laidMetH C.prog laid W→Fn C.prog fid args (memOf W) [] (Ret (.bool true) (memOf W) [])) :
  ReturnsInHanded a C os fid .any (fun w args=>(s.pre enc C.prog fn conds apart w args ∧ laidMetH C.prog laid w) ∧ sizedMet enc C.prog fn (OpenSpec.ofChange s) apart w args) (s.post enc C.prog fn apart fresh handsOn again):=by
 refine returnsInHanded_of_change_and (X:=fun w _=>laidMetH C.prog laid w) (fun _ _ _ hh h=>h.of_heap hh) own started noInit hfn witness ?_;intro W base args ds gs before hval hW _ _ hL _;have hW':=hW;obtain ⟨p,q,hA,hV,rfl,_,_⟩:=hW
 rw [hv] at hV;obtain ⟨rfl,rfl⟩:=trodVars_none hV;rw [List.append_nil] at hW'
 have hts':∀ t ∈ fn.params.toList,C.prog.readableRec t = true ∧ t < C.prog.types.size:=fun t ht=>by
  have:=List.all_eq_true.1 hts t ht;simp only [Bool.and_eq_true] at this
  exact ⟨this.1,by have:=this.2;simpa [Nat.blt_eq] using this⟩
 have hlen:=trodAll_len hA;have e:=hs ds hlen
 have hc:=law W args.toList (argsOk_of hA fun j t v h1 h2=>⟨base,hval j t v (by simpa using h1) (by simpa using h2)⟩) hL W W (sat_start W);refine hc.mono ?_
 rintro x w' ⟨v,f',A',rfl,⟨rfl,rfl,rfl⟩,hsat⟩;refine ⟨_,rfl,post_own hW' hv hA hl hts' ?_ (by rw [List.append_nil,e]) (by rw [List.append_nil,e]) hsat.below ?_⟩
 ·intro b sp hd;rw [List.append_nil,e,hres];exact trodAll_mk1 (shut_bool htb true)
 ·exact ok_one hres rfl (okWide_bool_mk htb true)
end Go.Proofs.YtminmjlfmolfeaaGreatDoor

namespace Go.Proofs.YtminmjlfmolfeaaGreatDoor
open Go
/-! ### Keys that are structs or arrays -/
variable {kt:TypeId}
section keys
variable {P:Program}
theorem offs_le {n : Nat} : ∀ (fs : List Field) (o : Nat), shp.offs P fs o n = true → o ≤ n ∧ ∀ f ∈ fs, f.name ≠ "_" ∧ f.offset + P.cellsOf f.type ≤ n
 | [], o, h => by
  have e:o = n:=Nat.eq_of_beq_eq_true h
  exact ⟨by omega,fun f hf=>by cases hf⟩
 | f :: fs, o, h => by
  simp only [shp.offs,Bool.and_eq_true,bne_iff_ne,ne_eq] at h
  obtain ⟨⟨hn,he⟩,hr⟩:=h
  have he':f.offset = o:=Nat.eq_of_beq_eq_true he
  subst he'
  obtain ⟨h1,h2⟩:=offs_le fs _ hr
  refine ⟨by omega,fun g hg=>?_⟩
  rcases List.mem_cons.1 hg with rfl | hg
  ·exact ⟨hn,h1⟩
  ·exact h2 g hg
theorem run_checkKey_shp (em:Bool) (w:World):∀ (d D:Nat) (t:TypeId) (xs:List Value),shp P D t xs = true→D ≤ d→(Instr.checkKey em d t (mkV P t xs)).run P w = .ok () w
 | 0, D, t, xs, h, hd => by
  have:D = 0:=by omega
  subst this
  simp [shp] at h
 | d + 1, D, t, xs, h, hd => by
  by_cases h1:∃ n e',P.underlying t = some (.array n e')
  ·obtain ⟨n,e,hu⟩:=h1
   obtain ⟨⟨i,hi⟩,l1,D1,rfl,s1⟩:=shp_len hu h
   have hm:mkV P t xs = .agg xs.toArray:=by simp [mkV,hu]
   rw [hm,Instr.checkKey]
   simp only [Sem.run_bind,run_underlying hu,Result.andThen_ok]
   simp only [Std.Legacy.Range.forIn_eq_forIn_range',Std.Legacy.Range.size,Nat.sub_zero,Nat.add_one_sub_one,Nat.div_one]
   have each:∀ j ∈ List.range' 0 n,j < n:=fun j hj=>by simp [List.mem_range'_1] at hj;omega
   generalize List.range' 0 n = is at each
   induction is with
   | nil=>simp
   | cons j is ih =>
    have hj:=each j (by simp)
    have hle:j * P.cellsOf e + P.cellsOf e ≤ xs.length:=by
     rw [l1]
     have:=Nat.mul_le_mul_right (P.cellsOf e) (show j + 1 ≤ n from hj);rwa [Nat.add_mul,Nat.one_mul] at this
    have p1:=zcb w (s1 j hj) hle
    have p2:=run_checkKey_shp em w d D1 e _ (s1 j hj) (by omega)
    simp only [List.forIn_cons,Sem.run_bind,run_sizeOf w hi,Result.andThen_ok,p1,p2,Sem.run_pure]
    exact ih (fun y hy=>each y (by simp [hy]))
  ·by_cases h2 : ∃ fs, P.underlying t = some (.struct fs)
   ·obtain ⟨fs,hu⟩:=h2
    obtain ⟨n1,l1,o1,D1,rfl,s1⟩:=shp_str hu h
    have hm:mkV P t xs = .agg xs.toArray:=by simp [mkV,hu]
    rw [hm,Instr.checkKey]
    simp only [Sem.run_bind,run_underlying hu,Result.andThen_ok]
    rw [← Array.forIn_toList]
    have each:=(offs_le fs.toList 0 o1).2
    generalize fs.toList = L at each s1
    induction L with
    | nil=>simp
    | cons f L ih =>
     obtain ⟨hn,hle⟩:=each f (by simp)
     have p1:=zcb w (s1 f (by simp)) hle
     have p2:=run_checkKey_shp em w d D1 f.type _ (s1 f (by simp)) (by omega)
     simp only [List.forIn_cons,Sem.run_bind,hn,ne_eq,not_false_eq_true,if_true,Result.andThen_ok,p1,p2,Sem.run_pure]
     exact ih (fun y hy=>each y (by simp [hy])) (fun y hy=>s1 y (by simp [hy]))
   ·obtain ⟨hpk,v,rfl,hmk,_⟩:=shp_plain h (fun n e hu=>h1 ⟨n,e,hu⟩) (fun fs hu=>h2 ⟨fs,hu⟩)
    rw [hmk]
    unfold Program.plainKey at hpk
    cases hu:P.underlying t with
    | none=>simp [hu] at hpk
    | some k=>cases k <;> simp [hu] at hpk <;> simp [Instr.checkKey,run_underlying hu]
def plnC:List Value→Bool
 | []=>true
 | v::r=>(match v with | .bool _ | .int _ _ | .string _=>true | _=>false) && plnC r
theorem plnC_mem:∀ {l:List Value},plnC l = true→∀ m,(l.zip l).all (fun (x,y)=>Instr.sameBits (m + 1) x y) = true
 | [],_,m=>rfl
 | v :: r, h, m => by
  simp only [plnC,Bool.and_eq_true] at h
  simp only [List.zip_cons_cons,List.all_cons,plnC_mem h.2 m,Bool.and_true]
  cases v <;> simp at h <;> simp [Instr.sameBits]
  rw [beq_toListBytes];simp
theorem keyT_agg {κ:Type} [DecidableEq κ] {cellsK:κ→List Value} {D:Nat} (hwide:(match P.underlying kt with | some (.array _ _) | some (.struct _)=>true | _=>false) = true)
  (hs:∀ k,shp P D kt (cellsK k) = true) (hD:D ≤ 10000) (he:∀ a b,eqC (cellsK a) (cellsK b) = decide (a = b)) (hp:∀ k,plnC (cellsK k) = true):KeyT P kt (fun k:κ=>Value.agg (cellsK k).toArray) where
 chk:=fun k e w=>by
  have hm:mkV P kt (cellsK k) = .agg (cellsK k).toArray:=by unfold mkV;split at hwide <;> simp_all
  rw [← hm]
  exact run_checkKey_shp e w 10000 D kt _ (hs k) hD
 same:=fun k=>by
  show Instr.sameBits (9999 + 1) _ _ = true
  simp only [Instr.sameBits,beq_self_eq_true,Bool.true_and]
  exact plnC_mem (hp k) 9998
 fnd:=fun k es ks w h=>by
  rw [run_findKey_eq w hwide]
  have hm:∀ k,mkV P kt (cellsK k) = .agg (cellsK k).toArray:=fun k=>by unfold mkV;split at hwide <;> simp_all
  have heq:∀ a b:κ,(Op.equal kt (.agg (cellsK a).toArray) (.agg (cellsK b).toArray)).run P w = .ok (decide (a = b)) w:=fun a b=>by
   have h3:=zbl 10000 kt w D D _ _ (hs a) (hs b) hD
   rw [hm,hm,he] at h3
   exact h3
  have key:∀ (es:List MapEntry) (ks:List κ) (j:Nat),es.map (·.key) = ks.map (fun k:κ=>Value.agg (cellsK k).toArray) →
    (Instr.findAsking kt (.agg (cellsK k).toArray) es j).run P w = .ok ((ks.findIdx? (k = ·)).bind fun i=>(es[i]?).map fun e=>(j + i,e.val)) w:=by
   intro es
   induction es with
   | nil=>intro ks j h;cases ks <;> simp at h;simp [Instr.findAsking]
   | cons e r ih =>
    intro ks j h
    cases ks with
    | nil=>simp at h
    | cons k' ks =>
     simp only [List.map_cons,List.cons.injEq] at h;simp only [Instr.findAsking,h.1,Sem.run_bind,heq,Result.andThen_ok,List.findIdx?_cons];by_cases c:k = k'
     ·simp [c]
     ·simp only [c,decide_false,Bool.false_eq_true,if_false,ih ks (j + 1) h.2]
      cases ks.findIdx? (k = ·) with
      | none=>simp
      | some i=>simp [Nat.add_assoc,Nat.add_comm 1]
  have:=key es ks 0 h
  simpa only [Nat.zero_add] using this
end keys
/-! ### A map with its entries told; a loop over it -/
variable {b clock r:Nat} {h:Frag} {w:World} {A' F:List HP} {y:HP} {t:TypeId} {x:Operand}
section loops
variable {P:Program} {base:World} {n:Nat} {L:Env} {f:Frag} {A:List HP} {q:Post}
variable {l rest:List Oper} {d:Nat} {ty:TypeId} {pos:String} {af:Array Edge} {gd:Option (Nat × Bool)}
variable {κ:Type} [DecidableEq κ] {enc:κ→Value}
structure MapOk (es:List (κ × Value × Nat)) (clock:Nat):Prop where
 keys:(es.map (·.1)).Nodup
 stamps:(es.map (·.2.2)).Nodup
 below:∀ e ∈ es,e.2.2 < clock
def mpS (b:Nat) (enc:κ→Value) (es:List (κ × Value × Nat)) (clock:Nat):HP:=fun h=>MapOk es clock ∧ h = sing b (.map (es.map (entOf enc)).toArray clock)
theorem mpS_mp {es:List (κ × Value × Nat)} (hh:mpS b enc es clock h):mp b enc (es.map kvOf) h:=
 ⟨es,clock,rfl,hh.1.keys,hh.1.stamps,hh.1.below,hh.2⟩
theorem mp_mpS {m:List (κ × Value)} (hh:mp b enc m h):∃ (es:List (κ × Value × Nat)) (clock:Nat),es.map kvOf = m ∧ mpS b enc es clock h:=by
 obtain ⟨es,clock,a1,a2,a3,a4,a5⟩:=hh;exact ⟨es,clock,a1,⟨a2,a3,a4⟩,a5⟩
theorem Sat.mpS_at {es:List (κ × Value × Nat)} (s:Sat base w f A) (h:At A (mpS b enc es clock) A' y):MapOk es clock ∧ w.heap[b]? = some (.map (es.map (entOf enc)).toArray clock):=by
 obtain ⟨R,h1,_⟩:=h.split;obtain ⟨x,hm,_,hw⟩:=s.mem;rw [h1] at hm;obtain ⟨m1,m2,_,rfl,⟨a1,rfl⟩,_⟩:=hm;exact ⟨a1,hw b _ (by simp [un,sing])⟩
theorem mpS_fold {es:List (κ × Value × Nat)}:∀ x,stars (mpS b enc es clock::F) x→stars (mp b enc (es.map kvOf)::F) x:=fun x hx=>by
 obtain ⟨m1,m2,dd,e,a,r⟩:=hx
 exact ⟨m1,m2,dd,e,mpS_mp a,r⟩
theorem Fn.openMap {fid:FuncId} {args:List Value} {R:Value→Frag→List HP→Prop} {m:List (κ × Value)} (k:∀ (es:List (κ × Value × Nat)) (clock:Nat),es.map kvOf = m→Fn P fid args f (mpS b enc es clock::A) R):Fn P fid args f (mp b enc m::A) R:=
 Fn.unfold (ι:={ i:List (κ × Value × Nat) × Nat // i.1.map kvOf = m }) (B:=fun i=>[mpS b enc i.1.1 i.1.2]) (fun h hh=>by
  obtain ⟨es,clock,a1,a2⟩:=mp_mpS hh
  refine ⟨⟨(es,clock),a1⟩,?_⟩
  simp only [stars,star_emp]
  exact a2) fun i=>k i.1.1 i.1.2 i.2
def itr (r b:Nat) (es:List (κ × Value × Nat)) (clock:Nat) (seen:List κ):HP:=fun h =>
 ∃ sA:Array Nat,(∀ e ∈ es,sA.contains e.2.2 = true ↔ e.1 ∈ seen) ∧ (∀ k r,seen = k::r→∃ e ∈ es,e.1 = k ∧ sA.back? = some e.2.2) ∧ h = sing r (.mapIter (some b) clock sA clock)
theorem H.range {et:TypeId} {es:List (κ × Value × Nat)} [hu:Und P t (.map kt et)] (hw:want? l L gd = true)
  (hx:ev? L x = some (.map (some b))) (hA:At A (mpS b enc es clock) A' (mpS b enc es clock)) (hd:Nat.ble (d + 1) n = true)
  (kk:∀ r,H P base n ((d,.pointer (some ⟨r,0,none⟩))::L) f (itr r b es clock []::A) (.ops l rest q)):H P base n L f A (.ops l (⟨some d,.range t x,ty,pos,af,gd⟩::rest) q):=
 H.opE (fun r:Nat=>.pointer (some ⟨r,0,none⟩)) (fun _=>f) (fun r=>itr r b es clock []::A) (fun _=>True) hw hd (fun a w hfr s=>by
  obtain ⟨ho,hb⟩:=s.mpS_at hA
  refine ⟨w.heap.size,w.alloc (.mapIter (some b) clock #[] clock),trivial,?_,?_⟩
  ·have h:=run_range_map w t kt et b _ clock hu.eq hb
   simp only [execOp,hfr.eval hx,Sem.run_bind,h,Result.andThen_ok,Sem.run_pure]
  ·have s1:Sat base (w.alloc (.mapIter (some b) clock #[] clock)) f (pts w.heap.size (.mapIter (some b) clock #[] clock)::A):=s.alloc rfl rfl rfl rfl
   refine s1.imp fun h hh=>?_
   obtain ⟨m1,m2,dd,e,a1,a2⟩:=hh
   exact ⟨m1,m2,dd,e,⟨#[],(fun e _=>by simp),(fun k r hk=>by cases hk),a1⟩,a2⟩) (fun r _=>kk r)
theorem Sat.itr_at {es:List (κ × Value × Nat)} {seen:List κ} (s:Sat base w f A) (h:At A (itr r b es clock seen) A' y) :
  ∃ sA:Array Nat,(∀ e ∈ es,sA.contains e.2.2 = true ↔ e.1 ∈ seen) ∧ (∀ k r,seen = k::r→∃ e ∈ es,e.1 = k ∧ sA.back? = some e.2.2) ∧ w.heap[r]? = some (.mapIter (some b) clock sA clock):=by
 obtain ⟨R,h1,_⟩:=h.split;obtain ⟨x,hm,_,hw⟩:=s.mem;rw [h1] at hm;obtain ⟨m1,m2,_,rfl,⟨sA,a1,a2,rfl⟩,_⟩:=hm;exact ⟨sA,a1,a2,hw r _ (by simp [un,sing])⟩
theorem run_next_itr {es:List (κ × Value × Nat)} {sA:Array Nat} (ho:MapOk es clock) (hb:w.heap[b]? = some (.map (es.map (entOf enc)).toArray clock)) (hr:w.heap[r]? = some (.mapIter (some b) clock sA clock)) :
  ((∀ e ∈ es,sA.contains e.2.2 = true) ∧ (Instr.next (.pointer (some ⟨r,0,none⟩)) false ty).run P w = .ok (.tuple #[.bool false]) w) ∨
  ∃ e ∈ es,sA.contains e.2.2 = false ∧ ∃ w1:World,w1.heap = w.heap ∧ w1.os = w.os ∧ w1.output = w.output ∧ w1.tape = w.tape ∧
   (Instr.next (.pointer (some ⟨r,0,none⟩)) false ty).run P w = .ok (.tuple #[.bool true,enc e.1,e.2.1]) { w1 with heap:=w1.heap.setIfInBounds r (.mapIter (some b) clock (sA.push e.2.2) clock) }:=by
 have hold:∀ x ∈ (es.map (entOf enc)).toArray.toList,x.born < clock:=fun x hx=>by
  simp only [List.mem_map] at hx;obtain ⟨e,he,rfl⟩:=hx;exact ho.below e he
 simp only [Instr.next,getObj,Sem.run_bind,Sem.run,hr,hb,Result.andThen,next_test_false sA (es.map (entOf enc)).toArray clock clock hold (Nat.le_refl _),Bool.false_eq_true,if_false];have hmem:∀ x ∈ (Array.filter (fun e=>!sA.contains e.born) (es.map (entOf enc)).toArray).toList,x.born < clock:=fun x hx=>hold x (by simp at hx ⊢;exact hx.1)
 have hin:∀ x ∈ (Array.filter (fun e=>!sA.contains e.born) (es.map (entOf enc)).toArray),∃ e ∈ es,x = entOf enc e ∧ sA.contains e.2.2 = false:=fun x hx=>by
  have h:=Array.mem_filter.1 hx;obtain ⟨e,he,rfl⟩:=List.mem_map.1 (List.mem_toArray.1 h.1)
  exact ⟨e,he,rfl,by simpa [entOf] using h.2⟩
 have hall:(Array.filter (fun e=>!sA.contains e.born) (es.map (entOf enc)).toArray) = #[]→∀ e ∈ es,sA.contains e.2.2 = true:=fun h2 e he=>by
  rw [Array.filter_eq_empty_iff] at h2;have h3:=h2 (entOf enc e) (List.mem_toArray.2 (List.mem_map.2 ⟨e,he,rfl⟩))
  cases hc:sA.contains e.2.2 with
  | true=>rfl
  | false=>exact absurd (by show (!sA.contains e.2.2) = true;rw [hc];rfl) h3
 generalize Array.filter (fun e=>!sA.contains e.born) (es.map (entOf enc)).toArray = L at hmem hin hall ⊢;have e1:L.filter (fun x=>decide (x.born < clock)) = L:=Array.filter_eq_self.2 (fun x hx=>by simpa using hmem x (by simpa using hx))
 have e2:L.filter (fun x=>decide (x.born ≥ clock)) = #[]:=by
  rw [Array.filter_eq_empty_iff];intro x hx
  have:=hmem x (by simpa using hx);simp
  omega
 simp only [e1,e2,Array.append_empty];by_cases h0:L.size = 0
 ·left;have:L = #[]:=Array.eq_empty_of_size_eq_zero h0;refine ⟨hall this,?_⟩
  subst this;simp [choose,Sem.run,Question.forced]
 ·right;have hne:L.isEmpty = false:=by simp [Array.isEmpty,h0]
  simp only [hne,Bool.false_eq_true,if_false,Array.empty_append,Array.size_map]
  have hch:∃ (j:Nat) (w1:World),j < L.size ∧ w1.heap = w.heap ∧ w1.os = w.os ∧ w1.output = w.output ∧ w1.tape = w.tape ∧ (choose (Question.mapNext L.size)).run P w = .ok j w1:=by
   by_cases hf:L.size ≤ 1
   ·exact ⟨0,w,by omega,rfl,rfl,rfl,rfl,by simp [choose,Sem.run,Question.forced,hf]⟩
   ·exact ⟨_,w.drew,Nat.mod_lt _ (by omega),rfl,rfl,rfl,rfl,by
     simp only [choose,Sem.run,Question.forced,decide_eq_true_eq,hf,if_false,Question.cut]
     rfl⟩
  obtain ⟨j,w1,hj,q1,q2,q3,q4,hrun⟩:=hch;obtain ⟨e,he,hx,hc⟩:=hin L[j] (Array.getElem_mem hj);refine ⟨e,he,hc,w1,q1,q2,q3,q4,?_⟩
  have hset:∀ o':Obj,(setObj r o').run P w1 = .ok () { w1 with heap:=w1.heap.setIfInBounds r o' }:=fun o'=>by
   simp only [setObj,Sem.run,q1,hr]
  simp only [hrun,Array.getElem?_map,Array.getElem?_eq_getElem hj,Option.map_some,Sem.run_bind,hset,Result.andThen,hx];rfl
theorem map_inj {α β:Type} (g:α→β):∀ {l:List α},(l.map g).Nodup→∀ {x y:α},x ∈ l→y ∈ l→g x = g y→x = y
 | [],_,x,_,hx,_,_=>by cases hx
 | z :: l, h, x, y, hx, hy, e => by
  have h':=List.nodup_cons.1 h
  rcases List.mem_cons.1 hx with h1 | h1
  ·rcases List.mem_cons.1 hy with h2 | h2
   ·rw [h1,h2]
   ·exact absurd (List.mem_map.2 ⟨y,h2,by rw [← e,h1]⟩) h'.1
  ·rcases List.mem_cons.1 hy with h2 | h2
   ·exact absurd (List.mem_map.2 ⟨x,h1,by rw [e,h2]⟩) h'.1
   ·exact map_inj g h'.2 h1 h2 e
theorem H.next {es:List (κ × Value × Nat)} {seen:List κ} {A1 A2:List HP} {A':κ→List HP} (hw:want? l L gd = true)
  (hx:ev? L x = some (.pointer (some ⟨r,0,none⟩))) (hm:At A (mpS b enc es clock) A1 (mpS b enc es clock)) (hi:At A (itr r b es clock seen) A2 (itr r b es clock seen)) (hA:∀ k,At A (itr r b es clock seen) (A' k) (itr r b es clock (k::seen))) (hd:Nat.ble (d + 1) n = true)
  (kend:(∀ e ∈ es,e.1 ∈ seen)→H P base n ((d,.tuple #[.bool false])::L) f A (.ops l rest q))
  (kk:∀ e ∈ es,e.1 ∉ seen→H P base n ((d,.tuple #[.bool true,enc e.1,e.2.1])::L) f (A' e.1) (.ops l rest q)):H P base n L f A (.ops l (⟨some d,.next x false,ty,pos,af,gd⟩::rest) q):=
 H.opE (ι:=Option (κ × Value × Nat)) (fun i=>match i with | none=>.tuple #[.bool false] | some e=>.tuple #[.bool true,enc e.1,e.2.1]) (fun _=>f) (fun i=>match i with | none=>A | some e=>A' e.1)
  (fun i=>match i with | none=>∀ e ∈ es,e.1 ∈ seen | some e=>e ∈ es ∧ e.1 ∉ seen) hw hd (fun a w hfr s=>by
  obtain ⟨ho,hb⟩:=s.mpS_at hm
  obtain ⟨sA,a1,a2,hr⟩:=s.itr_at hi
  rcases run_next_itr (P:=P) (ty:=ty) ho hb hr with ⟨b1,b2⟩ | ⟨e,he,hc,w1,q1,q2,q3,q4,b2⟩
  ·refine ⟨none,w,fun e he=>(a1 e he).1 (b1 e he),?_,s⟩
   simp only [execOp,hfr.eval hx,Sem.run_bind,b2,Result.andThen_ok,Sem.run_pure]
  ·refine ⟨some e,{ w1 with heap:=w1.heap.setIfInBounds r (.mapIter (some b) clock (sA.push e.2.2) clock) },⟨he,fun hin=>by rw [(a1 e he).2 hin] at hc;cases hc⟩,?_,?_⟩
   ·simp only [execOp,hfr.eval hx,Sem.run_bind,b2,Result.andThen_ok,Sem.run_pure]
   ·refine s.turnRow (hA e.1) (fun m hm=>by obtain ⟨_,_,_,rfl⟩:=hm;exact ⟨_,rfl⟩) q2 q4 q3 (by show w1.heap.setIfInBounds _ _ = _;rw [q1]) ⟨sA.push e.2.2,fun e' he'=>?_,fun k rs hk=>?_,rfl⟩
    ·rw [contains_push,Bool.or_eq_true,a1 e' he',beq_iff_eq,List.mem_cons]
     constructor
     ·rintro (h | h)
      ·exact .inr h
      ·exact .inl (by rw [map_inj (fun e:κ × Value × Nat=>e.2.2) ho.stamps he' he h])
     ·rintro (h | h)
      ·exact .inr (by rw [map_inj (fun e:κ × Value × Nat=>e.1) ho.keys he' he h])
      ·exact .inl h
    ·cases hk
     exact ⟨e,he,rfl,by simp⟩) (fun i hi=>match i,hi with | none,hi=>kend hi | some e,hi=>kk e hi.1 hi.2)
theorem H.entry {x:Operand} {r b:Nat} {es:List (κ × Value × Nat)} {clock:Nat} {seen:List κ} {e:κ × Value × Nat} {A1 A2:List HP} (hw:want? l L gd = true)
  (hx:ev? L x = some (.pointer (some ⟨r,0,none⟩))) (hm:At A (mpS b enc es clock) A1 (mpS b enc es clock)) (hi:At A (itr r b es clock (e.1::seen)) A2 (itr r b es clock (e.1::seen))) (he:e ∈ es) (hd:Nat.ble (d + 1) n = true)
  (kk:H P base n ((d,.tuple #[enc e.1,e.2.1])::L) f A (.ops l rest q)):H P base n L f A (.ops l (⟨some d,.entry x,ty,pos,af,gd⟩::rest) q):=
 H.opV hw hd (fun a w hfr s=>by
  obtain ⟨ho,hb⟩:=s.mpS_at hm
  obtain ⟨sA,a1,a2,hr⟩:=s.itr_at hi
  obtain ⟨e',he',hk,hbk⟩:=a2 _ _ rfl
  have hee:=map_inj (fun e:κ × Value × Nat=>e.1) ho.keys he' he hk
  subst hee
  have hf:(es.map (entOf enc)).toArray.find? (fun x=>x.born == e'.2.2) = some (entOf enc e'):=by
   rw [← Array.find?_toList]
   exact find_born (entOf enc e') (es.map (entOf enc)) (by rw [List.map_map];exact ho.stamps) (List.mem_map.2 ⟨e',he',rfl⟩)
  have h:(Instr.entry (.pointer (some ⟨r,0,none⟩))).run P w = .ok (.tuple #[enc e'.1,e'.2.1]) w:=by
   simp only [Instr.entry,getObj,Sem.run_bind,Sem.run,hr,hb,Result.andThen,hbk,bne_self_eq_false,Bool.false_eq_true,if_false,hf]
   rfl
  simp only [execOp,hfr.eval hx,Sem.run_bind,h,Result.andThen_ok,Sem.run_pure]) kk
theorem H.indexV {e:TypeId} {m i:Nat} {y:Operand} {xs:List Value} {ik:IntKind} {z:Int} {v:Value} {de:TypeDesc} [hu:Und P t (.array m e)] [he:Und P e de] [hs:Siz P e 1] (hw:want? l L gd = true)
  (hx:ev? L x = some (.agg xs.toArray)) (hy:ev? L y = some (.int ik z)) (hq:z = (i:Nat)) (hi:i < m) (ha:aggD de = false) (hv:xs[i]? = some v) (hd:Nat.ble (d + 1) n = true)
  (k:H P base n ((d,v)::L) f A (.ops l rest q)):H P base n L f A (.ops l (⟨some d,.index t x y,ty,pos,af,gd⟩::rest) q):=
 H.opV hw hd (fun a w hf _=>by
  subst hq
  have h1:=hu.run w
  have h2:=hs.run w
  have h3:=run_isAgg he w
  have hi2:(0:Int) ≤ (i:Int) ∧ (i:Int) < (m:Int):=⟨by omega,by omega⟩
  simp only [execOp,hf.eval hx,hf.eval hy,Instr.index,asIntOf,Sem.run_bind,Sem.run_pure,Result.andThen_ok,h1,hi2,if_true,h2,part,h3,ha,Bool.false_eq_true,if_false,and_self]
  simp [hv,Sem.run_pure]) k
theorem H.cutB {c:Code} {id:Nat} {ι:Type} (St:ι→Env) (Sf:ι→Frag) (SA:ι→List HP) (Φ:ι→Prop) (y:Code)
  (rest:∀ i,Φ i→H P base n (St i) (Sf i) (SA i) (.code y q))
  (h:H P base n L f A (.code c (.block id (.loop (fun a w=>∃ j,Φ j ∧ Fr n a (St j) ∧ Sat base w (Sf j) (SA j)) q)))):H P base n L f A (.code c (.block id (.seq y q))):=.mk fun a w hf s =>
 wp_mono (h.out a w hf s) fun e a w he=>by
  have key:Exit.then (fun a w=>∃ j,Φ j ∧ Fr n a (St j) ∧ Sat base w (Sf j) (SA j)) (q.den P) .normal a w→Exit.then (y.wp P (q.den P)) (q.den P) .normal a w:=fun ⟨j,hj,hf,s⟩=>(rest j hj).out a w hf s
  cases e with
  | normal=>exact key he
  | exit id' =>
   show Exit.inBlock id (Exit.then (y.wp P (q.den P)) (q.den P)) (.exit id') a w
   have he:Exit.inBlock id (Exit.then (fun a w=>∃ j,Φ j ∧ Fr n a (St j) ∧ Sat base w (Sf j) (SA j)) (q.den P)) (.exit id') a w:=he
   unfold Exit.inBlock at he ⊢
   simp only at he ⊢
   split
   ·rename_i hid
    rw [if_pos hid] at he
    exact key he
   ·rename_i hid
    rw [if_neg hid] at he
    exact he
  | goto l=>exact he
  | ret=>exact he
  | panic ch=>exact he
  | outgrown=>exact he
end loops
theorem and31:∀ n:Fin 32,0 < n.val→bitsI .and .u64 (18446744073709551616 - (n.val:Int)) 31 = some (((32 - n.val:Nat):Nat):Int):=by decide +kernel
theorem neg64:∀ n:Fin 32,0 < n.val→IntKind.u64.wrap (-(n.val:Int)) = 18446744073709551616 - (n.val:Int):=by decide +kernel
theorem slP_ne {o lv mv sz:Nat} (h:mv ≠ lv):slP (some ⟨b,o,none⟩) lv mv sz = some ⟨b,o + lv * sz,none⟩:=by
 unfold slP;rw [if_neg h];show some ((⟨b,o,none⟩:Addr).add (lv * sz)) = _;rw [zay]
def accW (bs:List UInt8) (i:Nat):Nat→UInt32
 | 0=>0
 | k + 1=>accW bs i k <<< (UInt32.ofNat 8) ||| (bs.getD (4 * i + k) 0).toUInt32
theorem shl8_or (a b:UInt32):(a ||| b) <<< (UInt32.ofNat 8) = a <<< (UInt32.ofNat 8) ||| b <<< (UInt32.ofNat 8):=by
 apply UInt32.toBitVec_inj.1;simp only [UInt32.toBitVec_shiftLeft,UInt32.toBitVec_or];exact BitVec.shiftLeft_or_distrib _ _ _
theorem shl8_shl (a:UInt32) (n:Nat) (h:n + 8 < 32):a <<< (UInt32.ofNat n) <<< (UInt32.ofNat 8) = a <<< (UInt32.ofNat (n + 8)):=by
 apply UInt32.toBitVec_inj.1;simp only [UInt32.toBitVec_shiftLeft]
 have e:∀ k,k < 32→((UInt32.ofNat k).toBitVec % 32).toNat = k:=fun k hk=>by
  simp [UInt32.toBitVec_ofNat',BitVec.toNat_umod,BitVec.toNat_ofNat];omega
 show a.toBitVec <<< ((UInt32.ofNat n).toBitVec % 32).toNat <<< ((UInt32.ofNat 8).toBitVec % 32).toNat = a.toBitVec <<< ((UInt32.ofNat (n + 8)).toBitVec % 32).toNat;rw [e n (by omega),e 8 (by decide),e (n + 8) h];exact (BitVec.shiftLeft_add _ _ _).symm
theorem accW_word (bs:List UInt8) (i:Nat):accW bs i 4 = Sha.word bs i:=by
 unfold Sha.word;simp only [accW,Nat.add_zero];have z:(0:UInt32) <<< (UInt32.ofNat 8) = 0:=by decide
 have z2:∀ x:UInt32,0 ||| x = x:=fun x=>by apply UInt32.toBitVec_inj.1;simp
 rw [z,z2];generalize (bs.getD (4 * i) 0).toUInt32 = x0;generalize (bs.getD (4 * i + 1) 0).toUInt32 = x1;generalize (bs.getD (4 * i + 2) 0).toUInt32 = x2;have e3:x0 <<< (UInt32.ofNat 8) <<< (UInt32.ofNat 8) <<< (UInt32.ofNat 8) = x0 <<< (UInt32.ofNat 24):=by rw [shl8_shl x0 8 (by decide)];exact shl8_shl x0 16 (by decide)
 have e2:x1 <<< (UInt32.ofNat 8) <<< (UInt32.ofNat 8) = x1 <<< (UInt32.ofNat 16):=shl8_shl x1 8 (by decide);rw [shl8_or,shl8_or,shl8_or,e3,e2]
variable {n:Nat}
section
variable (f:Frag) (F:List HP)
theorem rotL_fn {x:UInt32} (h0:0 < n) (hn:n < 32):Fn Tryz.prog 269 [w32 x,.int .i64 (-(n:Int))] f F (Ret (w32 (Sha.rot x n)) f F):=by
 have e1:IntKind.u64.wrap (-(n:Int)) = 18446744073709551616 - (n:Int):=neg64 ⟨n,hn⟩ h0;have e2:bitsI .and .u64 (18446744073709551616 - (n:Int)) 31 = some ((32 - n:Nat):Int):=and31 ⟨n,hn⟩ h0
 have e3:IntKind.u64.wrap (32 - ((32 - n:Nat):Int)) = (n:Int):=by rw [wr_u64 (by omega)];omega
 have e4:x <<< (UInt32.ofNat (32 - n)) ||| x >>> (UInt32.ofNat n) = Sha.rot x n:=by
  unfold Sha.rot;apply UInt32.toBitVec_inj.1;simp only [UInt32.toBitVec_or];exact BitVec.or_comm _ _
 refine Fn.e2 Tryz.func269 Tryz.ntmps269 fun base=>?_;repeat (first | (apply H.Bk;(iterate 2 exact rfl);exact e1;exact rfl) | (refine gg ?_))
 refine H.Bg rfl rfl rfl e2 rfl rfl ?_;repeat (first | (apply H.ar;(iterate 4 exact rfl);exact e3;exact rfl) | (refine gg ?_) | (apply H.Bo;(iterate 3 exact rfl);(first | with_reducible exact u32_shl x (32 - n) (by omega) | with_reducible exact u32_shr x n hn);omega;(iterate 2 exact rfl)) | (refine H.Bg (op:=.or) rfl rfl rfl (u32_or _ _) rfl rfl ?_))
 exact H.Ad rfl rfl (fun _ h=>h) ⟨by rw [← e4];rfl,rfl,rfl⟩
theorem sturn_fn {x:UInt32} (h0:0 < n) (hn:n < 32):Fn Tryz.prog 268 [w32 x,.int .i64 (n:Nat)] f F (Ret (w32 (Sha.rot x n)) f F):=by
 have e1:IntKind.i64.wrap (0 - (n:Int)) = -(n:Int):=by rw [wr_i64 (by omega)];omega
 refine Fn.e2 Tryz.func268 Tryz.ntmps268 fun base=>?_;repeat (first | (refine gg ?_) | (apply H.neg;(iterate 2 exact rfl);exact e1;exact rfl))
 refine H.Af rfl rfl rfl (rotL_fn f _ h0 hn) ?_;refine gR ?_;exact qah
end
variable {S:List UInt32} {bs:List UInt8}
section
variable (f:Frag) (F:List HP)
def wPart (S:List UInt32) (i:Nat) (v:UInt32):List Value:=(wRow S i).set i (w32 v)
theorem wRow_len (hS:S.length = 64) {i:Nat} (h:i ≤ 64):(wRow S i).length = 64:=by
 unfold wRow;rw [List.length_append,List.length_take,List.length_map,List.length_drop,z64_len,hS];omega
theorem wPart_zero (hS:S.length = 64) {i:Nat} (h:i < 64):wPart S i 0 = wRow S i:=by
 have h1:(wRow S i)[i]? = some (w32 0):=by
  unfold wRow;exact fill_get2 (Nat.le_refl _) (by rw [List.length_map,hS,z64_len]) (by unfold z64;rw [List.getElem?_replicate,if_pos h])
 unfold wPart;obtain ⟨hl,he⟩:=List.getElem?_eq_some_iff.1 h1;rw [← he,List.set_getElem_self]
theorem wPart_set (hS:S.length = 64) {i:Nat} (h:i < 64) (v u:UInt32):SetV (wPart S i v) i (w32 u) (wPart S i u):=by
 have:=SetV.mk (l:=wPart S i v) (i:=i) (w32 u) (by unfold wPart;rw [List.length_set,wRow_len hS (by omega)];exact h);unfold wPart at this ⊢
 rwa [List.set_set] at this
theorem wPart_get (hS:S.length = 64) {i:Nat} (h:i < 64) (v:UInt32):(wPart S i v)[i]? = some (w32 v):=by
 unfold wPart;rw [List.getElem?_set_self (by rw [wRow_len hS (by omega)];exact h)]
theorem wPart_full (hS:S.length = 64) {i:Nat} (h:i < 64):wPart S i (S.getD i 0) = wRow S (i + 1):=by
 unfold wPart;exact (SetV.eq (wRow_set hS h)).1.symm
theorem swords_fn {nb:Nat} (hb:bs.length = 64):Fn Tryz.prog 267 [.pointer (some ⟨nb,0,none⟩)] f (row nb 248 (bytesV bs)::F) (Ret (.agg ((Sha.sched bs).map w32).toArray) f (row nb 248 (bytesV bs)::F)):=by
 have hlo:∀ i,i < 16→(Sha.sched bs).getD i 0 = accW bs i 4:=fun i h=>by rw [accW_word];exact Sha.sched_lo bs h
 have hhi:∀ j,j < 48→(Sha.sched bs).getD (j + 16) 0 = (Sha.sched bs).getD j 0 + Sha.s0 ((Sha.sched bs).getD (j + 1) 0) + (Sha.sched bs).getD (j + 9) 0 + Sha.s1 ((Sha.sched bs).getD (j + 14) 0):=fun j h=>Sha.sched_hi bs h;have hS:=Sha.sched_len bs
 generalize Sha.sched bs = S at hlo hhi hS ⊢;refine Fn.e1 Tryz.func267 Tryz.ntmps267 fun base=>?_;refine gA ?_;refine H.Ak (ls:=wRow S 0) rfl rfl rfl fun wb=>?_;refine gA ?_;refine H.Cf (lo:=none) (mx:=none) (lv:=0) (hv:=16) (mv:=64) rfl rfl rfl ⟨_,_,rfl,rfl⟩ rfl (fun h=>by cases h) (by decide) (by decide) (by decide) rfl ?_;refine gR ?_
 refine H.lo (ι:=Nat) (fun i=>[(11,.int .i64 (i:Int)),(10,.int .i64 ((16:Nat):Int)),(0,.pointer (some ⟨nb,0,none⟩)),(2,.pointer (some ⟨wb,0,none⟩))]) (fun _=>f)
  (fun i=>row wb 293 (wRow S i)::row nb 248 (bytesV bs)::F) (fun i=>i ≤ 16) (fun i=>16 - i) 0 (Nat.zero_le _) fun i hi=>?_
 have hi:i ≤ 16:=hi;by_cases hlt:i < 16
 ·have e1:IntKind.i64.wrap (4 * (i:Int)) = ((4 * i:Nat):Int):=by rw [wr_i64 (by omega)];omega
  have e2:IntKind.i64.wrap (((4 * i:Nat):Int) + 4) = ((4 * i + 4:Nat):Int):=by rw [wr_i64 (by omega)];omega
  repeat (first | (apply H.ar;(iterate 4 exact rfl);exact e1;exact rfl) | (apply H.ar;(iterate 4 exact rfl);exact e2;exact rfl) | (refine gg ?_))
  refine H.Cf (mx:=none) (lv:=4 * i) (hv:=4 * i + 4) (mv:=64) rfl rfl ⟨_,_,rfl,rfl⟩ ⟨_,_,rfl,rfl⟩ rfl (fun h=>by cases h) (by omega) (by omega) (by decide) rfl ?_;rw [slP_ne (by omega),show 4 * i + 4 - 4 * i = 4 by omega];refine gR ?_
  refine H.loop (ι:=Nat) (fun k=>[(23,.int .i64 (k:Int)),(22,.int .i64 ((4:Nat):Int)),(21,.slice (some ⟨nb,0 + 4 * i * 1,none⟩) 4 (64 - 4 * i)),(3,.int .i64 (i:Int)),(11,.int .i64 (i:Int)),(10,.int .i64 ((16:Nat):Int)),(0,.pointer (some ⟨nb,0,none⟩)),(2,.pointer (some ⟨wb,0,none⟩))]) (fun _=>f)
   (fun k=>row wb 293 (wPart S i (accW bs i k))::row nb 248 (bytesV bs)::F) (fun k=>k ≤ 4) (fun k=>4 - k) 0 (Nat.zero_le _) ⟨rfl,rfl,rfl,rfl,rfl,rfl,rfl,rfl,trivial⟩ rfl (by rw [show accW bs i 0 = 0 from rfl,wPart_zero hS (by omega)]) fun k hk=>?_
  have hk:k ≤ 4:=hk;by_cases hk4:k < 4
  ·have rdc:∀ A A',At A (row nb 248 (bytesV bs)) A' (row nb 248 (bytesV bs))→Rd1 f A nb (0 + 4 * i * 1 + k * 1) (.int .u8 ((bs.getD (4 * i + k) 0).toNat:Nat)):=fun A A' h=>by
    rw [show 0 + 4 * i * 1 + k * 1 = 0 + (4 * i + k) by omega];exact Rd1.of (Rd.ofRow h) (zcd (by omega))
   have hset:=wPart_set hS (i:=i) (by omega) (accW bs i k) (accW bs i (k + 1));have hget:=wPart_get hS (i:=i) (by omega) (accW bs i k)
   have hacc:accW bs i (k + 1) = accW bs i k <<< (UInt32.ofNat 8) ||| (bs.getD (4 * i + k) 0).toUInt32:=rfl;rw [hacc] at hset
   show H _ _ _ ((23,.int .i64 (k:Int))::_) _ (row wb _ (wPart S i (accW bs i k))::_) _;obtain ⟨v,hv⟩:∃ v,accW bs i k = v:=⟨_,rfl⟩;rw [hv] at hset hget hacc ⊢;refine gG ?_;refine H.Ag (i:=k) rfl rfl rfl rfl hk4 rfl ?_;skip;refine H.Ab rfl rfl rfl (rdc _ _ (by repeat constructor)) rfl ?_;refine gJ ?_;refine H.Ao (i:=i) rfl rfl rfl rfl (by omega) rfl ?_;refine H.Ab rfl rfl rfl (.of (Rd.ofRow (by repeat constructor)) (by rw [Nat.mul_one];exact hget)) rfl ?_;refine H.Bo (op:=.shl) rfl rfl rfl (u32_shl8 _) (by decide) rfl rfl ?_;repeat (first | (refine H.Bk rfl rfl (u32_ofByte _) rfl ?_) | (refine gg ?_))
   refine H.Bg (op:=.or) rfl rfl rfl (u32_or _ _) rfl rfl ?_;refine H.Ao (i:=i) rfl rfl rfl rfl (by omega) rfl ?_;refine H.Ay (v:=w32 _) (ls':=wPart S i (v <<< (UInt32.ofNat 8) ||| (bs.getD (4 * i + k) 0).toUInt32)) rfl rfl rfl rfl (by repeat constructor) (by rw [Nat.mul_one,Nat.zero_add];exact hset) ?_;refine gD ?_;exact H.Aq (k + 1) (by show k + 1 ≤ 4;omega) (by show 4 - (k + 1) < 4 - k;omega) ⟨rfl,rfl,rfl,rfl,rfl,rfl,rfl,rfl,trivial⟩ rfl (by show _ = row wb _ (wPart S i (accW bs i (k + 1)))::_;rw [hacc])
  ·have hk44:k = 4:=by omega
   subst hk44;refine gc ?_;exact H.Aq (i + 1) (by show i + 1 ≤ 16;omega) (by show 16 - (i + 1) < 16 - i;omega) ⟨rfl,rfl,rfl,rfl,trivial⟩ rfl (by rw [← hlo i hlt,wPart_full hS (by omega)])
 ·have hi16:i = 16:=by omega
  subst hi16;refine gL ?_
  refine H.lo (ι:=Nat) (fun j=>[(6,.int .i64 ((j + 16:Nat):Int)),(2,.pointer (some ⟨wb,0,none⟩))]) (fun _=>f)
   (fun j=>row wb 293 (wRow S (j + 16))::row nb 248 (bytesV bs)::F) (fun j=>j ≤ 48) (fun j=>48 - j) 0 (Nat.zero_le _) fun j hj=>?_
  have hj:j ≤ 48:=hj;by_cases hlt:j < 48
  ·have hw:=hhi j hlt;have hset:=wRow_set hS (n:=j + 16) (by omega)
   rw [hw] at hset;have hg:∀ k,k < j + 16→(wRow S (j + 16))[k * 1]? = some (w32 (S.getD k 0)):=fun k hk=>by rw [Nat.mul_one];exact wRow_get hS hk (by omega)
   refine gG ?_;refine H.dq ?_;repeat (first | (apply HQ.Ao (i:=j + 1);(iterate 3 exact rfl);omega;omega;exact rfl) | (apply HQ.Ao (i:=j + 14);(iterate 3 exact rfl);omega;omega;exact rfl) | (apply HQ.Ab;(iterate 3 exact rfl);exact .of (Rd.ofRow (by repeat constructor)) (hg _ (by omega));exact rfl) | (refine gh ?_))
   refine gA ?_;refine H.dc [0,1,2,3,4,5,6,7,8,9,10,11,12,13,14,15,16,17,18,19,20,21,22,23,24,25,26,27,28] (S:=[_]) rfl ?_;refine HB.qu [0,1,2,3,4,5,7,10,11,14,15,16,17,19,21,24,25] 13 ?_;repeat (first | (apply HQ.Ao (i:=j);(iterate 3 exact rfl);omega;omega;exact rfl) | (apply HQ.Ao (i:=j + 9);(iterate 3 exact rfl);omega;omega;exact rfl) | (apply HQ.Ab;(iterate 3 exact rfl);exact .of (Rd.ofRow (by repeat constructor)) (hg _ (by omega));exact rfl) | (refine gh ?_) | (apply HQ.Bo;(iterate 3 exact rfl);(first | with_reducible exact u32_shr3 _ | with_reducible exact u32_shr10 _);decide;(iterate 2 exact rfl)))
   refine qdb ?_;refine HB.ev 6 ?_;refine H.Af rfl rfl rfl (sturn_fn f _ (n:=7) (by decide) (by decide)) ?_;refine qcS ?_;refine HB.ev 8 ?_;refine H.Af rfl rfl rfl (sturn_fn f _ (n:=18) (by decide) (by decide)) ?_;refine qcS ?_;refine HB.qu [9,12,13,18] 7 ?_;refine qdL ?_;refine qdb ?_;refine HB.ev 20 ?_;refine H.Af rfl rfl rfl (sturn_fn f _ (n:=17) (by decide) (by decide)) ?_;refine qcS ?_;refine HB.ev 22 ?_;refine H.Af rfl rfl rfl (sturn_fn f _ (n:=19) (by decide) (by decide)) ?_;refine qcS ?_;refine HB.qu [23,26,27,28] 1 ?_;repeat (first | (refine gh ?_) | (apply HQ.Bg;(iterate 3 exact rfl);(with_reducible exact zbq _ _);(iterate 2 exact rfl)) | (apply HQ.Ao (i:=j + 16);(iterate 3 exact rfl);exact rfl;omega;exact rfl))
   refine qdo ?_;refine HB.ev 29 ?_;refine qgf ?_;exact H.Aq (j + 1) (by show j + 1 ≤ 48;omega) (by show 48 - (j + 1) < 48 - j;omega) ⟨by show some _ = some (Value.int .i64 ((j + 1 + 16:Nat):Int));rw [show j + 1 + 16 = j + 16 + 1 by omega],rfl,trivial⟩ rfl (by show _ = row wb _ (wRow S (j + 1 + 16))::_;rw [show j + 1 + 16 = j + 16 + 1 by omega];rfl)
  ·have hj48:j = 48:=by omega
   subst hj48
   have hfull:wRow S (48 + 16) = S.map w32:=by
    unfold wRow;rw [show 48 + 16 = (S.map w32).length by rw [List.length_map,hS],List.take_length,List.length_map,hS];show S.map w32 ++ z64.drop 64 = _;rw [List.drop_eq_nil_of_le (by rw [z64_len];exact Nat.le_refl _),List.append_nil]
   show H _ _ _ _ _ (row wb _ (wRow S (48 + 16))::_) _;rw [hfull];have hl:(S.map w32).length = 64:=by rw [List.length_map,hS]
   refine gL ?_;refine H.Ae (ls:=S.map w32) rfl rfl rfl (Rd.ofRow (by repeat constructor)) hl rfl ?_;refine H.Ah (ls:=S.map w32) (vs:=S.map w32) (ls':=S.map w32) rfl rfl rfl (fun v hv=>by obtain ⟨x,_,rfl⟩:=List.mem_map.1 hv;rfl) hl (by unfold splice;rw [List.take_zero,List.nil_append,Nat.zero_add,List.drop_length,List.append_nil]) (by omega) (by repeat constructor) ?_;refine gR ?_;exact H.Ax rfl rfl rfl (Rd.ofRow (by repeat constructor)) hl (fun _ s=>s.drop (.here _ _)) ⟨rfl,rfl,rfl⟩
end
def TabAt (f:Frag):Prop:=IntsAt f 0 .u32 (Sha.k.map fun x=>((x.toNat:Nat):Int))
variable {f:Frag}
theorem tab_rd (h:TabAt f) {A:List HP} {i:Nat} (hi:i < 64):Rd1 f A 0 (0 + i * 1) (w32 (Sha.k.getD i 0)):=by
 have e:(Sha.k.map fun x=>((x.toNat:Nat):Int))[i]? = some (((Sha.k.getD i 0).toNat:Nat):Int):=by
  have hl:i < Sha.k.length:=hi;rw [List.getElem?_map,List.getElem?_eq_getElem hl,List.getD_eq_getElem?_getD,List.getElem?_eq_getElem hl]
  rfl
 rw [show 0 + i * 1 = i by omega];exact h.rd e
theorem S8.comm (v s:Sha.S8) {i:Nat} (h:i < 8):(v.add s).get i = s.get i + v.get i:=by
 rw [Sha.S8.add_get v s h];apply UInt32.toBitVec_inj.1;simp only [UInt32.toBitVec_add];exact BitVec.add_comm _ _
def addRow2 (v s:Sha.S8) (n:Nat):List Value:=(v.add s).vals.take n ++ s.vals.drop n
theorem addRow2_set (v s:Sha.S8) {i:Nat} (h:i < 8):SetV (addRow2 v s i) i (w32 (s.get i + v.get i)) (addRow2 v s (i + 1)):=by
 rw [← S8.comm v s h];exact fill_set (Sha.S8.get_vals _ h) rfl
theorem addRow2_get (v s:Sha.S8) {i:Nat} (h:i < 8):(addRow2 v s i)[i]? = some (w32 (s.get i)):=fill_get2 (Nat.le_refl _) rfl (Sha.S8.get_vals s h)
section
variable (f:Frag) (F:List HP)
theorem sblock_fn (htab:TabAt f) {s:Sha.S8} (hb:bs.length = 64):Fn Tryz.prog 266 [.agg s.vals.toArray,.agg (bytesV bs).toArray] f F (Ret (.agg (Sha.block s bs).vals.toArray) f F):=by
 have hbl:(bytesV bs).length = 64:=by rw [zad,hb]
 have hwords:=fun nb G=>swords_fn f G (nb:=nb) hb;have hS:=Sha.sched_len bs
 unfold Sha.block;generalize Sha.sched bs = S at hwords hS ⊢;have hgS:∀ k,k < 64→(S.map w32)[k]? = some (w32 (S.getD k 0)):=fun k hk=>map_get w32 (by omega) 0;refine Fn.e2 Tryz.func266 Tryz.ntmps266 fun base=>?_
 refine gA ?_;refine H.box (ls:=s.vals) rfl rfl rfl rfl fun sb=>?_;refine H.box (ls:=bytesV bs) rfl rfl rfl rfl fun nb=>?_;refine qgv fun ob=>?_;refine gA ?_;refine H.dq ?_;repeat (first | (refine gh ?_) | (apply HQ.index_arrT;(iterate 3 exact rfl);decide;exact rfl))
 refine gA ?_;refine H.pf (x:=row nb _ _) ?_;refine H.Af rfl rfl rfl (hwords nb _) ?_;refine gR ?_
 refine H.lo (ι:=Nat) (fun i=>[(36,.int .i64 (i:Int)),(35,.agg (S.map w32).toArray),(5,w32 (Sha.rounds S s i).a),(6,w32 (Sha.rounds S s i).b),(7,w32 (Sha.rounds S s i).c),(8,w32 (Sha.rounds S s i).d),(9,w32 (Sha.rounds S s i).e),(10,w32 (Sha.rounds S s i).f),(11,w32 (Sha.rounds S s i).g),(12,w32 (Sha.rounds S s i).h),(2,.pointer (some ⟨sb,0,none⟩)),(4,.pointer (some ⟨ob,0,none⟩))]) (fun _=>f)
  (fun _=>row nb 248 (bytesV bs)::row ob 246 (List.replicate 8 (.int .u32 0))::row sb 246 s.vals::F) (fun i=>i ≤ 64) (fun i=>64 - i) 0 (Nat.zero_le _) fun i hi=>?_
 have hi:i ≤ 64:=hi;by_cases hlt:i < 64
 ·have hr:Sha.rounds S s (i + 1) = Sha.round (Sha.k.getD i 0) (S.getD i 0) (Sha.rounds S s i):=rfl;have hgs:=hgS i hlt
  have hgk:=fun A=>tab_rd htab (A:=A) hlt;generalize Sha.k.getD i 0 = kk at hr hgk
  generalize S.getD i 0 = ww at hr hgs;generalize S.map w32 = SL at hgs hwords ⊢;show H _ _ _ [_,_,(5,w32 (Sha.rounds S s i).a),(6,w32 (Sha.rounds S s i).b),(7,w32 (Sha.rounds S s i).c),(8,w32 (Sha.rounds S s i).d),(9,w32 (Sha.rounds S s i).e),(10,w32 (Sha.rounds S s i).f),(11,w32 (Sha.rounds S s i).g),(12,w32 (Sha.rounds S s i).h),_,_] _ _ _;generalize Sha.rounds S s i = v at hr ⊢;repeat (first | (refine gg ?_) | (apply H.indexV (i:=i);(iterate 4 exact rfl);exact hlt;exact rfl;exact hgs;exact rfl))
  refine H.db (S:=[]) rfl ?_;refine HB.qu [0,1,3,6,10,11,12,13,14,15,16,17,19,20,21,23] 10 ?_;repeat (first | (apply HQ.Ao (i:=i);(iterate 3 exact rfl);exact rfl;exact hlt;exact rfl) | (apply HQ.Ab;(iterate 3 exact rfl);exact hgk _;exact rfl) | (refine gh ?_) | (apply HQ.Bg;(iterate 3 exact rfl);(first | with_reducible exact zbq _ _ | with_reducible exact u32_and _ _);(iterate 2 exact rfl)) | (apply HQ.flip;(iterate 2 exact rfl);exact u32_not _;(iterate 2 exact rfl)))
  refine qdb ?_;refine HB.ev 2 ?_;refine H.Af rfl rfl rfl (sturn_fn f _ (n:=6) (by decide) (by decide)) ?_;refine qcS ?_;refine HB.ev 4 ?_;refine H.Af rfl rfl rfl (sturn_fn f _ (n:=11) (by decide) (by decide)) ?_;refine qcS ?_;refine HB.qu [5] 7 ?_;refine qfA ?_;refine HB.ev 7 ?_;refine H.Af rfl rfl rfl (sturn_fn f _ (n:=25) (by decide) (by decide)) ?_;refine qcS ?_;refine HB.qu [8,9,18,22,24,25] 0 ?_;refine qdL ?_;refine qdk ?_;refine gJ ?_;refine H.Af rfl rfl rfl (sturn_fn f _ (n:=2) (by decide) (by decide)) ?_;refine gJ ?_;refine H.Af rfl rfl rfl (sturn_fn f _ (n:=13) (by decide) (by decide)) ?_;refine qhk ?_;refine gJ ?_;refine H.Af rfl rfl rfl (sturn_fn f _ (n:=22) (by decide) (by decide)) ?_;refine qhk ?_;refine gJ ?_;refine H.Bg (op:=.and) rfl rfl rfl (u32_and _ _) rfl rfl ?_;refine gJ ?_;refine H.Bg (op:=.and) rfl rfl rfl (u32_and _ _) rfl rfl ?_;refine qhk ?_;refine gJ ?_;refine H.Bg (op:=.and) rfl rfl rfl (u32_and _ _) rfl rfl ?_;refine qhk ?_;refine gD ?_;exact H.Aq (i + 1) (by show i + 1 ≤ 64;omega) (by show 64 - (i + 1) < 64 - i;omega) ⟨rfl,rfl,by rw [hr];rfl,by rw [hr];rfl,by rw [hr];rfl,by rw [hr];rfl,by rw [hr];rfl,by rw [hr];rfl,by rw [hr];rfl,by rw [hr];rfl,rfl,rfl,trivial⟩ rfl rfl
 ·have hi64:i = 64:=by omega
  subst hi64;show H _ _ _ [_,_,(5,w32 (Sha.rounds S s 64).a),(6,w32 (Sha.rounds S s 64).b),(7,w32 (Sha.rounds S s 64).c),(8,w32 (Sha.rounds S s 64).d),(9,w32 (Sha.rounds S s 64).e),(10,w32 (Sha.rounds S s 64).f),(11,w32 (Sha.rounds S s 64).g),(12,w32 (Sha.rounds S s 64).h),_,_] _ _ _;generalize Sha.rounds S s 64 = v;refine gL ?_;refine H.buildA (out:=v.vals) rfl rfl rfl rfl rfl ?_;refine gR ?_;refine H.pd (x:=row nb _ _) ?_;refine H.pf (x:=row sb _ _) ?_
  refine H.lo (ι:=Nat) (fun i=>[(107,.int .i64 (i:Int)),(106,.agg v.vals.toArray),(2,.pointer (some ⟨sb,0,none⟩)),(4,.pointer (some ⟨ob,0,none⟩))]) (fun _=>f)
   (fun i=>row sb 246 (addRow2 v s i)::row ob 246 (List.replicate 8 (.int .u32 0))::F) (fun i=>i ≤ 8) (fun i=>8 - i) 0 (Nat.zero_le _) fun i hi=>?_
  have hi:i ≤ 8:=hi;by_cases hlt:i < 8
  ·have hset:=addRow2_set v s hlt;have hg:=addRow2_get v s hlt
   have hg2:=Sha.S8.get_vals v hlt;show H _ _ _ _ _ (row sb _ (addRow2 v s i)::_) _
   repeat (first | (refine gg ?_) | (apply H.indexV (i:=i);(iterate 4 exact rfl);exact hlt;exact rfl;exact hg2;exact rfl))
   refine H.Ao (i:=i) rfl rfl rfl rfl hlt rfl ?_;refine H.Ab rfl rfl rfl (.of (Rd.ofRow (by repeat constructor)) (by rw [Nat.mul_one];exact hg)) rfl ?_;refine gD ?_;refine H.Ao (i:=i) rfl rfl rfl rfl hlt rfl ?_;refine H.Ay (v:=w32 _) (ls':=addRow2 v s (i + 1)) rfl rfl rfl rfl (by repeat constructor) (by rw [Nat.mul_one,Nat.zero_add];exact hset) ?_;refine gD ?_;exact qbM
  ·have hi8:i = 8:=by omega
   subst hi8;refine qeJ ?_;refine H.pd (x:=row sb _ _) ?_;exact qae
end
def b32 (t:Nat→UInt8):List Value:=[.int .u8 (t 0).toNat,.int .u8 (t 1).toNat,.int .u8 (t 2).toNat,.int .u8 (t 3).toNat,.int .u8 (t 4).toNat,.int .u8 (t 5).toNat,.int .u8 (t 6).toNat,.int .u8 (t 7).toNat,.int .u8 (t 8).toNat,.int .u8 (t 9).toNat,.int .u8 (t 10).toNat,.int .u8 (t 11).toNat,.int .u8 (t 12).toNat,.int .u8 (t 13).toNat,.int .u8 (t 14).toNat,.int .u8 (t 15).toNat,.int .u8 (t 16).toNat,.int .u8 (t 17).toNat,.int .u8 (t 18).toNat,.int .u8 (t 19).toNat,.int .u8 (t 20).toNat,.int .u8 (t 21).toNat,.int .u8 (t 22).toNat,.int .u8 (t 23).toNat,.int .u8 (t 24).toNat,.int .u8 (t 25).toNat,.int .u8 (t 26).toNat,.int .u8 (t 27).toNat,.int .u8 (t 28).toNat,.int .u8 (t 29).toNat,.int .u8 (t 30).toNat,.int .u8 (t 31).toNat]
def v11 (d:Nat→Int):List Value:=[.int .u64 (d 0),.int .u64 (d 1),.int .u64 (d 2),.int .u64 (d 3),.int .u64 (d 4),.int .u64 (d 5),.int .u64 (d 6),.int .u64 (d 7),.int .u64 (d 8),.int .u64 (d 9),.int .u64 (d 10)]
structure Req where
 client:Int
 time:Int
 kind:UInt8
 key:ByteArray
 val:ByteArray
 old:ByteArray
 to:ByteArray
 amount:Int
 tag:Nat→UInt8
def Req.vals (r:Req):List Value:=[.int .i64 r.client,.int .u64 r.time,.int .u8 (r.kind.toNat:Nat),.string r.key,.string r.val,.string r.old,.string r.to,.int .u64 r.amount] ++ b32 r.tag
def Req.zero:Req:=⟨0,0,0,.empty,.empty,.empty,.empty,0,fun _=>0⟩
structure Bod where
 kind:UInt8
 view:Int
 k:Int
 req:Req
 q:List (Int × Int)
 dig:Nat→UInt8
def Bod.vals (x:Bod) (p:Option Addr) (c:Nat):List Value:=[.int .u8 (x.kind.toNat:Nat),.int .u64 x.view,.int .u64 x.k] ++ x.req.vals ++ [.slice p x.q.length c] ++ b32 x.dig
structure Msg where
 origin:Int
 number:Int
 deps:Nat→Int
 body:Bod
 tag:Nat→UInt8
def Msg.vals (m:Msg) (p:Option Addr) (c:Nat):List Value:=[.int .i64 m.origin,.int .u64 m.number] ++ v11 m.deps ++ m.body.vals p c ++ b32 m.tag
def pairV (p:Int × Int):List Value:=[.int .i64 p.1,.int .u64 p.2]
def QAt (f:Frag) (p:Option Addr) (q:List (Int × Int)):Prop:=∀ i x,q[i]? = some x→∃ b off cs T fr,p = some ⟨b,off,none⟩ ∧ f b = some (.cells cs T fr) ∧ ∀ j,j < (pairV x).length→cs[off + i * 2 + j]? = (pairV x)[j]?
theorem QAt.nil (f:Frag) (p:Option Addr):QAt f p []:=fun i x h=>by simp at h
variable {p:Option Addr} {c:Nat} {l:List UInt8}
section
variable (f:Frag) (A:List HP) (x:Bod) (q:Option Addr) (qc:Nat)
theorem view1_fn (hs:Src Tryz.prog f A (.slice p l.length c) 1 l.length (bytesV l)) (hn:p = none→l = []) (hl:l.length ≤ 10000000000) :
  Fn Tryz.prog 241 [.slice p l.length c,.agg (x.vals q qc).toArray] f A (BytesR (l ++ be 8 x.view) f A):=by
 refine Fn.e2 Tryz.func241 Tryz.ntmps241 fun base=>?_;refine qdB fun xb=>?_;refine gF ?_;refine H.Ap rfl rfl rfl (word_fn f _ hs.cons hn hl) fun p1 c1=>?_;refine gR ?_;refine H.Ac (.there _ (.here _ _)) ?_;exact H.r1 ⟨p1,c1,rfl,rfl,rfl⟩
theorem view3_fn:Fn Tryz.prog 243 [.agg (x.vals q qc).toArray] f A (Ret (.bool (decide (1 ≤ x.view))) f A):=by
 refine Fn.e1 Tryz.func243 Tryz.ntmps243 fun base=>?_;refine qdB fun xb=>?_;refine gO ?_;exact qaz
theorem k_fn:Fn Tryz.prog 195 [.agg (x.vals q qc).toArray] f A (Ret (.bool (decide (1 ≤ x.k ∧ x.k ≤ 4611686018427387904))) f A):=by
 by_cases h1:1 ≤ x.k
 ·refine Fn.e1 Tryz.func195 Tryz.ntmps195 fun base=>?_;refine qdB fun xb=>?_;refine gT ?_;exact qcO
 ·refine Fn.e1 Tryz.func195 Tryz.ntmps195 fun base=>?_;refine qdB fun xb=>?_;refine ga ?_;exact qcO
def Req.asked (r:Req):Prop:=1 ≤ r.client ∧ r.client ≤ 8 ∧ 1 ≤ r.time ∧ r.time ≤ 4611686018427387904 ∧ (r.key.size ≤ 32 ∧ r.to.size ≤ 32) ∧ (r.val.size ≤ 128 ∧ r.old.size ≤ 128)
instance (r:Req):Decidable r.asked:=by unfold Req.asked;infer_instance
theorem asked_fn (r:Req):Fn Tryz.prog 183 [.agg r.vals.toArray] f A (Ret (.bool (decide r.asked)) f A):=by
 by_cases h1:1 ≤ r.client
 ·skip;by_cases h2:r.client ≤ 8
  ·skip;by_cases h3:1 ≤ r.time
   ·skip;by_cases h4:r.time ≤ 4611686018427387904
    ·skip;by_cases h5:r.key.size ≤ 32 ∧ r.to.size ≤ 32
     ·skip;by_cases h6:r.val.size ≤ 128 ∧ r.old.size ≤ 128
      ·skip;refine qfY fun base=>?_;refine qdy fun xb=>?_;refine qes ?_;exact H.Ad rfl rfl (fun _ h=>h) ⟨by rw [decide_eq_true (show r.asked from ⟨h1,h2,h3,h4,h5,h6⟩),decide_eq_true (by split <;> omega)],rfl,rfl⟩
      ·skip;refine qfY fun base=>?_;refine qdy fun xb=>?_;refine qes ?_;exact H.Ad rfl rfl (fun _ h=>h) ⟨by rw [decide_eq_false (show ¬ r.asked from fun h=>h6 h.2.2.2.2.2),decide_eq_false (by split <;> omega)],rfl,rfl⟩
     ·skip;refine qfY fun base=>?_;refine qdy fun xb=>?_;refine gT ?_;refine H.max2 (z:=if (r.key.size:Int) < r.to.size then (r.to.size:Int) else r.key.size) rfl rfl rfl rfl rfl ?_;refine gY ?_;refine qdp ?_;exact H.Ad rfl rfl (fun _ h=>h) ⟨by rw [decide_eq_false (fun h=>h5 h.2.2.2.2.1)],rfl,rfl⟩
    ·skip;refine qfY fun base=>?_;refine qdy fun xb=>?_;refine gY ?_;refine qdp ?_;exact H.Ad rfl rfl (fun _ h=>h) ⟨by rw [decide_eq_false (fun h=>h4 h.2.2.2.1)],rfl,rfl⟩
   ·skip;refine qfY fun base=>?_;refine qdy fun xb=>?_;refine gY ?_;refine qdp ?_;exact H.Ad rfl rfl (fun _ h=>h) ⟨by rw [decide_eq_false (fun h=>h3 h.2.2.1)],rfl,rfl⟩
  ·skip;refine qfY fun base=>?_;refine qdy fun xb=>?_;refine gY ?_;refine qdp ?_;exact H.Ad rfl rfl (fun _ h=>h) ⟨by rw [decide_eq_false (fun h=>h2 h.2.1)],rfl,rfl⟩
 ·skip;refine qfY fun base=>?_;refine qdy fun xb=>?_;refine ga ?_;refine qdp ?_;exact H.Ad rfl rfl (fun _ h=>h) ⟨by rw [decide_eq_false (fun h=>h1 h.1)],rfl,rfl⟩
def quo:Int→List (Int × Int)→Bool
 | _,[]=>true
 | was,p::r=>if p.1 ≤ was ∨ 11 < p.1 ∨ p.2 < 1 ∨ 65536 < p.2 then false else quo p.1 r
theorem quorum_fn {l:List (Int × Int)} (hq:QAt f p l) (hl:l.length ≤ 1000000000000) :
  Fn Tryz.prog 202 [.slice p l.length c] f A (Ret (.bool (quo 0 l && decide (0 < l.length))) f A):=by
 refine Fn.e1 Tryz.func202 Tryz.ntmps202 fun base=>?_;refine gR ?_;refine H.lo (ι:=Nat × Int) (fun i=>[(8,.int .i64 (i.1:Int)),(7,.int .i64 (l.length:Nat)),(3,.int .i64 i.2),(0,.slice p l.length c),(6,.slice p l.length c)]) (fun _=>f) (fun _=>A) (fun i=>i.1 ≤ l.length ∧ quo 0 l = quo i.2 (l.drop i.1)) (fun i=>l.length - i.1) (0,0) ⟨Nat.zero_le _,rfl⟩ fun i hi=>?_;obtain ⟨i,w⟩:=i;obtain ⟨hi,hw⟩:i ≤ l.length ∧ quo 0 l = quo w (l.drop i):=hi;show H _ _ _ [(8,.int .i64 (i:Int)),_,(3,.int .i64 w),_,_] _ _ _;rw [hw];refine gL ?_;by_cases hlt:i < l.length
 ·have hx:l[i]? = some l[i]:=List.getElem?_eq_getElem hlt;have hd:l.drop i = l[i]::l.drop (i + 1):=List.drop_eq_getElem_cons hlt
  generalize l[i] = x at hx hd;obtain ⟨b,off,cs,T,fr,rfl,hfb,hcs⟩:=hq i x hx;have rd:∀ A,Rd f A b (off + i * 2) (pairV x):=fun A=>Rd.imm hfb hcs;clear hcs hfb
  have hquo:quo w (l.drop i) = if x.1 ≤ w ∨ 11 < x.1 ∨ x.2 < 1 ∨ 65536 < x.2 then false else quo x.1 (l.drop (i + 1)):=by rw [hd];rfl
  refine gG ?_;refine H.Ag rfl rfl rfl rfl hlt rfl ?_;refine H.Ae (ls:=pairV x) rfl rfl rfl (rd _) rfl rfl ?_;refine H.Ak rfl rfl rfl fun xb=>?_;refine H.Ah (ls:=[.int .i64 0,.int .u64 0]) (vs:=pairV x) (ls':=pairV x) rfl rfl rfl (zaa rfl) rfl rfl (Nat.le_refl 2) (by repeat constructor) ?_;rw [hquo];by_cases h1:x.1 ≤ w
  ·rw [if_pos (.inl h1)];clear hquo hw;refine gY ?_;exact qaz
  ·by_cases h2 : 11 < x.1
   ·rw [if_pos (.inr (.inl h2))];clear hquo hw;refine gY ?_;exact qaz
   ·by_cases h3 : x.2 < 1
    ·rw [if_pos (.inr (.inr (.inl h3)))];clear hquo hw;refine gY ?_;exact qaz
    ·by_cases h4:65536 < x.2
     ·rw [if_pos (.inr (.inr (.inr h4)))];clear hquo hw;refine ga ?_;exact qaz
     ·have hno:¬ (x.1 ≤ w ∨ 11 < x.1 ∨ x.2 < 1 ∨ 65536 < x.2):=by omega
      rw [if_neg hno];rw [if_neg hno] at hquo;refine ga ?_;refine qdp ?_;exact H.ag (i + 1,x.1) ⟨by show i + 1 ≤ l.length;omega,by first | rfl | exact hw.trans hquo⟩ (by show l.length - (i + 1) < l.length - i;omega)
 ·have:i = l.length:=by omega
  subst this;rw [List.drop_length];refine gP ?_;exact H.Ad rfl rfl (fun _ h=>h) ⟨by simp [quo],rfl,rfl⟩
end
def Req.head (r:Req):List UInt8:=[UInt8.ofNat (r.client % 256).toNat,r.kind]
def Req.bytes (r:Req):List UInt8:=r.head ++ be 8 r.time ++ be 8 r.amount ++ textB r.key ++ textB r.val ++ textB r.old ++ textB r.to
def Req.texts (r:Req):List ByteArray:=[r.key,r.val,r.old,r.to]
theorem u8_wrap (z:Int):IntKind.u8.wrap z = ((UInt8.ofNat (z % 256).toNat).toNat:Int):=by
 have h:IntKind.u8.wrap z = z % 256:=by simp [IntKind.wrap,IntKind.signed,IntKind.bits]
 rw [h];have h1:0 ≤ z % 256:=Int.emod_nonneg _ (by decide);have h2:z % 256 < 256:=Int.emod_lt_of_pos _ (by decide)
 generalize z % 256 = y at h1 h2;exact qcl
section
variable (f:Frag) (A:List HP)
theorem request_fn (r:Req) (ha:r.asked) (hl:l.length ≤ 1000000000) :
  Fn Tryz.prog 187 [.slice p l.length c,.agg r.vals.toArray] f (slc p l.length c 5 1 (bytesV l)::A) (BytesR (l ++ r.bytes) f A):=by
 refine Fn.e2 Tryz.func187 Tryz.ntmps187 fun base=>?_;refine qdy fun xb=>?_;refine gM ?_;rw [u8_wrap];refine qdF fun tb=>?_;refine qgu fun p2 c2=>?_;refine gJ ?_;refine qdp ?_;have e0:(l ++ r.head).length = l.length + 2:=by rw [List.length_append];rfl
 have e1:bytesV (l ++ r.head) = bytesV l ++ bytesV r.head:=zag _ _;rw [show (2:Nat) = 2 from rfl]
 generalize hl1:l ++ r.head = l1 at e0 e1;show H _ _ _ _ _ (row _ _ _::slc p2 (l.length + 2) c2 _ _ (bytesV l ++ bytesV r.head)::A) _;rw [← e0,← e1];refine H.draw (qt 3 0 ++ qt 3 4 ++ [(3,true),(7,true)] ++ qt 1 8) (by kernel_rfl) (by decide +kernel) (by repeat (first | exact zac | refine zab ?_ | refine zah ?_ | refine zaj ?_)) (S:=[_]) rfl ?_;refine gS ?_;refine HQ.event ?_;refine H.Av (.there _ (.here _ _ _)) (by omega) fun b2 hp=>?_;subst hp;refine qgI fun p3 c3=>?_;refine gA ?_;refine qeC ?_;refine H.Av (.here _ _ _) (by rw [List.length_append];omega) fun b3 hp=>?_;subst hp;refine qdm ?_;refine H.back (A:=[_]) rfl ?_;refine HQ.event ?_;refine H.Ap rfl rfl rfl (word_fn (l:=l1 ++ be 8 r.time) f _ (Src.slcS (.there _ (.here _ _ _)) (by rw [zad];exact (Nat.mul_one _).symm)) (fun h=>by cases h) (by rw [List.length_append,be_len];omega)) fun p4 c4=>?_;refine gA ?_;refine qeC ?_;refine qdm ?_;refine H.back (A:=[_]) rfl ?_;refine gK ?_;refine gF ?_;refine qdF fun sb=>?_;refine gR ?_
 have hsz:∀ (i:Nat) (s:ByteArray),r.texts[i]? = some s→s.size ≤ 128:=by
  obtain ⟨_,_,_,_,⟨k1,k2⟩,k3,k4⟩:=ha;intro i s hs
  have:=List.mem_of_getElem? hs;simp only [Req.texts,List.mem_cons,List.not_mem_nil,or_false] at this
  rcases this with rfl | rfl | rfl | rfl <;> omega
 generalize hl2:l1 ++ be 8 r.time ++ be 8 r.amount = l2;have e2:l2.length = l1.length + 16:=by rw [← hl2,List.length_append,List.length_append,be_len,be_len]
 refine H.loop (ι:=Nat × Option Addr × Nat) (fun i=>[(38,.int .i64 (i.1:Int)),(37,.int .i64 4),(36,.slice (some ⟨sb,0,none⟩) 4 4),(0,.slice i.2.1 (l2 ++ (r.texts.take i.1).flatMap textB).length i.2.2)]) (fun _=>f)
  (fun i=>row sb 9 [.string r.key,.string r.val,.string r.old,.string r.to]::row xb 44 r.vals::slc i.2.1 (l2 ++ (r.texts.take i.1).flatMap textB).length i.2.2 5 1 (bytesV (l2 ++ (r.texts.take i.1).flatMap textB))::A)
  (fun i=>i.1 ≤ 4 ∧ (l2 ++ (r.texts.take i.1).flatMap textB).length ≤ l2.length + 200 * i.1) (fun i=>4 - i.1) (0,p4,c4) ?_ ?_ rfl ?_ fun i hi=>?_
 ·exact ⟨Nat.zero_le _,by simp⟩
 ·refine ⟨rfl,rfl,rfl,?_,trivial⟩;show some (Value.slice p4 l2.length c4) = some (Value.slice p4 (l2 ++ []).length c4);rw [List.append_nil]
 ·show _ = _::_::slc p4 (l2 ++ []).length c4 _ 1 (bytesV (l2 ++ []))::A;rw [List.append_nil];rfl
 ·obtain ⟨i,p',c'⟩:=i;obtain ⟨hi,hlen⟩:i ≤ 4 ∧ (l2 ++ (r.texts.take i).flatMap textB).length ≤ l2.length + 200 * i:=hi;show H _ _ _ [(38,.int .i64 (i:Int)),_,_,(0,.slice p' (l2 ++ (r.texts.take i).flatMap textB).length c')] _ (_::_::slc p' (l2 ++ (r.texts.take i).flatMap textB).length c' _ 1 (bytesV (l2 ++ (r.texts.take i).flatMap textB))::A) _;generalize hacc:l2 ++ (r.texts.take i).flatMap textB = acc at hlen;have hpos:l2.length ≤ acc.length:=by rw [← hacc,List.length_append];omega
  refine gL ?_;by_cases hlt:i < 4
  ·obtain ⟨s,hs⟩:∃ s,r.texts[i]? = some s:=⟨r.texts[i]'hlt,List.getElem?_eq_getElem hlt⟩
   have hv:([.string r.key,.string r.val,.string r.old,.string r.to]:List Value)[i]? = some (.string s):=by
    have:([.string r.key,.string r.val,.string r.old,.string r.to]:List Value) = r.texts.map Value.string:=rfl;rw [this,List.getElem?_map,hs];rfl
   have hs128:=hsz i s hs
   have e3:l2 ++ (r.texts.take (i + 1)).flatMap textB = acc ++ textB s:=by
    rw [List.take_add_one,hs,← hacc];simp
   refine H.Av (.there _ (.there _ (.here _ _ _))) (by omega) fun b' hp=>?_;subst hp;refine gG ?_;refine H.index1 rfl rfl rfl rfl hlt rfl ?_;refine H.Ab rfl rfl rfl (.of (Rd.ofRow (by repeat constructor)) hv) rfl ?_;refine gJ ?_;refine H.Ap rfl rfl rfl (text_fn (l:=acc) f _ (Src.slcS (.there _ (.there _ (.here _ _ _))) (by rw [zad];exact (Nat.mul_one _).symm)) (fun h=>by cases h) (by omega) (by omega)) fun p5 c5=>?_;refine gc ?_;refine H.Ac (.there _ (.there _ (.there _ (.here _ _)))) ?_;refine qdV ?_;have hts:(textB s).length ≤ 200:=by unfold textB;rw [List.length_append,be_len,zbr];omega
   refine H.Aq (i + 1,p5,c5) ⟨by show i + 1 ≤ 4;omega,?_⟩ (by show 4 - (i + 1) < 4 - i;omega) ⟨rfl,rfl,rfl,?_,trivial⟩ rfl ?_
   ·show (l2 ++ (r.texts.take (i + 1)).flatMap textB).length ≤ l2.length + 200 * (i + 1);rw [e3,List.length_append];omega
   ·show some _ = some (Value.slice p5 (l2 ++ (r.texts.take (i + 1)).flatMap textB).length c5);rw [e3]
   ·show _ = _::_::slc p5 (l2 ++ (r.texts.take (i + 1)).flatMap textB).length c5 _ 1 (bytesV (l2 ++ (r.texts.take (i + 1)).flatMap textB))::A;rw [e3]
  ·have:i = 4:=by omega
   subst this;refine gW ?_;refine qgi ?_;have e4:acc = l ++ r.bytes:=by rw [← hacc,← hl2,← hl1];simp [Req.bytes,Req.texts]
   subst e4;exact H.r1 ⟨p',c',rfl,rfl,rfl⟩
end
section
variable (f:Frag) (A:List HP)
theorem rrequest_fn (r:Req) (ha:r.asked) (hl:l.length ≤ 1000000000) :
  Fn Tryz.prog 61 [.slice p l.length c,.agg r.vals.toArray] f (slc p l.length c 5 1 (bytesV l)::A) (BytesR (l ++ r.bytes) f A):=by
 refine Fn.e2 Tryz.func61 Tryz.ntmps61 fun base=>?_;refine qdy fun xb=>?_;refine gM ?_;rw [u8_wrap];refine qdF fun tb=>?_;refine qgu fun p2 c2=>?_;refine gJ ?_;refine qdp ?_;have e0:(l ++ r.head).length = l.length + 2:=by rw [List.length_append];rfl
 have e1:bytesV (l ++ r.head) = bytesV l ++ bytesV r.head:=zag _ _;rw [show (2:Nat) = 2 from rfl]
 generalize hl1:l ++ r.head = l1 at e0 e1;show H _ _ _ _ _ (row _ _ _::slc p2 (l.length + 2) c2 _ _ (bytesV l ++ bytesV r.head)::A) _;rw [← e0,← e1];refine H.draw (qt 3 0 ++ qt 3 4 ++ [(3,true),(7,true)] ++ qt 1 8) (by kernel_rfl) (by decide +kernel) (by repeat (first | exact zac | refine zab ?_ | refine zah ?_ | refine zaj ?_)) (S:=[_]) rfl ?_;refine gS ?_;refine HQ.event ?_;refine H.Av (.there _ (.here _ _ _)) (by omega) fun b2 hp=>?_;subst hp;refine H.Ap rfl rfl rfl (zbw (l:=l1) f _ (Src.slcS (.there _ (.here _ _ _)) (by rw [zad];exact (Nat.mul_one _).symm)) (by omega)) fun p3 c3=>?_;refine gA ?_;refine qeC ?_;refine H.Av (.here _ _ _) (by rw [List.length_append];omega) fun b3 hp=>?_;subst hp;refine qdm ?_;refine H.back (A:=[_]) rfl ?_;refine HQ.event ?_;refine H.Ap rfl rfl rfl (zbw (l:=l1 ++ be 8 r.time) f _ (Src.slcS (.there _ (.here _ _ _)) (by rw [zad];exact (Nat.mul_one _).symm)) (by rw [List.length_append,be_len];omega)) fun p4 c4=>?_;refine gA ?_;refine qeC ?_;refine qdm ?_;refine H.back (A:=[_]) rfl ?_;refine gK ?_;refine gF ?_;obtain ⟨_,_,_,_,⟨k1,k2⟩,k3,k4⟩:=ha;generalize hl2:l1 ++ be 8 r.time ++ be 8 r.amount = l2;have e2:l2.length = l1.length + 16:=by rw [← hl2,List.length_append,List.length_append,be_len,be_len]
 refine H.Ap rfl rfl rfl (rtext_fn (l:=l2) f _ (Src.slcS (.there _ (.here _ _ _)) (by rw [zad];exact (Nat.mul_one _).symm)) (by omega) (by omega)) fun p5 c5=>?_;generalize hm0:l2 ++ textB r.key = m0;have em0:m0.length ≤ l2.length + 200:=by rw [← hm0,List.length_append];unfold textB;rw [List.length_append,be_len,zbr];omega
 refine gM ?_;refine qeC ?_;refine qdm ?_;skip;refine H.Ap rfl rfl rfl (rtext_fn (l:=m0) f _ (Src.slcS (.there _ (.here _ _ _)) (by rw [zad];exact (Nat.mul_one _).symm)) (by omega) (by omega)) fun p6 c6=>?_;generalize hm1:m0 ++ textB r.val = m1;have em1:m1.length ≤ m0.length + 200:=by rw [← hm1,List.length_append];unfold textB;rw [List.length_append,be_len,zbr];omega
 refine gM ?_;refine qeC ?_;refine qdm ?_;skip;refine H.Ap rfl rfl rfl (rtext_fn (l:=m1) f _ (Src.slcS (.there _ (.here _ _ _)) (by rw [zad];exact (Nat.mul_one _).symm)) (by omega) (by omega)) fun p7 c7=>?_;generalize hm2:m1 ++ textB r.old = m2;have em2:m2.length ≤ m1.length + 200:=by rw [← hm2,List.length_append];unfold textB;rw [List.length_append,be_len,zbr];omega
 refine gM ?_;refine qeC ?_;refine qdm ?_;skip;refine H.Ap rfl rfl rfl (rtext_fn (l:=m2) f _ (Src.slcS (.there _ (.here _ _ _)) (by rw [zad];exact (Nat.mul_one _).symm)) (by omega) (by omega)) fun p8 c8=>?_;generalize hm3:m2 ++ textB r.to = m3;have em3:m3.length ≤ m2.length + 200:=by rw [← hm3,List.length_append];unfold textB;rw [List.length_append,be_len,zbr];omega
 refine gW ?_;refine qeC ?_;refine qdm ?_;skip;refine qdp ?_;have e9:m3 = l ++ r.bytes:=by rw [← hm3,← hm2,← hm1,← hm0,← hl2,← hl1];simp [Req.bytes]
 subst e9;exact H.r1 ⟨p8,c8,rfl,rfl,rfl⟩
end
def baOf (l:List UInt8):ByteArray:=⟨l.toArray⟩
theorem H.cutOpen {P:Program} {base:World} {L:Env} {K:Kont} {cb:Nat} {sp:Bool}
  (k:∀ p c,BAt f p l→l.length ≤ c→H P base n L f (row cb 290 [.slice p l.length c,.bool sp]::F) K):H P base n L f (cutH f cb l sp::F) K:=.mk fun a w hf s=>by
 obtain ⟨m,hm,hd,hw⟩:=s.mem
 obtain ⟨m1,m2,d,rfl,⟨⟨p,c⟩,hh⟩,r⟩:=hm
 obtain ⟨n1,n2,dd,rfl,⟨⟨hb,hc⟩,rfl⟩,n3,n4,d3,rfl,h4,h5⟩:=hh
 refine (k p c hb hc).out a w hf ⟨s.os,s.tape,s.output,s.size,s.imm,_,?_,hd,hw⟩
 have e5:n4 = nil0:=h5
 subst e5
 rw [nil_un,un_nil]
 rw [nil_un,un_nil] at d
 exact ⟨n3,m2,d,rfl,h4,r⟩
def Cs.hash (s:Cs):Nat→UInt8:=fun i=>(s.raw 32).getD i 0
def b32L (t:Nat→UInt8):List UInt8:=[t 0,t 1,t 2,t 3,t 4,t 5,t 6,t 7,t 8,t 9,t 10,t 11,t 12,t 13,t 14,t 15,t 16,t 17,t 18,t 19,t 20,t 21,t 22,t 23,t 24,t 25,t 26,t 27,t 28,t 29,t 30,t 31]
theorem b32_bytes (t:Nat→UInt8):b32 t = bytesV (b32L t):=rfl
theorem list32 {α:Type} {l:List α} (h:l.length = 32) (z:α):l = [l.getD 0 z,l.getD 1 z,l.getD 2 z,l.getD 3 z,l.getD 4 z,l.getD 5 z,l.getD 6 z,l.getD 7 z,l.getD 8 z,l.getD 9 z,l.getD 10 z,l.getD 11 z,l.getD 12 z,l.getD 13 z,l.getD 14 z,l.getD 15 z,l.getD 16 z,l.getD 17 z,l.getD 18 z,l.getD 19 z,l.getD 20 z,l.getD 21 z,l.getD 22 z,l.getD 23 z,l.getD 24 z,l.getD 25 z,l.getD 26 z,l.getD 27 z,l.getD 28 z,l.getD 29 z,l.getD 30 z,l.getD 31 z]:=by
 match l,h with
 | [_,_,_,_,_,_,_,_,_,_,_,_,_,_,_,_,_,_,_,_,_,_,_,_,_,_,_,_,_,_,_,_],_=>rfl
theorem b32L_get (h:l.length = 32):b32L (fun i=>l.getD i 0) = l:=(list32 h 0).symm
section
variable (f:Frag) (F:List HP) (cb:Nat) (s:Cs)
theorem text_cs {most:Nat} (hl:s.l.length ≤ 1000000000000) (hm:most ≤ 100000) :
  Fn Tryz.prog 240 [.pointer (some ⟨cb,0,none⟩),.int .i64 (most:Nat)] f (cutC f cb s::F) (Ret (.string (baOf (s.text most))) f (cutC f cb (s.textS most)::F)):=by
 have hn:=s.num2_lt;have hh:=half_cs f F cb s hl
 unfold cutC at hh ⊢;refine cutH_open fun p c hb hc=>?_
 have fin:¬ s.tok most = true→∀ x,stars (row cb 290 [.slice p s.l.length c,.bool true]::F) x→stars (cutH f cb (s.textS most).l (s.textS most).bad::F) x:=fun ht=>by
  unfold Cs.textS;rw [if_neg ht];exact zbk hb hc
 by_cases h2:s.ok 2 = true
 ·obtain ⟨hb0,hl2⟩:=(Cs.ok_iff _ _).1 h2;have hs:s.skip 2 = ⟨s.l.drop 2,false⟩:=by unfold Cs.skip;rw [if_pos h2]
  rw [hs] at hh;generalize hk:s.num 2 = k at hn hh;by_cases h3:k ≤ most
  ·by_cases h4 : k ≤ (s.l.drop 2).length
   ·have ht:s.tok most = true:=by
     rw [List.length_drop] at h4;simp [Cs.tok,h2,hk,h3];omega
    have e1:s.text most = (s.l.drop 2).take k:=by unfold Cs.text;rw [if_pos ht,hk]
    have e2:s.textS most = ⟨(s.l.drop 2).drop k,false⟩:=by unfold Cs.textS;rw [if_pos ht,hk,List.drop_drop]
    rw [e1,e2];have hlen:((s.l.drop 2).take k).length = k:=by rw [List.length_take];omega
    refine Fn.e2 Tryz.func240 Tryz.ntmps240 fun base=>?_;refine qez fun p2 c2 hb2 hc2=>?_;refine gT ?_;refine H.imp (zbk hb2 hc2) ?_;have hty:=take_yes f F cb h4 (by rw [List.length_drop];omega);refine H.callP rfl rfl rfl hty fun i hb3=>?_
    obtain ⟨p3,c3⟩:=i;have hb3:BAt f p3 ((s.l.drop 2).take k):=hb3;refine gF ?_
    refine H.cutOpen fun p4 c4 hb4 hc4=>?_;refine ga ?_;have hsrc:∀ A,Src Tryz.prog f A (.slice p3 ((s.l.drop 2).take k).length c3) 1 ((s.l.drop 2).take k).length (bytesV ((s.l.drop 2).take k)):=fun A=>hb3.src;have hnil:p3 = none→(s.l.drop 2).take k = []:=fun hp=>by rcases hb3 with h | ⟨b,off,cs,T,fr,h,_⟩;exact h;rw [hp] at h;cases h
    refine H.Bh (d:=41) (u:=.slice p3 ((s.l.drop 2).take k).length c3) rfl (by rw [hlen]) ?_;refine H.convBS rfl rfl (hsrc _) hnil rfl ?_;refine gR ?_;exact H.Ad rfl rfl (zbk hb4 hc4) ⟨rfl,rfl,rfl⟩
   ·have ht:¬ s.tok most = true:=by
     rw [List.length_drop] at h4;simp [Cs.tok,h2,hk,h3];omega
    have e1:s.text most = []:=by unfold Cs.text;rw [if_neg ht]
    rw [e1];refine Fn.e2 Tryz.func240 Tryz.ntmps240 fun base=>?_;refine qez fun p2 c2 hb2 hc2=>?_;refine gT ?_;refine H.imp (zbk hb2 hc2) ?_;refine H.Af rfl rfl rfl (take_no f F cb (.inr (.inr (by show ((s.l.drop 2).length:Int) < _;omega)))) ?_;exact qbp
  ·have ht:¬ s.tok most = true:=by
    simp [Cs.tok,h2,hk,h3]
   have e1:s.text most = []:=by unfold Cs.text;rw [if_neg ht]
   rw [e1];refine Fn.e2 Tryz.func240 Tryz.ntmps240 fun base=>?_;refine qez fun p2 c2 hb2 hc2=>?_;refine gV ?_;exact qcG
 ·have ht:¬ s.tok most = true:=by simp [Cs.tok,h2]
  have e1:s.text most = []:=by unfold Cs.text;rw [if_neg ht]
  have hs:s.skip 2 = ⟨s.l,true⟩:=by unfold Cs.skip;rw [if_neg h2]
  rw [hs] at hh;rw [e1];generalize hk:s.num 2 = k at hn hh;refine Fn.e2 Tryz.func240 Tryz.ntmps240 fun base=>?_;refine qez fun p2 c2 hb2 hc2=>?_;refine ga ?_;exact qcG
theorem hash_cs (hl:s.l.length ≤ 1000000000) :
  Fn Tryz.prog 205 [.pointer (some ⟨cb,0,none⟩)] f (cutC f cb s::F) (Ret (.agg (b32 s.hash).toArray) f (cutC f cb (s.skip 32)::F)):=by
 refine Fn.e1 Tryz.func205 Tryz.ntmps205 fun base=>?_;refine gA ?_;refine H.Ak rfl rfl rfl fun hb=>?_;refine gA ?_;refine H.db (S:=[]) rfl ?_;refine HB.qu [0,1] 2 ?_;refine qdr ?_;refine gB ?_;refine qdb ?_;refine HB.ev 2 ?_;refine qdm ?_;refine H.Ap rfl rfl rfl (raw_cs f _ cb s 32 (by omega)) fun p1 c1=>?_;refine qcS ?_;refine HB.ev 3 ?_;by_cases h:s.ok 32 = true
 ·have hr:(s.raw 32).length = 32:=by
   unfold Cs.raw;rw [if_pos h,List.length_take]
   have:=((Cs.ok_iff _ _).1 h).2;omega
  have hs:Src Tryz.prog f _ (.slice p1 (s.raw 32).length c1) 1 (s.raw 32).length (bytesV (s.raw 32)):=Src.slcS (.here (cutC f cb (s.skip 32)::row hb 42 (zeros [.int .u8 0] 32)::F) _ (slc p1 (s.raw 32).length c1 5 1 (bytesV (s.raw 32)))) (by rw [zad];exact (Nat.mul_one _).symm);refine H.copy rfl rfl rfl rfl hs.len (k0:=(s.raw 32).length) (by rw [hr];rfl) hs.cells (ls':=bytesV (s.raw 32)) ?_ ?_ (zal _) (by repeat constructor) ?_
  ·unfold splice;rw [zad,hr];exact List.append_nil _
  ·rw [zad,hr];exact Nat.le_refl _
  refine qdD ?_;refine gA ?_;have e:bytesV (s.raw 32) = b32 s.hash:=by rw [b32_bytes];unfold Cs.hash;rw [b32L_get hr]
  rw [e];refine H.Ae (ls:=b32 s.hash) rfl rfl rfl (Rd.ofRow (by repeat constructor)) rfl rfl ?_;refine H.Ah (ls:=b32 s.hash) (vs:=b32 s.hash) (ls':=b32 s.hash) rfl rfl rfl (zaa rfl) rfl rfl (Nat.le_refl 32) (by repeat constructor) ?_;refine qfm ?_;exact qbr
 ·have hr:s.raw 32 = []:=by unfold Cs.raw;rw [if_neg h]
  have hh:b32 s.hash = zeros [.int .u8 0] 32:=by unfold Cs.hash;rw [hr];rfl
  rw [hr,hh];refine H.copy (m:=0) (k0:=0) (cs:=[]) (ls':=zeros [.int .u8 0] 32) rfl rfl rfl rfl (fun w=>rfl) rfl (fun base w sa=>?_) rfl (by decide) (fun v hv=>by cases hv) (by repeat constructor) ?_
  ·cases p1 with
   | none=>exact run_firstCells_none w 1 0 0 c1
   | some a=>exact run_firstCells_some w 1 0 a 0 c1 [] (by simp) (by simp)
  refine qdD ?_;refine gA ?_;refine H.Ae (ls:=zeros [.int .u8 0] 32) rfl rfl rfl (Rd.ofRow (by repeat constructor)) rfl rfl ?_;refine H.Ah (ls:=zeros [.int .u8 0] 32) (vs:=zeros [.int .u8 0] 32) (ls':=zeros [.int .u8 0] 32) rfl rfl rfl (zaa rfl) rfl rfl (Nat.le_refl 32) (by repeat constructor) ?_;refine qfm ?_;exact qbr
end
end Go.Proofs.YtminmjlfmolfeaaGreatDoor
