/- Parts of the proof. No conditions. -/
import Derived.Test.YtkaknokcbhiigaaGreatDoorZ02
import Derived.Test.YtkaknokcbhiigaaGreatDoorProg
import Derived.LaidMore
import Derived.OpenShut
import Derived.Handed
import Derived.MakeChecks
import Derived.Stop.Joined
import Derived.SevenTiedAt
import Derived.DeepKeys3
import Derived.Laws.IdiomRangeMap
set_option linter.unusedSectionVars false
/- Facts on the types and the functions of this translation, as instances: printed by a program (types.py). -/
set_option maxHeartbeats 1600000
set_option maxRecDepth 20000
namespace Go.Proofs.YtkaknokcbhiigaaGreatDoor
open Go Tryz
instance ty14:Und prog 3 (Go.TypeDesc.int Go.IntKind.i64):=⟨underlying3⟩
instance ty15:Siz prog 3 1:=⟨jD⟩
instance ty16:Byt prog 3 8:=⟨jD⟩
instance ty17:Zer prog 3 (.int .i64 0):=⟨jD⟩
instance ty18:Und prog 4 (Go.TypeDesc.bool):=⟨underlying4⟩
instance ty19:Siz prog 4 1:=⟨jD⟩
instance ty21:Zer prog 4 (.bool false):=⟨jD⟩
instance ty22:Und prog 5 (Go.TypeDesc.int Go.IntKind.u8):=⟨underlying5⟩
instance ty23:Siz prog 5 1:=⟨jD⟩
instance ty24:Byt prog 5 1:=⟨jD⟩
instance ty25:Zer prog 5 (.int .u8 0):=⟨jD⟩
instance ty40:Und prog 9 (Go.TypeDesc.string):=⟨underlying9⟩
instance ty41:Siz prog 9 1:=⟨jD⟩
instance ty43:Zer prog 9 (.string ByteArray.empty):=⟨jD⟩
instance ty96:Und prog 22 (Go.TypeDesc.slice 71):=⟨underlying22⟩
instance ty100:Und prog 23 (Go.TypeDesc.slice 5):=⟨underlying23⟩
instance ty101:Siz prog 23 1:=⟨jD⟩
instance ty103:Zer prog 23 (.slice none 0 0):=⟨jD⟩
instance ty120:Und prog 28 (Go.TypeDesc.slice 37):=⟨underlying28⟩
instance ty121:Siz prog 28 1:=⟨jD⟩
instance ty124:Und prog 29 (Go.TypeDesc.slice 54):=⟨underlying29⟩
instance ty125:Siz prog 29 1:=⟨jD⟩
instance ty128:Und prog 30 (Go.TypeDesc.pointer 152):=⟨underlying30⟩
instance ty129:Siz prog 30 1:=⟨jD⟩
instance ty137:type_of% (Und.mk underlying32):=⟨underlying32⟩
instance ty140:Plc prog 32 [(0,1),(1,1),(2,1)]:=⟨fun fs w h=>by rw[underlying32]at h;cases h;kernel_rfl⟩
instance ty141:Zer prog 32 (.agg (([.slice none 0 0,.slice none 0 0,.pointer none]:List Value)).toArray):=⟨jD⟩
instance ty142:Und prog 33 (Go.TypeDesc.slice 56):=⟨underlying33⟩
instance ty143:Siz prog 33 1:=⟨jD⟩
instance ty146:Und prog 34 (Go.TypeDesc.slice 68):=⟨underlying34⟩
instance ty147:Siz prog 34 1:=⟨jD⟩
instance ty150:Und prog 35 (Go.TypeDesc.int Go.IntKind.u64):=⟨underlying35⟩
instance ty151:Siz prog 35 1:=⟨jD⟩
instance ty152:Byt prog 35 8:=⟨jD⟩
instance ty153:Zer prog 35 (.int .u64 0):=⟨jD⟩
instance ty158:Und prog 37 (Go.TypeDesc.array 11 35):=⟨underlying37⟩
instance ty159:Siz prog 37 11:=⟨jD⟩
instance ty160:Byt prog 37 88:=⟨jD⟩
instance ty161:Zer prog 37 (.agg ((List.replicate 11 (.int .u64 0):List Value)).toArray):=⟨jD⟩
instance ty162:Und prog 38 (Go.TypeDesc.slice 49):=⟨underlying38⟩
instance ty163:Siz prog 38 1:=⟨jD⟩
instance ty171:type_of% (Und.mk underlying40):=⟨underlying40⟩
instance ty172:Siz prog 40 15:=⟨jD⟩
instance ty174:Plc prog 40 [(0,1),(1,1),(2,11),(13,1),(14,1)]:=⟨fun fs w h=>by rw[underlying40]at h;cases h;kernel_rfl⟩
instance ty175:Zer prog 40 (.agg (([.slice none 0 0,.slice none 0 0]:List Value)++(List.replicate 11 (.int .u64 0):List Value)++([.slice none 0 0,.int .u64 0]:List Value)).toArray):=⟨jD⟩
instance ty185:Und prog 44 (Go.TypeDesc.slice 3):=⟨underlying44⟩
instance ty186:Siz prog 44 1:=⟨jD⟩
instance ty194:type_of% (Und.mk underlying46):=⟨underlying46⟩
instance ty195:Siz prog 46 6:=⟨jD⟩
instance ty197:Plc prog 46 [(0,1),(1,1),(2,1),(3,1),(4,1),(5,1)]:=⟨fun fs w h=>by rw[underlying46]at h;cases h;kernel_rfl⟩
instance ty198:Zer prog 46 (.agg (([.int .u8 0,.string ByteArray.empty,.string ByteArray.empty,.string ByteArray.empty,.string ByteArray.empty,.int .u64 0]:List Value)).toArray):=⟨jD⟩
instance ty199:Und prog 47 (Go.TypeDesc.array 32 5):=⟨underlying47⟩
instance ty200:Siz prog 47 32:=⟨jD⟩
instance ty202:Zer prog 47 (.agg ((List.replicate 32 (.int .u8 0):List Value)).toArray):=⟨jD⟩
instance ty208:type_of% (Und.mk underlying49):=⟨underlying49⟩
instance ty209:Siz prog 49 40:=⟨jD⟩
instance ty210:Byt prog 49 128:=⟨jD⟩
instance ty211:Plc prog 49 [(0,1),(1,1),(2,6),(8,32)]:=⟨fun fs w h=>by rw[underlying49]at h;cases h;kernel_rfl⟩
instance ty212:Zer prog 49 (.agg (([.int .i64 0,.int .u64 0,.int .u8 0,.string ByteArray.empty,.string ByteArray.empty,.string ByteArray.empty,.string ByteArray.empty,.int .u64 0]:List Value)++(List.replicate 32 (.int .u8 0):List Value)).toArray):=⟨jD⟩
instance ty213:Und prog 50 (Go.TypeDesc.slice 127):=⟨underlying50⟩
instance ty214:Siz prog 50 1:=⟨jD⟩
instance ty222:type_of% (Und.mk underlying52):=⟨underlying52⟩
instance ty223:Siz prog 52 76:=⟨jD⟩
instance ty225:Plc prog 52 [(0,1),(1,1),(2,1),(3,40),(43,1),(44,32)]:=⟨fun fs w h=>by rw[underlying52]at h;cases h;kernel_rfl⟩
instance ty226:Zer prog 52 (.agg (([.int .u8 0,.int .u64 0,.int .u64 0,.int .i64 0,.int .u64 0,.int .u8 0,.string ByteArray.empty,.string ByteArray.empty,.string ByteArray.empty,.string ByteArray.empty,.int .u64 0]:List Value)++(List.replicate 32 (.int .u8 0):List Value)++([.slice none 0 0]:List Value)++(List.replicate 32 (.int .u8 0):List Value)).toArray):=⟨jD⟩
instance ty232:type_of% (Und.mk underlying54):=⟨underlying54⟩
instance ty233:Siz prog 54 121:=⟨jD⟩
instance ty234:Byt prog 54 344:=⟨jD⟩
instance ty235:Plc prog 54 [(0,1),(1,1),(2,11),(13,76),(89,32)]:=⟨fun fs w h=>by rw[underlying54]at h;cases h;kernel_rfl⟩
instance ty236:Zer prog 54 (.agg (([.int .i64 0,.int .u64 0]:List Value)++(List.replicate 11 (.int .u64 0):List Value)++([.int .u8 0,.int .u64 0,.int .u64 0,.int .i64 0,.int .u64 0,.int .u8 0,.string ByteArray.empty,.string ByteArray.empty,.string ByteArray.empty,.string ByteArray.empty,.int .u64 0]:List Value)++(List.replicate 32 (.int .u8 0):List Value)++([.slice none 0 0]:List Value)++(List.replicate 32 (.int .u8 0):List Value)++(List.replicate 32 (.int .u8 0):List Value)).toArray):=⟨jD⟩
instance ty241:Und prog 56 (Go.TypeDesc.int Go.IntKind.u8):=⟨underlying56⟩
instance ty242:Siz prog 56 1:=⟨jD⟩
instance ty243:Byt prog 56 1:=⟨jD⟩
instance ty244:Zer prog 56 (.int .u8 0):=⟨jD⟩
instance ty284:type_of% (Und.mk underlying68):=⟨underlying68⟩
instance ty285:Siz prog 68 4:=⟨jD⟩
instance ty286:Byt prog 68 32:=⟨jD⟩
instance ty287:Plc prog 68 [(0,1),(1,1),(2,1),(3,1)]:=⟨fun fs w h=>by rw[underlying68]at h;cases h;kernel_rfl⟩
instance ty288:Zer prog 68 (.agg (([.int .i64 0,.int .u64 0,.int .i64 0,.int .i64 0]:List Value)).toArray):=⟨jD⟩
instance ty298:type_of% (Und.mk underlying71):=⟨underlying71⟩
instance ty299:Siz prog 71 12:=⟨jD⟩
instance ty328:Und prog 79 (Go.TypeDesc.pointer 117):=⟨underlying79⟩
instance ty329:Siz prog 79 1:=⟨jD⟩
instance ty332:Und prog 80 (Go.TypeDesc.pointer 124):=⟨underlying80⟩
instance ty333:Siz prog 80 1:=⟨jD⟩
instance ty341:type_of% (Und.mk underlying82):=⟨underlying82⟩
instance ty344:Plc prog 82 [(0,1),(1,1),(2,1),(3,1),(4,15),(19,1)]:=⟨fun fs w h=>by rw[underlying82]at h;cases h;kernel_rfl⟩
instance ty345:Zer prog 82 (.agg (([.int .i64 0,.slice none 0 0,.pointer none,.pointer none,.slice none 0 0,.slice none 0 0]:List Value)++(List.replicate 11 (.int .u64 0):List Value)++([.slice none 0 0,.int .u64 0,.slice none 0 0]:List Value)).toArray):=⟨jD⟩
instance ty346:Und prog 83 (Go.TypeDesc.map 3 54):=⟨underlying83⟩
instance ty436:Und prog 110 (Go.TypeDesc.slice 35):=⟨underlying110⟩
instance ty437:Siz prog 110 1:=⟨jD⟩
instance ty452:Und prog 114 (Go.TypeDesc.array 11 29):=⟨underlying114⟩
instance ty453:Siz prog 114 11:=⟨jD⟩
instance ty456:Und prog 115 (Go.TypeDesc.slice 119):=⟨underlying115⟩
instance ty457:Siz prog 115 1:=⟨jD⟩
instance ty465:type_of% (Und.mk underlying117):=⟨underlying117⟩
instance ty468:Plc prog 117 [(0,1),(1,11),(12,1)]:=⟨fun fs w h=>by rw[underlying117]at h;cases h;kernel_rfl⟩
instance ty469:Zer prog 117 (.agg (([.int .i64 0]:List Value)++(List.replicate 11 (.slice none 0 0):List Value)++([.slice none 0 0]:List Value)).toArray):=⟨jD⟩
instance ty475:type_of% (Und.mk underlying119):=⟨underlying119⟩
instance ty476:Siz prog 119 2:=⟨jD⟩
instance ty477:Byt prog 119 16:=⟨jD⟩
instance ty478:Plc prog 119 [(0,1),(1,1)]:=⟨fun fs w h=>by rw[underlying119]at h;cases h;kernel_rfl⟩
instance ty479:Zer prog 119 (.agg (([.int .i64 0,.int .i64 0]:List Value)).toArray):=⟨jD⟩
instance ty480:Und prog 120 (Go.TypeDesc.map 35 159):=⟨underlying120⟩
instance ty481:Siz prog 120 1:=⟨jD⟩
instance ty484:Und prog 121 (Go.TypeDesc.slice 131):=⟨underlying121⟩
instance ty485:Siz prog 121 1:=⟨jD⟩
instance ty488:Und prog 122 (Go.TypeDesc.slice 226):=⟨underlying122⟩
instance ty489:Siz prog 122 1:=⟨jD⟩
instance ty497:type_of% (Und.mk underlying124):=⟨underlying124⟩
instance ty500:Plc prog 124 [(0,1),(1,11),(12,1),(13,1),(14,1)]:=⟨fun fs w h=>by rw[underlying124]at h;cases h;kernel_rfl⟩
instance ty501:Zer prog 124 (.agg (([.int .i64 0]:List Value)++(List.replicate 11 (.int .u64 0):List Value)++([.map none,.slice none 0 0,.slice none 0 0]:List Value)).toArray):=⟨jD⟩
instance ty511:type_of% (Und.mk underlying127):=⟨underlying127⟩
instance ty512:Siz prog 127 2:=⟨jD⟩
instance ty513:Byt prog 127 16:=⟨jD⟩
instance ty514:Plc prog 127 [(0,1),(1,1)]:=⟨fun fs w h=>by rw[underlying127]at h;cases h;kernel_rfl⟩
instance ty515:Zer prog 127 (.agg (([.int .i64 0,.int .u64 0]:List Value)).toArray):=⟨jD⟩
instance ty528:Und prog 131 (Go.TypeDesc.pointer 209):=⟨underlying131⟩
instance ty529:Siz prog 131 1:=⟨jD⟩
instance ty530:Byt prog 131 8:=⟨jD⟩
instance ty531:Zer prog 131 (.pointer none):=⟨jD⟩
instance ty546:Und prog 137 (Go.TypeDesc.func #[52] #[4] false):=⟨underlying137⟩
instance ty547:Siz prog 137 1:=⟨jD⟩
instance ty575:Und prog 145 (Go.TypeDesc.slice 205):=⟨underlying145⟩
instance ty576:Siz prog 145 1:=⟨jD⟩
instance ty584:type_of% (Und.mk underlying147):=⟨underlying147⟩
instance ty585:Siz prog 147 4:=⟨jD⟩
instance ty586:Byt prog 147 64:=⟨jD⟩
instance ty587:Plc prog 147 [(0,1),(1,1),(2,1),(3,1)]:=⟨fun fs w h=>by rw[underlying147]at h;cases h;kernel_rfl⟩
instance ty588:Zer prog 147 (.agg (([.int .u64 0,.int .u64 0,.slice none 0 0,.slice none 0 0]:List Value)).toArray):=⟨jD⟩
instance ty589:Und prog 148 (Go.TypeDesc.slice 147):=⟨underlying148⟩
instance ty590:Siz prog 148 1:=⟨jD⟩
instance ty593:Und prog 149 (Go.TypeDesc.slice 195):=⟨underlying149⟩
instance ty594:Siz prog 149 1:=⟨jD⟩
instance ty597:Und prog 150 (Go.TypeDesc.slice 153):=⟨underlying150⟩
instance ty598:Siz prog 150 1:=⟨jD⟩
instance ty606:type_of% (Und.mk underlying152):=⟨underlying152⟩
instance ty609:Plc prog 152 [(0,1),(1,11),(12,1),(13,1),(14,1)]:=⟨fun fs w h=>by rw[underlying152]at h;cases h;kernel_rfl⟩
instance ty610:Zer prog 152 (.agg (([.int .i64 0]:List Value)++(List.replicate 11 (.int .u64 0):List Value)++([.slice none 0 0,.slice none 0 0,.slice none 0 0]:List Value)).toArray):=⟨jD⟩
instance ty611:Und prog 153 (Go.TypeDesc.pointer 194):=⟨underlying153⟩
instance ty612:Siz prog 153 1:=⟨jD⟩
instance ty613:Byt prog 153 8:=⟨jD⟩
instance ty614:Zer prog 153 (.pointer none):=⟨jD⟩
instance ty635:Und prog 159 (Go.TypeDesc.pointer 162):=⟨underlying159⟩
instance ty638:Zer prog 159 (.pointer none):=⟨jD⟩
instance ty639:Und prog 160 (Go.TypeDesc.map 234 4):=⟨underlying160⟩
instance ty640:Siz prog 160 1:=⟨jD⟩
instance ty648:type_of% (Und.mk underlying162):=⟨underlying162⟩
instance ty651:Plc prog 162 [(0,1),(1,1),(2,1),(3,1),(4,1)]:=⟨fun fs w h=>by rw[underlying162]at h;cases h;kernel_rfl⟩
instance ty652:Zer prog 162 (.agg (([.int .u64 0,.int .i64 0,.slice none 0 0,.slice none 0 0,.map none]:List Value)).toArray):=⟨jD⟩
instance ty657:Und prog 164 (Go.TypeDesc.map 166 3):=⟨underlying164⟩
instance ty666:type_of% (Und.mk underlying166):=⟨underlying166⟩
instance ty667:Siz prog 166 2:=⟨jD⟩
instance ty669:Plc prog 166 [(0,1),(1,1)]:=⟨fun fs w h=>by rw[underlying166]at h;cases h;kernel_rfl⟩
instance ty670:Zer prog 166 (.agg (([.int .i64 0,.int .u64 0]:List Value)).toArray):=⟨jD⟩
instance ty731:Und prog 182 (Go.TypeDesc.int Go.IntKind.u64):=⟨underlying182⟩
instance ty735:Und prog 183 (Go.TypeDesc.int Go.IntKind.u32):=⟨underlying183⟩
instance ty736:Siz prog 183 1:=⟨jD⟩
instance ty739:Und prog 184 (Go.TypeDesc.array 8 183):=⟨underlying184⟩
instance ty740:Siz prog 184 8:=⟨jD⟩
instance ty742:Zer prog 184 (.agg ((List.replicate 8 (.int .u32 0):List Value)).toArray):=⟨jD⟩
instance ty747:Und prog 186 (Go.TypeDesc.array 64 5):=⟨underlying186⟩
instance ty748:Siz prog 186 64:=⟨jD⟩
instance ty750:Zer prog 186 (.agg ((List.replicate 64 (.int .u8 0):List Value)).toArray):=⟨jD⟩
instance ty759:Und prog 189 (Go.TypeDesc.int Go.IntKind.u16):=⟨underlying189⟩
instance ty768:type_of% (Und.mk underlying191):=⟨underlying191⟩
instance ty769:Siz prog 191 2:=⟨jD⟩
instance ty770:Byt prog 191 16:=⟨jD⟩
instance ty771:Plc prog 191 [(0,1),(1,1)]:=⟨fun fs w h=>by rw[underlying191]at h;cases h;kernel_rfl⟩
instance ty772:Zer prog 191 (.agg (([.int .u64 0,.int .i64 0]:List Value)).toArray):=⟨jD⟩
instance ty773:Und prog 192 (Go.TypeDesc.slice 191):=⟨underlying192⟩
instance ty774:Siz prog 192 1:=⟨jD⟩
instance ty782:type_of% (Und.mk underlying194):=⟨underlying194⟩
instance ty785:Plc prog 194 [(0,1),(1,1)]:=⟨fun fs w h=>by rw[underlying194]at h;cases h;kernel_rfl⟩
instance ty786:Zer prog 194 (.agg (([.int .u64 0,.slice none 0 0]:List Value)).toArray):=⟨jD⟩
instance ty787:Und prog 195 (Go.TypeDesc.slice 197):=⟨underlying195⟩
instance ty788:Siz prog 195 1:=⟨jD⟩
instance ty789:Byt prog 195 24:=⟨jD⟩
instance ty790:Zer prog 195 (.slice none 0 0):=⟨jD⟩
instance ty796:type_of% (Und.mk underlying197):=⟨underlying197⟩
instance ty797:Siz prog 197 2:=⟨jD⟩
instance ty798:Byt prog 197 16:=⟨jD⟩
instance ty799:Plc prog 197 [(0,1),(1,1)]:=⟨fun fs w h=>by rw[underlying197]at h;cases h;kernel_rfl⟩
instance ty800:Zer prog 197 (.agg (([.int .u64 0,.int .u64 0]:List Value)).toArray):=⟨jD⟩
instance ty830:type_of% (Und.mk underlying205):=⟨underlying205⟩
instance ty831:Siz prog 205 41:=⟨jD⟩
instance ty832:Byt prog 205 136:=⟨jD⟩
instance ty833:Plc prog 205 [(0,1),(1,40)]:=⟨fun fs w h=>by rw[underlying205]at h;cases h;kernel_rfl⟩
instance ty834:Zer prog 205 (.agg (([.int .u64 0,.int .i64 0,.int .u64 0,.int .u8 0,.string ByteArray.empty,.string ByteArray.empty,.string ByteArray.empty,.string ByteArray.empty,.int .u64 0]:List Value)++(List.replicate 32 (.int .u8 0):List Value)).toArray):=⟨jD⟩
instance ty839:Und prog 207 (Go.TypeDesc.map 35 3):=⟨underlying207⟩
instance ty840:Siz prog 207 1:=⟨jD⟩
instance ty848:type_of% (Und.mk underlying209):=⟨underlying209⟩
instance ty851:Plc prog 209 [(0,1),(1,1),(2,1)]:=⟨fun fs w h=>by rw[underlying209]at h;cases h;kernel_rfl⟩
instance ty852:Zer prog 209 (.agg (([.int .u64 0,.slice none 0 0,.map none]:List Value)).toArray):=⟨jD⟩
instance ty877:Und prog 216 (Go.TypeDesc.func #[23,52] #[23] false):=⟨underlying216⟩
instance ty878:Siz prog 216 1:=⟨jD⟩
instance ty881:Und prog 217 (Go.TypeDesc.func #[223,225] #[] false):=⟨underlying217⟩
instance ty882:Siz prog 217 1:=⟨jD⟩
instance ty890:type_of% (Und.mk underlying219):=⟨underlying219⟩
instance ty891:Siz prog 219 3:=⟨jD⟩
instance ty893:Plc prog 219 [(0,1),(1,1),(2,1)]:=⟨fun fs w h=>by rw[underlying219]at h;cases h;kernel_rfl⟩
instance ty894:Zer prog 219 (.agg (([.nilFunc,.nilFunc,.nilFunc]:List Value)).toArray):=⟨jD⟩
instance ty896:Und prog 221 (Go.TypeDesc.map 5 219):=⟨underlying221⟩
instance ty904:Und prog 223 (Go.TypeDesc.pointer 261):=⟨underlying223⟩
instance ty916:Und prog 226 (Go.TypeDesc.slice 228):=⟨underlying226⟩
instance ty917:Siz prog 226 1:=⟨jD⟩
instance ty918:Byt prog 226 24:=⟨jD⟩
instance ty919:Zer prog 226 (.slice none 0 0):=⟨jD⟩
instance ty925:type_of% (Und.mk underlying228):=⟨underlying228⟩
instance ty926:Siz prog 228 2:=⟨jD⟩
instance ty927:Byt prog 228 16:=⟨jD⟩
instance ty928:Plc prog 228 [(0,1),(1,1)]:=⟨fun fs w h=>by rw[underlying228]at h;cases h;kernel_rfl⟩
instance ty929:Zer prog 228 (.agg (([.int .u64 0,.int .u64 0]:List Value)).toArray):=⟨jD⟩
instance ty951:type_of% (Und.mk underlying234):=⟨underlying234⟩
instance ty954:Plc prog 234 [(0,1),(1,1)]:=⟨fun fs w h=>by rw[underlying234]at h;cases h;kernel_rfl⟩
instance ty955:Zer prog 234 (.agg (([.int .i64 0,.int .u64 0]:List Value)).toArray):=⟨jD⟩
instance ty956:Und prog 235 (Go.TypeDesc.array 64 183):=⟨underlying235⟩
instance ty957:Siz prog 235 64:=⟨jD⟩
instance ty959:Zer prog 235 (.agg ((List.replicate 64 (.int .u32 0):List Value)).toArray):=⟨jD⟩
instance ty976:Und prog 240 (Go.TypeDesc.slice 23):=⟨underlying240⟩
instance ty1058:type_of% (Und.mk underlying261):=⟨underlying261⟩
instance ty1061:Plc prog 261 [(0,1),(1,1)]:=⟨fun fs w h=>by rw[underlying261]at h;cases h;kernel_rfl⟩
instance ty1062:Zer prog 261 (.agg (([.slice none 0 0,.bool false]:List Value)).toArray):=⟨jD⟩
instance ty1099:Und prog 271 (Go.TypeDesc.int Go.IntKind.u64):=⟨underlying271⟩
instance ty1100:Siz prog 271 1:=⟨jD⟩
instance ty1102:Zer prog 271 (.int .u64 0):=⟨jD⟩
instance ty1119:Und prog 276 (Go.TypeDesc.slice 9):=⟨underlying276⟩
instance ty1168:Und prog 289 (Go.TypeDesc.pointer 295):=⟨underlying289⟩
instance ty1193:type_of% (Und.mk underlying295):=⟨underlying295⟩
instance ty1194:Siz prog 295 74:=⟨jD⟩
instance ty1196:Plc prog 295 [(0,8),(8,64),(72,1),(73,1)]:=⟨fun fs w h=>by rw[underlying295]at h;cases h;kernel_rfl⟩
instance ty1197:Zer prog 295 (.agg ((List.replicate 8 (.int .u32 0):List Value)++(List.replicate 64 (.int .u8 0):List Value)++([.int .i64 0,.int .u64 0]:List Value)).toArray):=⟨jD⟩
instance ty1210:Und prog 299 (Go.TypeDesc.slice 183):=⟨underlying299⟩
instance ty1288:Fun prog 7:=.i func7
instance ty1289:Fun prog 8:=.i func8
instance ty1290:Fun prog 9:=.i func9
instance ty1291:Fun prog 10:=.i func10
instance ty1293:Fun prog 12:=.i func12
instance ty1294:Fun prog 13:=.i func13
instance ty1295:Fun prog 14:=.i func14
instance ty1296:Fun prog 15:=.i func15
instance ty1297:Fun prog 16:=.i func16
instance ty1298:Fun prog 17:=.i func17
instance ty1299:Fun prog 18:=.i func18
instance ty1300:Fun prog 19:=.i func19
instance ty1301:Fun prog 20:=.i func20
instance ty1302:Fun prog 21:=.i func21
instance ty1303:Fun prog 22:=.i func22
instance ty1304:Fun prog 23:=.i func23
instance ty1305:Fun prog 24:=.i func24
instance ty1306:Fun prog 25:=.i func25
instance ty1307:Fun prog 26:=.i func26
instance ty1308:Fun prog 27:=.i func27
instance ty1309:Fun prog 28:=.i func28
instance ty1310:Fun prog 29:=.i func29
instance ty1311:Fun prog 30:=.i func30
instance ty1312:Fun prog 31:=.i func31
instance ty1313:Fun prog 32:=.i func32
instance ty1314:Fun prog 33:=.i func33
instance ty1315:Fun prog 34:=.i func34
instance ty1316:Fun prog 35:=.i func35
instance ty1317:Fun prog 36:=.i func36
instance ty1318:Fun prog 37:=.i func37
instance ty1319:Fun prog 38:=.i func38
instance ty1320:Fun prog 39:=.i func39
instance ty1321:Fun prog 40:=.i func40
instance ty1322:Fun prog 41:=.i func41
instance ty1323:Fun prog 42:=.i func42
instance ty1324:Fun prog 43:=.i func43
instance ty1325:Fun prog 44:=.i func44
instance ty1326:Fun prog 45:=.i func45
instance ty1327:Fun prog 46:=.i func46
instance ty1328:Fun prog 47:=.i func47
instance ty1329:Fun prog 48:=.i func48
instance ty1330:Fun prog 49:=.i func49
instance ty1331:Fun prog 50:=.i func50
instance ty1332:Fun prog 51:=.i func51
instance ty1333:Fun prog 52:=.i func52
instance ty1334:Fun prog 53:=.i func53
instance ty1335:Fun prog 54:=.i func54
instance ty1336:Fun prog 55:=.i func55
instance ty1337:Fun prog 56:=.i func56
instance ty1338:Fun prog 57:=.i func57
instance ty1339:Fun prog 58:=.i func58
instance ty1340:Fun prog 59:=.i func59
instance ty1341:Fun prog 60:=.i func60
instance ty1342:Fun prog 61:=.i func61
instance ty1343:Fun prog 62:=.i func62
instance ty1344:Fun prog 63:=.i func63
instance ty1345:Fun prog 64:=.i func64
instance ty1346:Fun prog 65:=.i func65
instance ty1347:Fun prog 66:=.i func66
instance ty1348:Fun prog 67:=.i func67
instance ty1349:Fun prog 68:=.i func68
instance ty1350:Fun prog 69:=.i func69
instance ty1351:Fun prog 70:=.i func70
instance ty1352:Fun prog 71:=.i func71
instance ty1353:Fun prog 72:=.i func72
instance ty1354:Fun prog 73:=.i func73
instance ty1355:Fun prog 74:=.i func74
instance ty1356:Fun prog 75:=.i func75
instance ty1357:Fun prog 76:=.i func76
instance ty1358:Fun prog 77:=.i func77
instance ty1359:Fun prog 78:=.i func78
instance ty1360:Fun prog 79:=.i func79
instance ty1361:Fun prog 80:=.i func80
instance ty1362:Fun prog 81:=.i func81
instance ty1363:Fun prog 82:=.i func82
instance ty1364:Fun prog 83:=.i func83
instance ty1365:Fun prog 84:=.i func84
instance ty1366:Fun prog 85:=.i func85
instance ty1367:Fun prog 86:=.i func86
instance ty1368:Fun prog 87:=.i func87
instance ty1369:Fun prog 88:=.i func88
instance ty1370:Fun prog 89:=.i func89
instance ty1371:Fun prog 90:=.i func90
instance ty1372:Fun prog 91:=.i func91
instance ty1373:Fun prog 92:=.i func92
instance ty1374:Fun prog 93:=.i func93
instance ty1375:Fun prog 94:=.i func94
instance ty1376:Fun prog 95:=.i func95
instance ty1377:Fun prog 96:=.i func96
instance ty1378:Fun prog 97:=.i func97
instance ty1379:Fun prog 98:=.i func98
instance ty1380:Fun prog 99:=.i func99
instance ty1381:Fun prog 100:=.i func100
instance ty1382:Fun prog 101:=.i func101
instance ty1383:Fun prog 102:=.i func102
instance ty1384:Fun prog 103:=.i func103
instance ty1385:Fun prog 104:=.i func104
instance ty1386:Fun prog 105:=.i func105
instance ty1387:Fun prog 106:=.i func106
instance ty1388:Fun prog 107:=.i func107
instance ty1389:Fun prog 108:=.i func108
instance ty1390:Fun prog 109:=.i func109
instance ty1391:Fun prog 110:=.i func110
instance ty1392:Fun prog 111:=.i func111
instance ty1393:Fun prog 112:=.i func112
instance ty1394:Fun prog 113:=.i func113
instance ty1395:Fun prog 114:=.i func114
instance ty1396:Fun prog 115:=.i func115
instance ty1397:Fun prog 116:=.i func116
instance ty1398:Fun prog 117:=.i func117
instance ty1399:Fun prog 118:=.i func118
instance ty1400:Fun prog 119:=.i func119
instance ty1401:Fun prog 120:=.i func120
instance ty1402:Fun prog 121:=.i func121
instance ty1403:Fun prog 122:=.i func122
instance ty1404:Fun prog 123:=.i func123
instance ty1405:Fun prog 124:=.i func124
instance ty1406:Fun prog 125:=.i func125
instance ty1407:Fun prog 126:=.i func126
instance ty1408:Fun prog 127:=.i func127
instance ty1409:Fun prog 128:=.i func128
instance ty1410:Fun prog 129:=.i func129
instance ty1411:Fun prog 130:=.i func130
instance ty1412:Fun prog 131:=.i func131
instance ty1413:Fun prog 132:=.i func132
instance ty1414:Fun prog 133:=.i func133
instance ty1415:Fun prog 134:=.i func134
instance ty1416:Fun prog 135:=.i func135
instance ty1417:Fun prog 136:=.i func136
instance ty1418:Fun prog 137:=.i func137
instance ty1419:Fun prog 138:=.i func138
instance ty1420:Fun prog 139:=.i func139
instance ty1421:Fun prog 140:=.i func140
instance ty1422:Fun prog 141:=.i func141
instance ty1423:Fun prog 142:=.i func142
instance ty1424:Fun prog 143:=.i func143
instance ty1425:Fun prog 144:=.i func144
instance ty1426:Fun prog 145:=.i func145
instance ty1427:Fun prog 146:=.i func146
instance ty1428:Fun prog 147:=.i func147
instance ty1437:Fun prog 156:=.i func156
instance ty1438:Fun prog 157:=.i func157
instance ty1439:Fun prog 158:=.i func158
instance ty1440:Fun prog 159:=.i func159
instance ty1441:Fun prog 160:=.i func160
instance ty1442:Fun prog 161:=.i func161
instance ty1443:Fun prog 162:=.i func162
instance ty1444:Fun prog 163:=.i func163
instance ty1445:Fun prog 164:=.i func164
instance ty1446:Fun prog 165:=.i func165
instance ty1447:Fun prog 166:=.i func166
instance ty1448:Fun prog 167:=.i func167
instance ty1449:Fun prog 168:=.i func168
instance ty1450:Fun prog 169:=.i func169
instance ty1451:Fun prog 170:=.i func170
instance ty1452:Fun prog 171:=.i func171
instance ty1453:Fun prog 172:=.i func172
instance ty1454:Fun prog 173:=.i func173
instance ty1455:Fun prog 174:=.i func174
instance ty1456:Fun prog 175:=.i func175
instance ty1457:Fun prog 176:=.i func176
instance ty1458:Fun prog 177:=.i func177
instance ty1459:Fun prog 178:=.i func178
instance ty1460:Fun prog 179:=.i func179
instance ty1461:Fun prog 180:=.i func180
instance ty1462:Fun prog 181:=.i func181
instance ty1463:Fun prog 182:=.i func182
instance ty1464:Fun prog 183:=.i func183
instance ty1465:Fun prog 184:=.i func184
instance ty1466:Fun prog 185:=.i func185
instance ty1467:Fun prog 186:=.i func186
instance ty1468:Fun prog 187:=.i func187
instance ty1469:Fun prog 188:=.i func188
instance ty1470:Fun prog 189:=.i func189
instance ty1471:Fun prog 190:=.i func190
instance ty1472:Fun prog 191:=.i func191
instance ty1473:Fun prog 192:=.i func192
instance ty1474:Fun prog 193:=.i func193
instance ty1475:Fun prog 194:=.i func194
instance ty1476:Fun prog 195:=.i func195
instance ty1477:Fun prog 196:=.i func196
instance ty1478:Fun prog 197:=.i func197
instance ty1479:Fun prog 198:=.i func198
instance ty1480:Fun prog 199:=.i func199
instance ty1482:Fun prog 201:=.i func201
instance ty1483:Fun prog 202:=.i func202
instance ty1486:Fun prog 205:=.i func205
instance ty1487:Fun prog 206:=.i func206
instance ty1488:Fun prog 207:=.i func207
instance ty1489:Fun prog 208:=.i func208
instance ty1490:Fun prog 209:=.i func209
instance ty1491:Fun prog 210:=.i func210
instance ty1492:Fun prog 211:=.i func211
instance ty1493:Fun prog 212:=.i func212
instance ty1494:Fun prog 213:=.i func213
instance ty1495:Fun prog 214:=.i func214
instance ty1496:Fun prog 215:=.i func215
instance ty1497:Fun prog 216:=.i func216
instance ty1498:Fun prog 217:=.i func217
instance ty1499:Fun prog 218:=.i func218
instance ty1500:Fun prog 219:=.i func219
instance ty1501:Fun prog 220:=.i func220
instance ty1502:Fun prog 221:=.i func221
instance ty1503:Fun prog 222:=.i func222
instance ty1505:Fun prog 224:=.i func224
instance ty1506:Fun prog 225:=.i func225
instance ty1507:Fun prog 226:=.i func226
instance ty1508:Fun prog 227:=.i func227
instance ty1509:Fun prog 228:=.i func228
instance ty1510:Fun prog 229:=.i func229
instance ty1511:Fun prog 230:=.i func230
instance ty1512:Fun prog 231:=.i func231
instance ty1513:Fun prog 232:=.i func232
instance ty1514:Fun prog 233:=.i func233
instance ty1515:Fun prog 234:=.i func234
instance ty1516:Fun prog 235:=.i func235
instance ty1517:Fun prog 236:=.i func236
instance ty1518:Fun prog 237:=.i func237
instance ty1519:Fun prog 238:=.i func238
def byteAt(n:Int)(i:Nat):UInt8:=UInt8.ofNat ((n.fdiv (2 ^ (8*i))) % 256).toNat
def beTop(k:Nat)(n:Int):Nat→List UInt8
 |0=>[]
 |i+1=>beTop k n i++ [byteAt n (k-1-i)]
def be(k:Nat)(n:Int):List UInt8:=beTop k n k
theorem beTop_len(k:Nat)(n:Int):∀i,(beTop k n i).length=i
 |0=>rfl
 |i+1=>by simp[beTop,beTop_len k n i]
theorem be_len(k:Nat)(n:Int):(be k n).length=k:=beTop_len k n k
theorem byteAt_wrap(n:Int)(i:Nat):IntKind.u8.wrap (n.fdiv (2 ^ (8*i)))=((byteAt n i).toNat:Int):=by
 have h:IntKind.u8.wrap (n.fdiv (2 ^ (8*i)))=(n.fdiv (2 ^ (8*i))) % 256:=by
  simp[IntKind.wrap,IntKind.signed,IntKind.bits]
 rw[h];unfold byteAt;have h1:0≤(n.fdiv (2 ^ (8*i))) % 256:=Int.emod_nonneg _ jC;have h2:(n.fdiv (2 ^ (8*i))) % 256<256:=Int.emod_lt_of_pos _ jC
 generalize(n.fdiv (2 ^ (8*i))) % 256=z at h1 h2;exact qcI
theorem zac(l:List UInt8):(bytesV l).length=l.length:=by simp[bytesV]
theorem zae(a b:List UInt8):bytesV (a++b)=bytesV a++bytesV b:=by simp[bytesV]
theorem zai(l:List UInt8):∀v∈bytesV l,one v=true:=by
 intro v hv;obtain⟨b,_,rfl⟩:=List.mem_map.1 hv;rfl
variable {P:Program} {fid:FuncId} {args:List Value} {f:Frag} {A:List HP} {R:Value→Frag→List HP→Prop} {p:Option Addr} {m c:Nat} {T:TypeId}
theorem Fn.slc_cap{A':List HP}{sz:Nat}{xs:List Value}(h:At A (slc p m c T sz xs) A' (slc p m c T sz xs))
  (k:m≤c→c≤9223372036854775807→xs.length=m*sz→Fn P fid args f A R):Fn P fid args f A R:=fun base w s=>by
 obtain⟨h1,h2,h3⟩:=s.slc_at h
 rcases h3 with⟨rfl,rfl⟩|⟨b,sp,rfl,h4,_⟩
 ·exact k (Nat.le_refl _) h2 h1 base w s
 ·exact k h4 h2 h1 base w s
def BytesR(l:List UInt8)(f:Frag)(A:List HP):Value→Frag→List HP→Prop:=fun v f' A'=>∃p c,v= .slice p l.length c∧f'=f∧A'=slc p l.length c 5 1 (bytesV l)::A
variable {l:List UInt8} {n:Int}
section
variable (f:Frag) (A:List HP)
theorem cloneB_fn(hs:Src prog f A (.slice p l.length c) 1 l.length (bytesV l))(hn:p=none→l= [])(hl:l.length≤100000000000):
  Fn prog 182 [.slice p l.length c] f A (BytesR l f A):=by
 cases p with
 | none =>
  have:=hn rfl;subst this
  refine Fn.e1 func182 ntmps182 fun base=>?_;refine gc ?_;exact qdZ
 | some a =>
  refine Fn.e1 func182 ntmps182 fun base=>?_;refine qgR fun eb=>?_;refine qje ?_;refine H.imp (A':=slc (some ⟨eb,0,none⟩) 0 0 5 1 []::A) ?_ ?_
  ·exact qdv
  refine qkV fun p' c'=>?_;refine gT ?_;refine H.Ae rfl rfl (A':=slc p' l.length c' 5 1 (bytesV l)::A) ?_ ⟨p',c',by rw[Nat.zero_add],rfl,rfl⟩;simp only[List.nil_append,Nat.zero_add];exact fun _ h=>h
theorem growB_fn(hl:l.length≤100000000000)(hm:m≤1000000):
  Fn prog 143 [.slice p l.length c,.int .i64 (m:Nat)] f (slc p l.length c 5 1 (bytesV l)::A) (BytesR l f A):=by
 refine Fn.slc_cap aP0 fun hc hcm _=>?_;by_cases hg:c<l.length+m
 ·refine Fn.e2 func143 ntmps143 fun base=>?_;refine gO ?_;skip;refine H.slc_full fun sp hsp _=>?_;refine H.sliceTo rfl rfl rfl rfl (Nat.le_refl _) rfl ?_;refine gK ?_;refine H.appendZ (m:=m-(c-l.length)) rfl rfl rfl rfl jA (fun p' c'=>.here _ _ _) rfl jA jA jA jA fun p' c'=>?_;repeat(((first|apply H.Aw|apply H.Bi);(iterate 3 exact rfl)))
  refine qia fun hc' _ _=>?_;refine H.sliceTo rfl rfl rfl rfl jA rfl ?_;refine H.slc_trunc (m':=l.length) (ys:=bytesV l) jA hc' ?_ ?_
  ·rw[List.append_assoc,Nat.mul_one,List.take_append_of_le_length (by rw[zac];exact Nat.le_refl _),List.take_of_length_le (by rw[zac];exact Nat.le_refl _)]
  refine gT ?_;exact qcB
 ·refine Fn.e2 func143 ntmps143 fun base=>?_;refine gO ?_;skip;exact H.r1 ⟨p,c,rfl,rfl,rfl⟩
theorem put_fn{k:Nat}(hs:Src prog f A (.slice p l.length c) 1 l.length (bytesV l))(hn:p=none→l= [])(hl:l.length≤10000000000)(hk:k≤8):
  Fn prog 144 [.slice p l.length c,.int .u64 n,.int .i64 (k:Nat)] f A (BytesR (l++be k n) f A):=by
 refine Fn.e3 func144 ntmps144 fun base=>?_;refine gK ?_;refine H.Al rfl rfl rfl (cloneB_fn f A hs hn jA) fun p1 c1=>?_;refine gK ?_;refine H.Al rfl rfl rfl (growB_fn f A jA jA) fun p2 c2=>?_;exact qac
theorem putH_fn{k:Nat}(hs:Src prog f A (.slice p l.length c) 1 l.length (bytesV l))(hn:p=none→l= [])(hl:l.length≤10000000000)(hk:k≤2):
  Fn prog 233 [.slice p l.length c,.int .u16 n,.int .i64 (k:Nat)] f A (BytesR (l++be k n) f A):=by
 refine Fn.e3 func233 ntmps233 fun base=>?_;refine gK ?_;refine H.Al rfl rfl rfl (cloneB_fn f A hs hn jA) fun p1 c1=>?_;refine gK ?_;refine H.Al rfl rfl rfl (growB_fn f A jA jA) fun p2 c2=>?_;refine gV ?_
 refine H.loop (ι:=Nat×Option Addr×Nat) (fun i=>[(8,.int .i64 ((k:Int)-1-(i.1:Int))),(7,.slice i.2.1 (l++beTop k n i.1).length i.2.2),(1,.int .u16 n)]) (fun _=>f)
  (fun i=>slc i.2.1 (l++beTop k n i.1).length i.2.2 5 1 (bytesV (l++beTop k n i.1))::A) (fun i=>i.1≤k) (fun i=>k-i.1) (0,p2,c2) (Nat.zero_le _) ?_ rfl ?_ fun i hi=>?_
 ·refine⟨?_,?_,rfl,trivial⟩
  ·show some (Value.int .i64 ((k:Int)-1))=some (Value.int .i64 ((k:Int)-1-((0:Nat):Int)));simp
  ·show some (Value.slice p2 l.length c2)=some (Value.slice p2 (l++ []).length c2);simp
 ·show slc p2 l.length c2 _ 1 (bytesV l)::A=slc p2 (l++ []).length c2 _ 1 (bytesV (l++ []))::A;simp
 ·obtain⟨i,p',c'⟩:=i;have hi:i≤k:=hi;show H _ _ _ [(8,.int .i64 ((k:Int)-1-(i:Int))),(7,.slice p' (l++beTop k n i).length c'),(1,.int .u16 n)] _ (slc p' (l++beTop k n i).length c' _ 1 (bytesV (l++beTop k n i))::A) _
  generalize hacc:l++beTop k n i=acc;have hlen:acc.length=l.length+i:=by rw[←hacc,List.length_append,beTop_len]
  by_cases hlt:i<k
  ·have hexp:min (8*((k:Int)-1-(i:Int))).toNat IntKind.u16.bits=8*(k-1-i):=by simp only[IntKind.bits];omega
   have hsh:n.fdiv (2 ^ (min (8*((k:Int)-1-(i:Int))).toNat IntKind.u16.bits))=n.fdiv (2 ^ (8*(k-1-i))):=by rw[hexp]
   exact qah
  ·have:i=k:=jA
   subst this;subst hacc;refine gZ ?_;exact qcB
theorem rput_fn{k:Nat}(hs:Src prog f A (.slice p l.length c) 1 l.length (bytesV l))(hl:l.length≤10000000000)(hk:k≤8):
  Fn prog 98 [.slice p l.length c,.int .u64 n,.int .i64 (k:Nat)] f A (BytesR (l++be k n) f A):=by
 refine Fn.e3 func98 ntmps98 fun base=>?_;repeat(first|((apply H.Be);(iterate 3 exact rfl))|(first|apply H.seq|apply H.Bg|apply H.nil|apply H.Bj))
 refine qeY fun eb=>?_;refine qje ?_;refine H.imp (A':=slc (some ⟨eb,0,none⟩) 0 0 5 1 []::A) ?_ ?_
 ·exact qdv
 refine qkV fun p2 c2=>?_;rw[Nat.zero_add,List.nil_append];exact qac
theorem zcf(hs:Src prog f A (.slice p l.length c) 1 l.length (bytesV l))(hn:p=none→l= [])(hl:l.length≤10000000000):
  Fn prog 113 [.slice p l.length c,.int .u64 n] f A (BytesR (l++be 8 n) f A):=by
 refine Fn.e2 func113 ntmps113 fun base=>?_;refine gK ?_;refine H.Al rfl rfl rfl (put_fn (k:=8) f A hs hn hl jC) fun p1 c1=>?_;exact qbn
theorem half_fn(hs:Src prog f A (.slice p l.length c) 1 l.length (bytesV l))(hn:p=none→l= [])(hl:l.length≤10000000000):
  Fn prog 227 [.slice p l.length c,.int .u16 n] f A (BytesR (l++be 2 n) f A):=by
 refine Fn.e2 func227 ntmps227 fun base=>?_;refine gK ?_;refine H.Al rfl rfl rfl (putH_fn (k:=2) f A hs hn hl jC) fun p1 c1=>?_;exact qbn
theorem zbu(hs:Src prog f A (.slice p l.length c) 1 l.length (bytesV l))(hl:l.length≤10000000000):
  Fn prog 58 [.slice p l.length c,.int .u64 n] f A (BytesR (l++be 8 n) f A):=by
 refine Fn.e2 func58 ntmps58 fun base=>?_;refine gK ?_;refine H.Al rfl rfl rfl (rput_fn (k:=8) f A hs hl jC) fun p1 c1=>?_;exact qbn
theorem rhalf_fn(hs:Src prog f A (.slice p l.length c) 1 l.length (bytesV l))(hl:l.length≤10000000000)(h0:0≤n∧n≤65535):
  Fn prog 101 [.slice p l.length c,.int .u16 n] f A (BytesR (l++be 2 n) f A):=by
 refine Fn.e2 func101 ntmps101 fun base=>?_;refine gV ?_;refine H.Al rfl rfl rfl (rput_fn (k:=2) f A hs hl jC) fun p1 c1=>?_;exact qbn
end
def BytesR2(l:List UInt8)(e:Int)(f:Frag)(A:List HP):Value→Frag→List HP→Prop:=fun v f' A'=>∃p c,v= .tuple #[.slice p l.length c,.int .i64 e]∧f'=f∧A'=slc p l.length c 5 1 (bytesV l)::A
def textB(s:ByteArray):List UInt8:=be 2 (s.size:Nat)++s.data.toList
variable {s:ByteArray}
section
variable (f:Frag) (A:List HP)
theorem zbq(s:ByteArray):s.data.toList.length=s.size:=by rw[Array.length_toList];rfl
theorem text_fn(hs:Src prog f A (.slice p l.length c) 1 l.length (bytesV l))(hn:p=none→l= [])(hl:l.length≤10000000000)(hz:s.size<65536):
  Fn prog 207 [.slice p l.length c,.string s] f A (BytesR2 (l++textB s) 0 f A):=by
 refine Fn.e2 func207 ntmps207 fun base=>?_;refine gZ ?_;skip;skip;refine H.Al rfl rfl rfl (half_fn f A hs hn hl) fun p1 c1=>?_;exact qaH
theorem rtext_fn(hs:Src prog f A (.slice p l.length c) 1 l.length (bytesV l))(hl:l.length≤10000000000)(hz:s.size<65536):
  Fn prog 63 [.slice p l.length c,.string s] f A (BytesR2 (l++textB s) 0 f A):=by
 refine Fn.e2 func63 ntmps63 fun base=>?_;refine gZ ?_;skip;skip;refine H.Al rfl rfl rfl (rhalf_fn f A hs hl jA) fun p1 c1=>?_;exact qaH
end
def BAt(f:Frag)(p:Option Addr)(l:List UInt8):Prop:=
 l= []∨∃b off cs T fr,p=some ⟨b,off,none⟩∧f b=some (.cells cs T fr)∧∀i,i<l.length→cs[off+i]? =(bytesV l)[i]?
theorem BAt.take(h:BAt f p l)(n:Nat):BAt f p (l.take n):=by
 rcases h with rfl|⟨b,off,cs,T,fr,h1,h2,h3⟩
 ·exact .inl jL
 ·refine .inr ⟨b,off,cs,T,fr,h1,h2,fun i hi=>?_⟩;rw[List.length_take]at hi;rw[h3 i jA];simp only[bytesV,List.map_take];rw[List.getElem?_take,if_pos jA]
theorem BAt.drop(h:BAt f p l){n:Nat}(hn:n≤l.length)(hc:l.length≤c):BAt f (slP p n c 1) (l.drop n):=by
 unfold slP;split
 ·rename_i e
  subst e;exact .inl (List.drop_eq_nil_of_le hc)
 ·rcases h with rfl|⟨b,off,cs,T,fr,rfl,h2,h3⟩
  ·exact .inl jL
  ·refine .inr ⟨b,off+n,cs,T,fr,?_,h2,fun i hi=>?_⟩
   ·rw[Option.map_some,zaz,Nat.mul_one]
   ·rw[List.length_drop]at hi;rw[Nat.add_assoc,h3 (n+i) jA];simp only[bytesV,List.map_drop];rw[List.getElem?_drop]
theorem BAt.src(h:BAt f p l):Src P f A (.slice p l.length c) 1 l.length (bytesV l):=by
 rcases h with rfl|⟨b,off,cs,T,fr,rfl,h2,h3⟩
 ·refine⟨fun w=>rfl,fun base w s=>?_,rfl⟩
  cases p with
  |none=>exact run_firstCells_none w 1 0 0 c
  |some a=>exact run_firstCells_some w 1 0 a 0 c [] jL jL
 ·exact Src.slice (Rd.imm h2 (fun i hi=>h3 i (by rwa [zac]at hi))) (by rw[zac,Nat.mul_one])
def cutL(cb:Nat)(p:Option Addr)(c:Nat)(l:List UInt8)(sp:Bool):HP:=row cb 261 [.slice p l.length c,.bool sp]
def cutH(f:Frag)(cb:Nat)(l:List UInt8)(sp:Bool):HP:=fun h=>∃i:Option Addr×Nat,stars [fact (BAt f i.1 l∧l.length≤i.2),cutL cb i.1 i.2 l sp] h
variable {cb:Nat} {sp:Bool} {F:List HP}
theorem zbj(hb:BAt f p l)(hc:l.length≤c):∀x,stars (cutL cb p c l sp::F) x→stars (cutH f cb l sp::F) x:=by
 intro x hx;obtain⟨m1,m2,d,e,a,r⟩:=hx;refine⟨m1,m2,d,e,⟨(p,c),?_⟩,r⟩;exact⟨nil0,m1,(Dj.nil m1).symm,(nil_un m1).symm,⟨⟨hb,hc⟩,rfl⟩,m1,nil0,Dj.nil m1,(un_nil m1).symm,a,rfl⟩
theorem cutH_open
  (k:∀p c,BAt f p l→l.length≤c→Fn prog fid args f (row cb 261 [.slice p l.length c,.bool sp]::F) R):Fn prog fid args f (cutH f cb l sp::F) R:=fun base w s=>by
 obtain⟨m,hm,hd,hw⟩:=s.mem
 obtain⟨m1,m2,d,rfl,⟨⟨p,c⟩,hh⟩,r⟩:=hm
 obtain⟨n1,n2,dd,rfl,⟨⟨hb,hc⟩,rfl⟩,n3,n4,d3,rfl,h4,h5⟩:=hh
 refine k p c hb hc base w ⟨s.os,s.tape,s.output,s.size,s.imm,_,?_,hd,hw⟩
 have e5:n4=nil0:=h5
 subst e5
 rw[nil_un,un_nil]
 rw[nil_un,un_nil]at d
 exact⟨n3,m2,d,rfl,h4,r⟩
def RetP{α:Type}(φ:α→Prop)(v:α→Value)(f:Frag)(A:α→List HP):Value→Frag→List HP→Prop:=fun u f' A'=>∃i,φ i∧u=v i∧f'=f∧A'=A i
variable {α:Type} {xs:List Operand} {vs:List Value} {ats:Array TypeId}
section
variable {P:Program} {base:World} {n:Nat} {L:Env} {f f':Frag} {A:List HP} {q:Post}
variable {l rest:List Oper} {d:Nat} {ty:TypeId} {pos:String} {af:Array Edge} {gd:Option (Nat × Bool)}
theorem H.callP{φ:α→Prop}{v:α→Value}{Ai:α→List HP}[hfun:Fun P fid](hw:want? l L gd=true)(hd:Nat.ble (d+1) n=true)
  (hx:evs? L xs=some vs) (hc:Fn P fid vs f A (RetP φ v f' Ai)) (k:∀i,φ i→H P base n ((d,v i)::L) f' (Ai i) (.ops l rest q)) :
  H P base n L f A (.ops l (⟨some d,.call ⟨.value (.func fid),xs.toArray,ats⟩,ty,pos,af,gd⟩::rest) q):=
 H.Aq hw hd hx hc fun _ _ _ h=>by obtain⟨i,hp,rfl,rfl,rfl⟩:=h;exact k i hp
theorem H.callVP{φ:α→Prop}{x:Operand}{fs cs:List Value}{v:α→Value}{Ai:α→List HP}(hx:ev? L x=some (.func (.func fid) fs.toArray cs.toArray))[hfun:Fun P fid](hw:want? l L gd=true)(hd:Nat.ble (d+1) n=true)
  (hxs:evs? L xs=some vs) (hc:Fn P fid (fs++vs++cs) f A (RetP φ v f' Ai)) (k:∀i,φ i→H P base n ((d,v i)::L) f' (Ai i) (.ops l rest q)) :
  H P base n L f A (.ops l (⟨some d,.call ⟨.value x,xs.toArray,ats⟩,ty,pos,af,gd⟩::rest) q):=
 H.callV hx hw hd hxs hc fun _ _ _ h=>by obtain⟨i,hp,rfl,rfl,rfl⟩:=h;exact k i hp
end
section
variable (f:Frag) (F:List HP) (cb:Nat)
theorem take_no(h:sp=true∨n<0∨(l.length:Int)<n):
  Fn prog 208 [.pointer (some ⟨cb,0,none⟩),.int .i64 n] f (cutH f cb l sp::F) (Ret (.slice none 0 0) f (cutH f cb l true::F)):=by
 refine cutH_open fun p c hb hc=>?_;have fin:∀x,stars (row cb 261 [.slice p l.length c,.bool true]::F) x→stars (cutH f cb l true::F) x:=zbj hb hc
 cases sp with
 | true =>
  exact qcK
 | false =>
  by_cases h0:n<0
  ·exact qcK
  ·have h1:(l.length:Int)<n:=by simp at h;omega
   refine Fn.e2 func208 ntmps208 fun base=>?_;refine gg ?_;rw[decide_eq_true h1];exact H.Ae rfl rfl fin ⟨rfl,rfl,rfl⟩
theorem take_yes{n:Nat}(hn:n≤l.length)(hl:l.length≤1000000000000):
  Fn prog 208 [.pointer (some ⟨cb,0,none⟩),.int .i64 (n:Nat)] f (cutH f cb l false::F)
   (RetP (fun i:Option Addr×Nat=>BAt f i.1 (l.take n)) (fun i=>.slice i.1 n i.2) f (fun _=>cutH f cb (l.drop n) false::F)):=by
 refine cutH_open fun p c hb hc=>?_
 have fin:∀x,stars (row cb 261 [.slice (slP p n c 1) (l.length-n) (c-n),.bool false]::F) x→stars (cutH f cb (l.drop n) false::F) x:=by
  have:=zbj (cb:=cb) (sp:=false) (F:=F) (hb.drop hn hc) (c:=c-n) kR;rw[show cutL cb (slP p n c 1) (c-n) (l.drop n) false=row cb 261 [.slice (slP p n c 1) (l.length-n) (c-n),.bool false] by unfold cutL;rw[List.length_drop]]at this
  exact this
 refine Fn.e2 func208 ntmps208 fun base=>?_;refine gg ?_;rw[decide_eq_false (show¬((l.length:Int)<(n:Int)) by omega)];skip;refine H.sliceTo rfl rfl rfl rfl jA rfl ?_;refine gF ?_;refine H.slice (lv:=n) (hv:=l.length) (mv:=c) rfl rfl ⟨_,_,rfl,rfl⟩ rfl rfl (fun h=>by cases h) hn hc (Nat.le_refl _) rfl ?_;refine gc ?_;exact H.Ae rfl rfl fin ⟨(p,c),hb.take n,rfl,rfl,rfl⟩
end
def numB(l:List UInt8):Nat:=l.foldl (fun n b=>n*256+b.toNat) 0
theorem numB_snoc(l:List UInt8)(b:UInt8):numB (l++ [b])=numB l*256+b.toNat:=by simp[numB]
theorem numB_acc:∀(l:List UInt8) (a k:Nat),a<256 ^ k→l.foldl (fun n b=>n*256+b.toNat) a<256 ^ (k+l.length)
 | [],a,k,h=>h
 | b :: l, a, k, h => by
  have hb:=b.toNat_lt
  have:=numB_acc l (a*256+b.toNat) (k+1) (by rw[Nat.pow_succ];omega)
  rw[List.length_cons,show k+(l.length+1)=k+1+l.length by omega]
  exact this
theorem numB_lt(l:List UInt8):numB l<256 ^ l.length:=by
 have:=numB_acc l 0 0 jC;rwa [Nat.zero_add]at this
theorem or_byte{n:Nat}{b:UInt8}(hn:n<72057594037927936):bitsI .or .u64 (IntKind.u64.wrap ((n:Int)*2 ^ 8)) ((b.toNat:Nat):Int)=some ((n*256+b.toNat:Nat):Int):=by
 have hb:=b.toNat_lt
 have h1:IntKind.u64.wrap ((n:Int)*2 ^ 8)=((n*256:Nat):Int):=by
  rw[wr_u64 jA];omega
 rw[h1];simp only[bitsI,Option.some.injEq]
 have e1:(BitVec.ofInt IntKind.u64.bits ((n*256:Nat):Int) ||| BitVec.ofInt IntKind.u64.bits ((b.toNat:Nat):Int)).toNat=n*256+b.toNat:=by
  rw[BitVec.toNat_or];simp only[BitVec.ofInt_natCast,BitVec.toNat_ofNat,IntKind.bits];rw[Nat.mod_eq_of_lt jA,Nat.mod_eq_of_lt jA]
  have:=Nat.shiftLeft_add_eq_or_of_lt (i:=8) (b:=b.toNat) (by simpa using hb) n;rw[Nat.shiftLeft_eq,show n*2 ^ 8=n*256 from rfl]at this
  omega
 rw[e1,wr_u64 jA]
section
variable (f:Frag) (F:List HP) (cb:Nat)
abbrev takeV(cb:Nat):Value:=.func (.func 208) #[.pointer (some ⟨cb,0,none⟩)] #[]
theorem sum_no(h:sp=true∨n<0∨(l.length:Int)<n):
  Fn prog 209 [takeV cb,.int .i64 n] f (cutH f cb l sp::F) (Ret (.int .u64 0) f (cutH f cb l true::F)):=by
 refine Fn.e2 func209 ntmps209 fun base=>?_;refine gK ?_;refine H.callVR (fs:=[_]) (cs:=[]) rfl rfl rfl rfl (take_no f F cb h) ?_;refine gT ?_;refine H.lo (ι:=Unit) (fun _=>[(4,.int .u64 0),(9,.slice none 0 0),(10,.int .i64 ((0:Nat):Int)),(11,.int .i64 0)]) (fun _=>f) (fun _=>cutH f cb l true::F) (fun _=>True) (fun _=>0) () trivial fun _ _=>?_;refine gY ?_;exact qam
theorem sum_yes{k:Nat}(hn:k≤l.length)(hk:k≤8)(hl:l.length≤1000000000000):
  Fn prog 209 [takeV cb,.int .i64 (k:Nat)] f (cutH f cb l false::F) (Ret (.int .u64 (numB (l.take k):Nat)) f (cutH f cb (l.drop k) false::F)):=by
 refine Fn.e2 func209 ntmps209 fun base=>?_;refine gK ?_;refine H.callVP (fs:=[_]) (cs:=[]) rfl rfl rfl rfl (take_yes f F cb hn hl) fun i hb=>?_;obtain⟨p,c⟩:=i;have hb:BAt f p (l.take k):=hb;refine gT ?_
 have hlen:(l.take k).length=k:=by rw[List.length_take];omega
 refine H.lo (ι:=Nat) (fun i=>[(4,.int .u64 (numB ((l.take k).take i):Nat)),(9,.slice p k c),(10,.int .i64 ((k:Nat):Int)),(11,.int .i64 (i:Int))]) (fun _=>f) (fun _=>cutH f cb (l.drop k) false::F) (fun i=>i≤k) (fun i=>k-i) 0 (Nat.zero_le _) fun i hi=>?_;have hi:i≤k:=hi;refine gQ ?_
 by_cases hlt:i<k
 ·obtain⟨x,hx⟩:∃x,(l.take k)[i]? =some x:=⟨(l.take k)[i]' jA,List.getElem?_eq_getElem jA⟩;have hsrc:(l.take k).take (i+1)=(l.take k).take i++ [x]:=by rw[List.take_add_one,hx];rfl
  have hm:numB ((l.take k).take i)<72057594037927936:=by
   have h1:=numB_lt ((l.take k).take i);have h2:((l.take k).take i).length=i:=by rw[List.length_take];omega
   rw[h2]at h1;have h3:256 ^ i≤256 ^ 7:=Nat.pow_le_pow_right jC jA;have h4:(256:Nat) ^ 7=72057594037927936:=jC
   omega
  rcases hb with hnil|⟨b,off,cs,T,fr,rfl,h2,h3⟩
  ·rw[hnil]at hlen;simp at hlen;omega
  have rd:∀A,Rd f A b off (bytesV (l.take k)):=fun A=>Rd.imm h2 (fun j hj=>h3 j (by rwa [zac]at hj));have hv:(bytesV (l.take k))[i]? =some (.int .u8 (x.toNat:Nat)):=by unfold bytesV;rw[List.getElem?_map,hx];rfl
  refine gG ?_;refine H.Cd rfl rfl rfl rfl hlt rfl ?_;refine H.Ad rfl rfl rfl (.of (rd _) hv) rfl ?_;refine gK ?_;have hxl:=x.toNat_lt;refine H.Bo rfl rfl rfl rfl jC rfl rfl ?_
  refine gV ?_;refine H.Bf rfl rfl rfl (or_byte hm) rfl rfl ?_;refine gV ?_;refine H.Av (i+1) jw jj ⟨?_,rfl,rfl,rfl,trivial⟩ rfl rfl;show some _=some (Value.int .u64 (numB ((l.take k).take (i+1)):Nat));rw[hsrc,numB_snoc]
 ·have:i=k:=jA
  subst this;rw[List.take_of_length_le jA];refine gZ ?_;exact qam
theorem cutWord_no(h:sp=true∨l.length<8):
  Fn prog 165 [.pointer (some ⟨cb,0,none⟩)] f (cutH f cb l sp::F) (Ret (.int .u64 0) f (cutH f cb l true::F)):=by
 refine Fn.e1 func165 ntmps165 fun base=>?_;refine gY ?_;refine H.Af rfl rfl rfl (sum_no f F cb (n:=8) (h.elim .inl fun h=>.inr (.inr jA))) ?_;refine gT ?_;exact qam
theorem cutWord_yes(h:8≤l.length)(hl:l.length≤1000000000000):
  Fn prog 165 [.pointer (some ⟨cb,0,none⟩)] f (cutH f cb l false::F) (Ret (.int .u64 (numB (l.take 8):Nat)) f (cutH f cb (l.drop 8) false::F)):=by
 have hb:=numB_lt (l.take 8);rw[show(l.take 8).length=8 by rw[List.length_take];omega]at hb
 have e:(256:Nat) ^ 8=18446744073709551616:=jC
 rw[e]at hb;clear e;refine Fn.e1 func165 ntmps165 fun base=>?_;refine gY ?_;refine H.Af rfl rfl rfl (sum_yes f F cb (k:=8) h jC hl) ?_;refine gT ?_;exact qam
theorem cutHalf_no(h:sp=true∨l.length<2):
  Fn prog 228 [.pointer (some ⟨cb,0,none⟩)] f (cutH f cb l sp::F) (Ret (.int .u16 0) f (cutH f cb l true::F)):=by
 refine Fn.e1 func228 ntmps228 fun base=>?_;refine gY ?_;refine H.Af rfl rfl rfl (sum_no f F cb (n:=2) (h.elim .inl fun h=>.inr (.inr jA))) ?_;refine gV ?_;exact qam
theorem cutHalf_yes(h:2≤l.length)(hl:l.length≤1000000000000):
  Fn prog 228 [.pointer (some ⟨cb,0,none⟩)] f (cutH f cb l false::F) (Ret (.int .u16 (numB (l.take 2):Nat)) f (cutH f cb (l.drop 2) false::F)):=by
 have hb:=numB_lt (l.take 2);rw[show(l.take 2).length=2 by rw[List.length_take];omega]at hb
 have e:(256:Nat) ^ 2=65536:=jC
 rw[e]at hb;clear e;refine Fn.e1 func228 ntmps228 fun base=>?_;refine gY ?_;refine H.Af rfl rfl rfl (sum_yes f F cb (k:=2) h jC hl) ?_;refine gV ?_;exact qam
theorem cutByte_no(h:sp=true∨l.length<1):
  Fn prog 175 [.pointer (some ⟨cb,0,none⟩)] f (cutH f cb l sp::F) (Ret (.int .u8 0) f (cutH f cb l true::F)):=by
 refine Fn.e1 func175 ntmps175 fun base=>?_;refine gY ?_;refine H.Af rfl rfl rfl (sum_no f F cb (n:=1) (h.elim .inl fun h=>.inr (.inr jA))) ?_;refine gV ?_;exact qam
theorem cutByte_yes(h:1≤l.length)(hl:l.length≤1000000000000):
  Fn prog 175 [.pointer (some ⟨cb,0,none⟩)] f (cutH f cb l false::F) (Ret (.int .u8 (numB (l.take 1):Nat)) f (cutH f cb (l.drop 1) false::F)):=by
 have hb:=numB_lt (l.take 1);rw[show(l.take 1).length=1 by rw[List.length_take];omega]at hb
 have e:(256:Nat) ^ 1=256:=jC
 rw[e]at hb;clear e;refine Fn.e1 func175 ntmps175 fun base=>?_;refine gY ?_;refine H.Af rfl rfl rfl (sum_yes f F cb (k:=1) h jC hl) ?_;refine gV ?_;exact qam
end
section
variable (f:Frag) (F:List HP) (cb:Nat)
theorem cutLeft_fn:Fn prog 176 [.pointer (some ⟨cb,0,none⟩)] f (cutH f cb l sp::F) (Ret (.bool (!sp)) f (cutH f cb l sp::F)):=by
 refine cutH_open fun p c hb hc=>?_;refine Fn.e1 func176 ntmps176 fun base=>?_;refine gg ?_;exact H.Ae rfl rfl (zbj hb hc) ⟨rfl,rfl,rfl⟩
theorem raw_no(h:sp=true∨n<0∨(l.length:Int)<n):
  Fn prog 214 [.pointer (some ⟨cb,0,none⟩),.int .i64 n] f (cutH f cb l sp::F) (BytesR [] f (cutH f cb l true::F)):=by
 refine Fn.e2 func214 ntmps214 fun base=>?_;refine gK ?_;refine H.Af rfl rfl rfl (take_no f F cb h) ?_;skip;refine H.Al rfl rfl rfl (cloneB_fn (l:=[]) f _ Src.nil (fun _=>rfl) jC) fun p c=>?_;exact qdk
theorem raw_yes{n:Nat}(hn:n≤l.length)(hl:l.length≤10000000000):
  Fn prog 214 [.pointer (some ⟨cb,0,none⟩),.int .i64 (n:Nat)] f (cutH f cb l false::F) (BytesR (l.take n) f (cutH f cb (l.drop n) false::F)):=by
 have hlen:(l.take n).length=n:=by rw[List.length_take];omega
 refine Fn.e2 func214 ntmps214 fun base=>?_;refine gK ?_;refine H.callP rfl rfl rfl (take_yes f F cb hn jA) fun i hb=>?_;obtain⟨p,c⟩:=i;have hb:BAt f p (l.take n):=hb;skip
 have hs:Src prog f (cutH f cb (l.drop n) false::F) (.slice p (l.take n).length c) 1 (l.take n).length (bytesV (l.take n)):=hb.src;have hc:=cloneB_fn f _ hs (fun hp=>by rcases hb with h|⟨b,off,cs,T,fr,h,_⟩;exact h;rw[hp]at h;cases h) jA
 rw[hlen]at hc;refine H.Al rfl rfl rfl hc fun p1 c1=>?_;exact qbn
theorem slc_bat{g:Frag}(h:slc p l.length c T 1 (bytesV l) g)(hd:Dj f g):BAt (un f g) p l:=by
 obtain⟨_,_,h3⟩:=h;rcases h3 with⟨h0,_,_⟩|⟨b,sp,rfl,h4,h5,rfl⟩
 ·exact .inl (List.eq_nil_of_length_eq_zero h0)
 ·refine .inr ⟨b,0,(bytesV l++sp).toArray,T,(0,0),rfl,?_,fun i hi=>?_⟩
  ·show(f b).or (sing b _ b)=_
   have:f b=none:=by
    rcases hd b with h|h
    ·exact h
    ·simp[sing]at h
   rw[this];simp[sing]
  ·rw[Nat.zero_add];simp only[List.getElem?_toArray];rw[List.getElem?_append_left (by rw[zac];exact hi)]
theorem octNew_fn{p0:Option Addr}{c0:Nat}(hs:Src prog f F (.slice p0 l.length c0) 1 l.length (bytesV l))(hn:p0=none→l= [])(hl:l.length≤100000000000):
  Fn prog 126 [.slice p0 l.length c0] f F (fun v f' A'=>∃g cb p c,v= .pointer (some ⟨cb,0,none⟩)∧slc p l.length c 5 1 (bytesV l) g∧Dj f g∧f'=un f g∧A'=cutH (un f g) cb l false::F):=by
 refine Fn.e1 func126 ntmps126 fun base=>?_;refine gK ?_;refine H.Al rfl rfl rfl (cloneB_fn f F hs hn hl) fun p c=>?_;refine qia fun hc _ _=>?_;refine qkk fun g hg hd=>?_;refine gQ ?_;refine H.box (ls:=[.slice p l.length c,.bool false]) rfl rfl rfl rfl fun cb=>?_;refine gT ?_;exact H.Ae rfl rfl (zbj (slc_bat f hg hd) hc) ⟨g,cb,p,c,rfl,hg,hd,rfl,rfl⟩
end
structure Cs where
 l:List UInt8
 bad:Bool
def Cs.ok(s:Cs)(n:Nat):Bool:=!s.bad&& Nat.ble n s.l.length
def Cs.num(s:Cs)(n:Nat):Nat:=if s.ok n then numB (s.l.take n)else 0
def Cs.skip(s:Cs)(n:Nat):Cs:=if s.ok n then⟨s.l.drop n,false⟩else⟨s.l,true⟩
def Cs.raw(s:Cs)(n:Nat):List UInt8:=if s.ok n then s.l.take n else []
def Cs.tok(s:Cs)(most:Nat):Bool:=s.ok 2&& Nat.ble (s.num 2) most&& Nat.ble (2+s.num 2) s.l.length
def Cs.text(s:Cs)(most:Nat):List UInt8:=if s.tok most then(s.l.drop 2).take (s.num 2)else []
def Cs.textS(s:Cs)(most:Nat):Cs:=if s.tok most then⟨s.l.drop (2+s.num 2),false⟩else⟨s.l,true⟩
theorem Cs.ok_iff(s:Cs)(n:Nat):s.ok n=true↔s.bad=false∧n≤s.l.length:=by
 simp[Cs.ok]
theorem Cs.skip_len(s:Cs)(n:Nat):(s.skip n).l.length≤s.l.length:=by
 unfold Cs.skip;split
 ·simp
 ·exact Nat.le_refl _
theorem Cs.textS_len(s:Cs)(n:Nat):(s.textS n).l.length≤s.l.length:=by
 unfold Cs.textS;split
 ·simp
 ·exact Nat.le_refl _
theorem Cs.num_lt(s:Cs)(n:Nat):s.num n<256 ^ n:=by
 unfold Cs.num;split
 ·rename_i h
  have h1:=numB_lt (s.l.take n);have h2:=((Cs.ok_iff s n).1 h).2
  rw[List.length_take,Nat.min_eq_left h2]at h1;exact h1
 ·exact Nat.pow_pos jC
theorem Cs.num1_lt(s:Cs):s.num 1<256:=s.num_lt 1
theorem Cs.num2_lt(s:Cs):s.num 2<65536:=s.num_lt 2
def cutC(f:Frag)(cb:Nat)(s:Cs):HP:=cutH f cb s.l s.bad
section
variable (f:Frag) (F:List HP) (cb:Nat) (s:Cs)
theorem Cs.no{n:Nat}(h:¬s.ok n=true):s.bad=true∨s.l.length<n:=by
 rw[Cs.ok_iff]at h
 cases hb:s.bad with
 |true=>exact .inl rfl
 |false=>refine .inr ?_;simp[hb]at h;omega
theorem word_cs(hl:s.l.length≤1000000000000):
  Fn prog 165 [.pointer (some ⟨cb,0,none⟩)] f (cutC f cb s::F) (Ret (.int .u64 (s.num 8:Nat)) f (cutC f cb (s.skip 8)::F)):=by
 unfold Cs.num Cs.skip cutC;by_cases h:s.ok 8=true
 ·rw[if_pos h,if_pos h];obtain⟨h1,h2⟩:=(Cs.ok_iff _ _).1 h;rw[h1];exact cutWord_yes f F cb h2 hl
 ·rw[if_neg h,if_neg h];exact cutWord_no f F cb (s.no h)
theorem half_cs(hl:s.l.length≤1000000000000):
  Fn prog 228 [.pointer (some ⟨cb,0,none⟩)] f (cutC f cb s::F) (Ret (.int .u16 (s.num 2:Nat)) f (cutC f cb (s.skip 2)::F)):=by
 unfold Cs.num Cs.skip cutC;by_cases h:s.ok 2=true
 ·rw[if_pos h,if_pos h];obtain⟨h1,h2⟩:=(Cs.ok_iff _ _).1 h;rw[h1];exact cutHalf_yes f F cb h2 hl
 ·rw[if_neg h,if_neg h];exact cutHalf_no f F cb (s.no h)
theorem byte_cs(hl:s.l.length≤1000000000000):
  Fn prog 175 [.pointer (some ⟨cb,0,none⟩)] f (cutC f cb s::F) (Ret (.int .u8 (s.num 1:Nat)) f (cutC f cb (s.skip 1)::F)):=by
 unfold Cs.num Cs.skip cutC;by_cases h:s.ok 1=true
 ·rw[if_pos h,if_pos h];obtain⟨h1,h2⟩:=(Cs.ok_iff _ _).1 h;rw[h1];exact cutByte_yes f F cb h2 hl
 ·rw[if_neg h,if_neg h];exact cutByte_no f F cb (s.no h)
theorem raw_cs(n:Nat)(hl:s.l.length≤10000000000):
  Fn prog 214 [.pointer (some ⟨cb,0,none⟩),.int .i64 (n:Nat)] f (cutC f cb s::F) (BytesR (s.raw n) f (cutC f cb (s.skip n)::F)):=by
 unfold Cs.raw Cs.skip cutC;by_cases h:s.ok n=true
 ·rw[if_pos h,if_pos h];obtain⟨h1,h2⟩:=(Cs.ok_iff _ _).1 h;rw[h1];exact raw_yes f F cb h2 hl
 ·rw[if_neg h,if_neg h];exact raw_no f F cb ((s.no h).elim .inl fun h=>.inr (.inr jA))
theorem ok_cs:Fn prog 176 [.pointer (some ⟨cb,0,none⟩)] f (cutC f cb s::F) (Ret (.bool (!s.bad)) f (cutC f cb s::F)):=cutLeft_fn f F cb
end
def w32(x:UInt32):Value:=.int .u32 (x.toNat:Nat)
theorem u32_wrap(z:Int):IntKind.u32.wrap z=z % 4294967296:=by simp[IntKind.wrap,IntKind.signed,IntKind.bits]
theorem u32_bv(x:UInt32):BitVec.ofInt 32 (x.toNat:Int)=x.toBitVec:=by
 simp[BitVec.ofInt_natCast]
theorem u32_wrapN(x:UInt32):IntKind.u32.wrap ((x.toNat:Nat):Int)=(x.toNat:Int):=by
 rw[u32_wrap];have:=x.toNat_lt;omega
theorem zbp(x y:UInt32):bitsI .xor .u32 (x.toNat:Int) (y.toNat:Int)=some (((x ^^^ y).toNat:Nat):Int):=by
 have e:(BitVec.ofInt 32 (x.toNat:Int) ^^^ BitVec.ofInt 32 (y.toNat:Int)).toNat=(x ^^^ y).toNat:=by rw[u32_bv,u32_bv];rfl
 show some (IntKind.u32.wrap ((BitVec.ofInt 32 (x.toNat:Int) ^^^ BitVec.ofInt 32 (y.toNat:Int)).toNat:Int))=_;rw[e,u32_wrapN]
theorem u32_and(x y:UInt32):bitsI .and .u32 (x.toNat:Int) (y.toNat:Int)=some (((x &&& y).toNat:Nat):Int):=by
 have e:(BitVec.ofInt 32 (x.toNat:Int) &&& BitVec.ofInt 32 (y.toNat:Int)).toNat=(x &&& y).toNat:=by rw[u32_bv,u32_bv];rfl
 show some (IntKind.u32.wrap ((BitVec.ofInt 32 (x.toNat:Int) &&& BitVec.ofInt 32 (y.toNat:Int)).toNat:Int))=_;rw[e,u32_wrapN]
theorem u32_or(x y:UInt32):bitsI .or .u32 (x.toNat:Int) (y.toNat:Int)=some (((x ||| y).toNat:Nat):Int):=by
 have e:(BitVec.ofInt 32 (x.toNat:Int) ||| BitVec.ofInt 32 (y.toNat:Int)).toNat=(x ||| y).toNat:=by rw[u32_bv,u32_bv];rfl
 show some (IntKind.u32.wrap ((BitVec.ofInt 32 (x.toNat:Int) ||| BitVec.ofInt 32 (y.toNat:Int)).toNat:Int))=_;rw[e,u32_wrapN]
theorem u32_not(x:UInt32):bitsI .xor .u32 (if IntKind.u32.signed then-1 else IntKind.u32.max) (x.toNat:Int)=some (((~~~ x).toNat:Nat):Int):=by
 have h:(if IntKind.u32.signed then-1 else IntKind.u32.max)=(((0xffffffff:UInt32).toNat:Nat):Int):=jC
 rw[h,zbp];congr 3
theorem u32_shr(x:UInt32)(n:Nat)(hn:n<32):shiftI .shr .u32 (x.toNat:Int) (n:Int)=some (((x >>> (UInt32.ofNat n)).toNat:Nat):Int):=by
 simp only[shiftI,Option.some.injEq,IntKind.bits];rw[UInt32.toNat_shiftRight]
 have h1:(UInt32.ofNat n).toNat % 32=n:=by
  rw[UInt32.toNat_ofNat'];omega
 rw[h1,Nat.shiftRight_eq_div_pow];have h2:min ((n:Int).toNat) 32=n:=jA
 rw[h2];rw[show((2:Int) ^ n)=((2 ^ n:Nat):Int) by simp];rw[Int.fdiv_eq_ediv_of_nonneg _ (Int.natCast_nonneg _)];exact(Int.natCast_ediv _ _).symm
theorem u32_shl(x:UInt32)(n:Nat)(hn:n<32):shiftI .shl .u32 (x.toNat:Int) (n:Int)=some (((x <<< (UInt32.ofNat n)).toNat:Nat):Int):=by
 simp only[shiftI,Option.some.injEq,IntKind.bits];rw[UInt32.toNat_shiftLeft]
 have h1:(UInt32.ofNat n).toNat % 32=n:=by
  rw[UInt32.toNat_ofNat'];omega
 rw[h1,Nat.shiftLeft_eq];have h2:min ((n:Int).toNat) 32=n:=jA
 rw[h2,u32_wrap];rw[show((2:Int) ^ n)=((2 ^ n:Nat):Int) by simp];rw[←Int.natCast_mul];omega
theorem u32_shl24(x:UInt32):shiftI .shl .u32 (x.toNat:Int) 24=some (((x <<< (UInt32.ofNat 24)).toNat:Nat):Int):=u32_shl x 24 jC
theorem u32_shl16(x:UInt32):shiftI .shl .u32 (x.toNat:Int) 16=some (((x <<< (UInt32.ofNat 16)).toNat:Nat):Int):=u32_shl x 16 jC
theorem u32_shl8(x:UInt32):shiftI .shl .u32 (x.toNat:Int) 8=some (((x <<< (UInt32.ofNat 8)).toNat:Nat):Int):=u32_shl x 8 jC
theorem u32_shr3(x:UInt32):shiftI .shr .u32 (x.toNat:Int) 3=some (((x >>> (UInt32.ofNat 3)).toNat:Nat):Int):=u32_shr x 3 jC
theorem u32_shr10(x:UInt32):shiftI .shr .u32 (x.toNat:Int) 10=some (((x >>> (UInt32.ofNat 10)).toNat:Nat):Int):=u32_shr x 10 jC
theorem u32_ofByte(b:UInt8):IntKind.u32.wrap ((b.toNat:Nat):Int)=((b.toUInt32.toNat:Nat):Int):=by
 rw[u32_wrap,UInt8.toNat_toUInt32];have:=b.toNat_lt;omega
theorem u8_ofU32(x:UInt32):IntKind.u8.wrap ((x.toNat:Nat):Int)=((x.toUInt8.toNat:Nat):Int):=by
 have h:IntKind.u8.wrap ((x.toNat:Nat):Int)=(x.toNat:Int) % 256:=by simp[IntKind.wrap,IntKind.signed,IntKind.bits]
 rw[h,UInt32.toNat_toUInt8];omega
namespace Sha
def rot(x:UInt32)(n:Nat):UInt32:=x >>> (UInt32.ofNat n) ||| x <<< (UInt32.ofNat (32-n))
def word(b:List UInt8)(i:Nat):UInt32:=
 (b.getD (4*i) 0).toUInt32 <<< (UInt32.ofNat 24) ||| (b.getD (4*i+1) 0).toUInt32 <<< (UInt32.ofNat 16) ||| (b.getD (4*i+2) 0).toUInt32 <<< (UInt32.ofNat 8) ||| (b.getD (4*i+3) 0).toUInt32
def words(b:List UInt8):Nat→List UInt32
 |0=>[]
 |i+1=>words b i++ [word b i]
def s0(x:UInt32):UInt32:=rot x 7 ^^^ rot x 18 ^^^ x >>> (UInt32.ofNat 3)
def s1(x:UInt32):UInt32:=rot x 17 ^^^ rot x 19 ^^^ x >>> (UInt32.ofNat 10)
def next(w:List UInt32):UInt32:=w.getD (w.length-16) 0+s0 (w.getD (w.length-15) 0)+w.getD (w.length-7) 0+s1 (w.getD (w.length-2) 0)
def ext(w:List UInt32):Nat→List UInt32
 |0=>w
 |i+1=>ext w i++ [next (ext w i)]
def sched(b:List UInt8):List UInt32:=ext (words b 16) 48
def k:List UInt32:=[
 0x428a2f98,0x71374491,0xb5c0fbcf,0xe9b5dba5,0x3956c25b,0x59f111f1,0x923f82a4,0xab1c5ed5,
 0xd807aa98,0x12835b01,0x243185be,0x550c7dc3,0x72be5d74,0x80deb1fe,0x9bdc06a7,0xc19bf174,
 0xe49b69c1,0xefbe4786,0x0fc19dc6,0x240ca1cc,0x2de92c6f,0x4a7484aa,0x5cb0a9dc,0x76f988da,
 0x983e5152,0xa831c66d,0xb00327c8,0xbf597fc7,0xc6e00bf3,0xd5a79147,0x06ca6351,0x14292967,
 0x27b70a85,0x2e1b2138,0x4d2c6dfc,0x53380d13,0x650a7354,0x766a0abb,0x81c2c92e,0x92722c85,
 0xa2bfe8a1,0xa81a664b,0xc24b8b70,0xc76c51a3,0xd192e819,0xd6990624,0xf40e3585,0x106aa070,
 0x19a4c116,0x1e376c08,0x2748774c,0x34b0bcb5,0x391c0cb3,0x4ed8aa4a,0x5b9cca4f,0x682e6ff3,
 0x748f82ee,0x78a5636f,0x84c87814,0x8cc70208,0x90befffa,0xa4506ceb,0xbef9a3f7,0xc67178f2]
structure S8 where
 a:UInt32
 b:UInt32
 c:UInt32
 d:UInt32
 e:UInt32
 f:UInt32
 g:UInt32
 h:UInt32
def S8.vals(s:S8):List Value:=[w32 s.a,w32 s.b,w32 s.c,w32 s.d,w32 s.e,w32 s.f,w32 s.g,w32 s.h]
def start:S8:=⟨0x6a09e667,0xbb67ae85,0x3c6ef372,0xa54ff53a,0x510e527f,0x9b05688c,0x1f83d9ab,0x5be0cd19⟩
def t1(k w:UInt32)(v:S8):UInt32:=v.h+(rot v.e 6 ^^^ rot v.e 11 ^^^ rot v.e 25)+(v.e &&& v.f ^^^ ~~~ v.e &&& v.g)+k+w
def t2(v:S8):UInt32:=(rot v.a 2 ^^^ rot v.a 13 ^^^ rot v.a 22)+(v.a &&& v.b ^^^ v.a &&& v.c ^^^ v.b &&& v.c)
def round(k w:UInt32)(v:S8):S8:=⟨t1 k w v+t2 v,v.a,v.b,v.c,v.d+t1 k w v,v.e,v.f,v.g⟩
def rounds(w:List UInt32)(v:S8):Nat→S8
 |0=>v
 |i+1=>round (k.getD i 0) (w.getD i 0) (rounds w v i)
def S8.add(v s:S8):S8:=⟨v.a+s.a,v.b+s.b,v.c+s.c,v.d+s.d,v.e+s.e,v.f+s.f,v.g+s.g,v.h+s.h⟩
def block(s:S8)(b:List UInt8):S8:=(rounds (sched b) s 64).add s
def blocks(s:S8)(b:List UInt8):Nat→S8
 |0=>s
 |i+1=>block (blocks s b i) ((b.drop (64*i)).take 64)
def padZ(n:Nat):Nat:=(119-n % 64) % 64
def padded(b:List UInt8):List UInt8:=b++ [0x80]++List.replicate (padZ b.length) 0++be 8 ((b.length*8:Nat):Int)
def S8.get(s:S8):Nat→UInt32
 |0=>s.a
 |1=>s.b
 |2=>s.c
 |3=>s.d
 |4=>s.e
 |5=>s.f
 |6=>s.g
 |_=>s.h
def S8.out(s:S8)(i:Nat):UInt8:=(s.get (i / 4) >>> (UInt32.ofNat (24-8*(i % 4)))).toUInt8
def sum(b:List UInt8):Nat→UInt8:=(blocks start (padded b) ((padded b).length / 64)).out
end Sha
variable {a b:List Value} {v:Value}
theorem fill_set{i:Nat}(ha:a[i]? =some v)(hab:a.length=b.length):SetV (a.take i++b.drop i) i v (a.take (i+1)++b.drop (i+1)):=by
 induction i generalizing a b with
 | zero =>
  match a,b,ha,hab with
  | x :: a, y :: b, ha, _ =>
   simp at ha;subst ha;exact .here _ _ _
 | succ i ih =>
  match a,b,ha,hab with
  |x::a,y::b,ha,hab=>exact .there _ (ih (by simpa using ha) (by simpa using hab))
variable {j:Nat}
theorem fill_get{i:Nat}(hj:j<i)(ha:a[j]? =some v):(a.take i++b.drop i)[j]? =some v:=by
 have:j<a.length:=by
  rcases Nat.lt_or_ge j a.length with h|h
  ·exact h
  ·simp[List.getElem?_eq_none h]at ha
 rw[List.getElem?_append_left jl,List.getElem?_take,if_pos hj,ha]
theorem fill_get2{i:Nat}(hj:i≤j)(hab:a.length=b.length)(hb:b[j]? =some v):(a.take i++b.drop i)[j]? =some v:=by
 have:j<b.length:=by
  rcases Nat.lt_or_ge j b.length with h|h
  ·exact h
  ·simp[List.getElem?_eq_none h]at hb
 have e:(a.take i).length=i:=by rw[List.length_take];omega
 rw[List.getElem?_append_right jA,e,List.getElem?_drop,show i+(j-i)=j by omega,hb]
theorem map_get{l:List α}(g:α→Value){i:Nat}(h:i<l.length)(z:α):(l.map g)[i]? =some (g (l.getD i z)):=by
 rw[List.getElem?_map,List.getElem?_eq_getElem h];simp[List.getD_eq_getElem?_getD,List.getElem?_eq_getElem h]
namespace Sha
theorem zbs(b:List UInt8):∀n,(words b n).length=n
 |0=>rfl
 |n+1=>by simp[words,zbs b n]
theorem words_get(b:List UInt8):∀(n i:Nat),i<n→(words b n).getD i 0=word b i
 |0,i,h=>by omega
 | n + 1, i, h => by
  simp only[words,List.getD_eq_getElem?_getD]
  by_cases e:i<n
  ·rw[List.getElem?_append_left (by rw[zbs];exact e),←List.getD_eq_getElem?_getD]
   exact words_get b n i e
  ·have:i=n:=jA
   subst this
   rw[List.getElem?_append_right (by rw[zbs];exact Nat.le_refl _),zbs]
   simp
theorem ext_len(w:List UInt32):∀n,(ext w n).length=w.length+n
 |0=>rfl
 |n+1=>by simp[ext,ext_len w n];omega
theorem ext_get(w:List UInt32)(n:Nat){i:Nat}(h:i<w.length+n):∀k,(ext w (n+k)).getD i 0=(ext w n).getD i 0
 |0=>rfl
 | k + 1 => by
  show(ext w (n+k)++_).getD i 0=_
  rw[List.getD_eq_getElem?_getD,List.getElem?_append_left (by rw[ext_len];omega),←List.getD_eq_getElem?_getD]
  exact ext_get w n h k
theorem sched_len(b:List UInt8):(sched b).length=64:=by unfold sched;rw[ext_len,zbs]
theorem sched_lo(b:List UInt8){i:Nat}(h:i<16):(sched b).getD i 0=word b i:=by
 unfold sched
 have:=ext_get (words b 16) 0 (i:=i) (by rw[zbs];omega) 48;rw[Nat.zero_add]at this
 rw[this];exact words_get b 16 i h
theorem sched_hi(b:List UInt8)(h:j<48):(sched b).getD (j+16) 0=(sched b).getD j 0+s0 ((sched b).getD (j+1) 0)+(sched b).getD (j+9) 0+s1 ((sched b).getD (j+14) 0):=by
 have pre:∀i,i<16+j→(sched b).getD i 0=(ext (words b 16) j).getD i 0:=fun i hi=>by
  unfold sched
  have:=ext_get (words b 16) j (i:=i) (by rw[zbs];omega) (48-j);rw[show j+(48-j)=48 by omega]at this
  exact this
 have top:(sched b).getD (j+16) 0=next (ext (words b 16) j):=by
  unfold sched
  have:=ext_get (words b 16) (j+1) (i:=j+16) (by rw[zbs];omega) (48-(j+1));rw[show j+1+(48-(j+1))=48 by omega]at this
  rw[this];show(ext (words b 16) j++ [next (ext (words b 16) j)]).getD (j+16) 0=_;rw[List.getD_eq_getElem?_getD,List.getElem?_append_right (by rw[ext_len,zbs];omega),ext_len,zbs,show j+16-(16+j)=0 by omega];rfl
 rw[top,pre j jA,pre (j+1) jA,pre (j+9) jA,pre (j+14) jA];unfold next;rw[ext_len,zbs,show 16+j-16=j by omega,show 16+j-15=j+1 by omega,show 16+j-7=j+9 by omega,show 16+j-2=j+14 by omega]
theorem S8.get_vals(s:S8){i:Nat}(h:i<8):s.vals[i]? =some (w32 (s.get i)):=by
 match i,h with
 |0,_=>rfl
 |1,_=>rfl
 |2,_=>rfl
 |3,_=>rfl
 |4,_=>rfl
 |5,_=>rfl
 |6,_=>rfl
 |7,_=>rfl
theorem S8.add_get(v s:S8){i:Nat}(h:i<8):(v.add s).get i=v.get i+s.get i:=by
 match i,h with
 |0,_=>rfl
 |1,_=>rfl
 |2,_=>rfl
 |3,_=>rfl
 |4,_=>rfl
 |5,_=>rfl
 |6,_=>rfl
 |7,_=>rfl
end Sha
theorem zca{i:Nat}(h:i<l.length):(bytesV l)[i]? =some (.int .u8 ((l.getD i 0).toNat:Nat)):=map_get _ h 0
section
variable (f:Frag) (F:List HP)
theorem rot_fn{x:UInt32}{n:Nat}(h0:0<n)(hn:n<32):Fn prog 138 [w32 x,.int .u64 (n:Nat)] f F (Ret (w32 (Sha.rot x n)) f F):=by
 have e:IntKind.u64.wrap (32-(n:Int))=((32-n:Nat):Int):=by rw[wr_u64 jA];omega
 refine Fn.e2 func138 ntmps138 fun base=>?_;repeat(first|(apply H.ar;(iterate 4 exact rfl);exact e;exact rfl)|(refine gh ?_)|(apply H.Bo;(iterate 3 exact rfl);(first|exact u32_shl _ _ jA|exact u32_shr _ _ jA);omega;(iterate 2 exact rfl))|(apply H.Bf;(iterate 3 exact rfl);exact u32_or _ _;(iterate 2 exact rfl)))
 exact qam
theorem k_fn2:Fn prog 139 [] f F (Ret (.agg (Sha.k.map w32).toArray) f F):=by
 refine Fn.e0 func139 ntmps139 fun base=>?_;refine gA ?_;refine H.Aj (ls:=List.replicate 64 (.int .u32 0)) rfl rfl rfl fun kb=>?_;refine gA ?_;refine H.buildA (out:=Sha.k.map w32) rfl rfl rfl rfl rfl ?_;refine qhK ?_;exact qaf
theorem start_fn:Fn prog 99 [] f F (Ret (.agg Sha.start.vals.toArray) f F):=by
 refine Fn.e0 func99 ntmps99 fun base=>?_;exact qbm
end
variable {S:List UInt32}
section
variable (f:Frag) (F:List HP)
def z64:List Value:=List.replicate 64 (w32 0)
theorem z64_len:z64.length=64:=rfl
def wRow(S:List UInt32)(n:Nat):List Value:=(S.map w32).take n++z64.drop n
theorem wRow_set(hS:S.length=64){n:Nat}(h:n<64):SetV (wRow S n) n (w32 (S.getD n 0)) (wRow S (n+1)):=
 fill_set (map_get w32 (by rw[hS];exact h) 0) (by rw[List.length_map,hS];rfl)
theorem wRow_get(hS:S.length=64){n:Nat}(h:j<n)(hn:n≤64):(wRow S n)[j]? =some (w32 (S.getD j 0)):=
 fill_get h (map_get w32 (by rw[hS];omega) 0)
def addRow(v s:Sha.S8)(n:Nat):List Value:=(v.add s).vals.take n++v.vals.drop n
theorem addRow_set(v s:Sha.S8){i:Nat}(h:i<8):SetV (addRow v s i) i (w32 (v.get i+s.get i)) (addRow v s (i+1)):=by
 rw[←Sha.S8.add_get v s h];exact fill_set (Sha.S8.get_vals (v.add s) h) rfl
theorem addRow_get(v s:Sha.S8){i:Nat}(h:i<8):(addRow v s i)[i]? =some (w32 (v.get i)):=
 fill_get2 (Nat.le_refl _) rfl (Sha.S8.get_vals v h)
theorem block_fn{s:Sha.S8}{bs:List UInt8}(hb:bs.length=64):Fn prog 100 [.agg s.vals.toArray,.agg (bytesV bs).toArray] f F (Ret (.agg (Sha.block s bs).vals.toArray) f F):=by
 have hbl:(bytesV bs).length=64:=by rw[zac,hb]
 have hlo:∀i,i<16→(Sha.sched bs).getD i 0=Sha.word bs i:=fun i h=>Sha.sched_lo bs h;have hhi:∀j,j<48→(Sha.sched bs).getD (j+16) 0=(Sha.sched bs).getD j 0+Sha.s0 ((Sha.sched bs).getD (j+1) 0)+(Sha.sched bs).getD (j+9) 0+Sha.s1 ((Sha.sched bs).getD (j+14) 0):=fun j h=>Sha.sched_hi bs h
 have hS:=Sha.sched_len bs;unfold Sha.block
 generalize Sha.sched bs=S at hlo hhi hS⊢;refine Fn.e2 func100 ntmps100 fun base=>?_;refine gA ?_;refine H.box (ls:=s.vals) rfl rfl rfl rfl fun sb=>?_;refine H.box (ls:=bytesV bs) rfl rfl rfl rfl fun nb=>?_;refine qil fun ob=>?_;refine gA ?_;refine H.Aj (ls:=wRow S 0) rfl rfl rfl fun wb=>?_;refine gT ?_;refine qjX ?_
 refine H.lo (ι:=Nat) (fun i=>[(6,.int .i64 (i:Int)),(2,.pointer (some ⟨sb,0,none⟩)),(3,.pointer (some ⟨nb,0,none⟩)),(4,.pointer (some ⟨ob,0,none⟩)),(5,.pointer (some ⟨wb,0,none⟩))]) (fun _=>f)
  (fun i=>row nb 186 (bytesV bs)::row wb 235 (wRow S i)::row ob 184 (List.replicate 8 (.int .u32 0))::row sb 184 s.vals::F) (fun i=>i≤16) (fun i=>16-i) 0 (Nat.zero_le _) fun i hi=>?_
 have hi:i≤16:=hi;by_cases hlt:i<16
 ·have hw:S.getD i 0=Sha.word bs i:=hlo i hlt;have hset:=wRow_set hS (n:=i) jA
  rw[hw]at hset;unfold Sha.word at hset;refine gG ?_;refine qeH ?_;refine HB.qu [0,1,2,3,4,5,6,7,8,9,10,11,12,13,14,15,16,17,18,19,20,21,22,23,24,25,26,27,28,29,30] 1 ?_;repeat(first|(apply HQ.Bk;(iterate 2 exact rfl);(with_reducible exact u32_ofByte _);exact rfl)|(apply HQ.Ao (i:=4*i);(iterate 3 exact rfl);omega;omega;exact rfl)|(apply HQ.Ao (i:=4*i+1);(iterate 3 exact rfl);omega;omega;exact rfl)|(apply HQ.Ao (i:=4*i+2);(iterate 3 exact rfl);omega;omega;exact rfl)|(apply HQ.Ao (i:=4*i+3);(iterate 3 exact rfl);omega;omega;exact rfl)|(apply HQ.Ad;(iterate 3 exact rfl);exact .of (Rd.ofRow jB) (by rw[Nat.mul_one];exact zca jA);exact rfl)|(refine gi ?_)|(apply HQ.Bf;(iterate 3 exact rfl);(with_reducible exact u32_or _ _);(iterate 2 exact rfl))|(apply HQ.Bo;(iterate 3 exact rfl);(first|with_reducible exact u32_shl24 _|with_reducible exact u32_shl16 _|with_reducible exact u32_shl8 _);decide;(iterate 2 exact rfl))|(apply HQ.Ao (i:=i);(iterate 3 exact rfl);exact rfl;omega;exact rfl))
  refine qel ?_;refine HB.ev 31 ?_;refine H.Bb (v:=w32 _) (ls':=wRow S (i+1)) rfl rfl rfl rfl jB jQ ?_;refine qjh ?_;exact H.ag (i+1) (by show i+1≤16;omega) (by show 16-(i+1)<16-i;omega)
 ·have hi16:i=16:=jA
  subst hi16;refine gY ?_;refine qfv ?_
  refine H.lo (ι:=Nat) (fun j=>[(7,.int .i64 ((j+16:Nat):Int)),(2,.pointer (some ⟨sb,0,none⟩)),(4,.pointer (some ⟨ob,0,none⟩)),(5,.pointer (some ⟨wb,0,none⟩))]) (fun _=>f)
   (fun j=>row wb 235 (wRow S (j+16))::row nb 186 (bytesV bs)::row ob 184 (List.replicate 8 (.int .u32 0))::row sb 184 s.vals::F) (fun j=>j≤48) (fun j=>48-j) 0 (Nat.zero_le _) fun j hj=>?_
  have hj:j≤48:=hj;by_cases hlt:j<48
  ·have hw:=hhi j hlt;have hset:=wRow_set hS (n:=j+16) jA
   rw[hw]at hset;have hg:∀k,k<j+16→(wRow S (j+16))[k*1]? =some (w32 (S.getD k 0)):=fun k hk=>by rw[Nat.mul_one];exact wRow_get hS hk jA
   refine gG ?_;refine qeH ?_;refine HB.qu [0,1,2,3,5,6,7,8,11,12,13,14,15] 5 ?_;repeat(first|(apply HQ.Ao (i:=j+1);(iterate 3 exact rfl);omega;omega;exact rfl)|(apply HQ.Ad;(iterate 3 exact rfl);exact .of (Rd.ofRow jB) (hg _ jA);exact rfl)|(refine gi ?_)|(apply HQ.Bo;(iterate 3 exact rfl);(with_reducible exact u32_shr3 _);decide;(iterate 2 exact rfl)))
   refine qkl ?_;refine H.Af rfl rfl rfl (rot_fn f _ (n:=7) jC jC) ?_;refine qed ?_;refine HB.ev 9 ?_;refine H.Af rfl rfl rfl (rot_fn f _ (n:=18) jC jC) ?_;refine qed ?_;refine HB.qu [10,16,17] 0 ?_;refine qfg ?_;refine qew ?_;refine qgX ?_;refine HB.qu [0,1,2,3,5,6,7,8,11,12,13,14,15] 5 ?_;repeat(first|(apply HQ.Ao (i:=j+14);(iterate 3 exact rfl);omega;omega;exact rfl)|(apply HQ.Ad;(iterate 3 exact rfl);exact .of (Rd.ofRow jB) (hg _ jA);exact rfl)|(refine gi ?_)|(apply HQ.Bo;(iterate 3 exact rfl);(with_reducible exact u32_shr10 _);decide;(iterate 2 exact rfl)))
   refine qkl ?_;refine H.Af rfl rfl rfl (rot_fn f _ (n:=17) jC jC) ?_;refine qed ?_;refine HB.ev 9 ?_;refine H.Af rfl rfl rfl (rot_fn f _ (n:=19) jC jC) ?_;refine qed ?_;refine HB.qu [10,16,17] 0 ?_;refine qfg ?_;refine qew ?_;refine gA ?_;refine H.dc [0,1,2,3,4,5,6,7,8,9,10,11,12,13,14] (S:=[_]) rfl ?_;refine HB.qu [0,1,2,3,4,5,6,7,8,9,10,11,12,13,14] 1 ?_;repeat(first|(apply HQ.Ao (i:=j);(iterate 3 exact rfl);omega;omega;exact rfl)|(apply HQ.Ao (i:=j+9);(iterate 3 exact rfl);omega;omega;exact rfl)|(apply HQ.Ad;(iterate 3 exact rfl);exact .of (Rd.ofRow jB) (hg _ jA);exact rfl)|(refine gi ?_)|(apply HQ.Ao (i:=j+16);(iterate 3 exact rfl);exact rfl;omega;exact rfl))
   refine qeC ?_;refine HB.ev 15 ?_;refine qhQ ?_;exact H.Av (j+1) (by show j+1≤48;omega) (by show 48-(j+1)<48-j;omega) ⟨by show some _=some (Value.int .i64 ((j+1+16:Nat):Int));rw[show j+1+16=j+16+1 by omega],rfl,rfl,rfl,trivial⟩ rfl ja
  ·have hj48:j=48:=jA
   subst hj48;refine gY ?_;refine H.Ab (ls:=s.vals) rfl rfl rfl (Rd.ofRow jB) rfl rfl ?_;refine qil fun vb=>?_;refine H.Ag (ls:=List.replicate 8 (.int .u32 0)) (vs:=s.vals) (ls':=s.vals) rfl rfl rfl (zaa rfl) rfl rfl (Nat.le_refl 8) jB ?_;refine gA ?_;refine H.Af rfl rfl rfl (k_fn2 f _) ?_;refine H.Aj (ls:=List.replicate 64 (.int .u32 0)) rfl rfl rfl fun kb=>?_;refine qhK ?_;have hgS:∀k,k<64→(wRow S (48+16))[k*1]? =some (w32 (S.getD k 0)):=fun k hk=>by rw[Nat.mul_one];exact wRow_get hS jA jA
   have hgK:∀k,k<64→(Sha.k.map w32)[k*1]? =some (w32 (Sha.k.getD k 0)):=fun k hk=>by rw[Nat.mul_one];exact map_get w32 hk 0
   generalize wRow S (48+16)=WL at hgS⊢;generalize hKL:Sha.k.map w32=KL at hgK⊢;refine H.pd (x:=row nb _ _) ?_;refine H.pf (x:=row vb _ _) ?_
   refine H.lo (ι:=Nat) (fun i=>[(12,.int .i64 (i:Int)),(10,.pointer (some ⟨vb,0,none⟩)),(11,.pointer (some ⟨kb,0,none⟩)),(2,.pointer (some ⟨sb,0,none⟩)),(4,.pointer (some ⟨ob,0,none⟩)),(5,.pointer (some ⟨wb,0,none⟩))]) (fun _=>f)
    (fun i=>row vb 184 (Sha.rounds S s i).vals::row kb 235 KL::row wb 235 WL::row ob 184 (List.replicate 8 (.int .u32 0))::row sb 184 s.vals::F) (fun i=>i≤64) (fun i=>64-i) 0 (Nat.zero_le _) fun i hi=>?_
   have hi:i≤64:=hi;by_cases hlt:i<64
   ·have hr:Sha.rounds S s (i+1)=Sha.round (Sha.k.getD i 0) (S.getD i 0) (Sha.rounds S s i):=rfl;have hgs:=hgS i hlt
    have hgk:=hgK i hlt;generalize Sha.k.getD i 0=kk at hr hgk
    generalize S.getD i 0=ww at hr hgs;show H _ _ _ _ _ (row vb _ (Sha.rounds S s i).vals::_) _;generalize Sha.rounds S s i=v at hr⊢;repeat(first|(refine gh ?_)|(apply H.index_arrT;(iterate 3 exact rfl);decide;exact rfl))
    refine qkc ?_;refine HB.qu [0,1,2,4,7,11,12,13,14,15,16,17,18,19,20,22,23,24,26,27,28] 10 ?_;repeat(first|(apply HQ.Ao (i:=i);(iterate 3 exact rfl);exact rfl;exact hlt;exact rfl)|(apply HQ.Ad;(iterate 3 exact rfl);exact .of (Rd.ofRow jB) hgk;exact rfl)|(apply HQ.Ad;(iterate 3 exact rfl);exact .of (Rd.ofRow jB) hgs;exact rfl)|(refine gi ?_)|(apply HQ.Bf;(iterate 3 exact rfl);(first|with_reducible exact zbp _ _|with_reducible exact u32_and _ _);(iterate 2 exact rfl))|(apply HQ.flip;(iterate 2 exact rfl);exact u32_not _;(iterate 2 exact rfl))|(apply HQ.index_arrT;(iterate 3 exact rfl);decide;exact rfl))
    refine qel ?_;refine HB.ev 3 ?_;refine H.Af rfl rfl rfl (rot_fn f _ (n:=6) jC jC) ?_;refine qed ?_;refine HB.ev 5 ?_;refine H.Af rfl rfl rfl (rot_fn f _ (n:=11) jC jC) ?_;refine qed ?_;refine HB.qu [6] 7 ?_;refine qhp ?_;refine HB.ev 8 ?_;refine H.Af rfl rfl rfl (rot_fn f _ (n:=25) jC jC) ?_;refine qed ?_;refine HB.qu [9,10,21,25,29,30] 0 ?_;refine qfg ?_;refine qew ?_;refine gA ?_;refine qkc ?_;refine HB.qu [0,2,5,8,9,10,11,12,13,14,15,16,17,18,19,20,21,22] 7 ?_;repeat(first|(refine gi ?_)|(apply HQ.Bf;(iterate 3 exact rfl);(first|with_reducible exact zbp _ _|with_reducible exact u32_and _ _);(iterate 2 exact rfl))|(apply HQ.index_arrT;(iterate 3 exact rfl);decide;exact rfl))
    refine qis ?_;refine H.Af rfl rfl rfl (rot_fn f _ (n:=2) jC jC) ?_;refine qed ?_;refine HB.ev 3 ?_;refine H.Af rfl rfl rfl (rot_fn f _ (n:=13) jC jC) ?_;refine qed ?_;refine HB.qu [4] 4 ?_;refine qhp ?_;refine HB.ev 6 ?_;refine H.Af rfl rfl rfl (rot_fn f _ (n:=22) jC jC) ?_;refine qed ?_;refine HB.qu [7,23,24] 0 ?_;refine qfg ?_;refine qew ?_;repeat(first|(refine gh ?_)|(apply H.index_arrT;(iterate 3 exact rfl);decide;exact rfl))
    refine H.buildA (out:=(Sha.round kk ww v).vals) rfl rfl rfl rfl rfl ?_;refine H.Ag (ls:=v.vals) (vs:=(Sha.round kk ww v).vals) (ls':=(Sha.round kk ww v).vals) rfl rfl rfl (zaa rfl) rfl rfl (Nat.le_refl 8) jB ?_;refine gV ?_;exact H.Av (i+1) ju jf ⟨rfl,rfl,rfl,rfl,rfl,rfl,trivial⟩ rfl (by rw[hr];rfl)
   ·have hi64:i=64:=jA
    subst hi64;generalize Sha.rounds S s 64=v;refine gY ?_;refine H.pd (x:=row kb _ _) ?_;refine H.pd (x:=row wb _ _) ?_;refine H.pf (x:=row sb _ _) ?_;refine H.pf (x:=row vb _ _) ?_
    refine H.lo (ι:=Nat) (fun i=>[(17,.int .i64 (i:Int)),(10,.pointer (some ⟨vb,0,none⟩)),(2,.pointer (some ⟨sb,0,none⟩)),(4,.pointer (some ⟨ob,0,none⟩))]) (fun _=>f)
     (fun i=>row vb 184 (addRow v s i)::row sb 184 s.vals::row ob 184 (List.replicate 8 (.int .u32 0))::F) (fun i=>i≤8) (fun i=>8-i) 0 (Nat.zero_le _) fun i hi=>?_
    have hi:i≤8:=hi;by_cases hlt:i<8
    ·have hset:=addRow_set v s hlt;have hg:=addRow_get v s hlt
     have hg2:=Sha.S8.get_vals s hlt;show H _ _ _ _ _ (row vb _ (addRow v s i)::_) _
     refine gG ?_;refine qkO ?_;refine HB.qu [0,1,2,3,4,5,6,7,8] 1 ?_;repeat(first|(apply HQ.Ao (i:=i);(iterate 3 exact rfl);exact rfl;exact hlt;exact rfl)|(apply HQ.Ad;(iterate 3 exact rfl);exact .of (Rd.ofRow jB) (by rw[Nat.mul_one];exact hg);exact rfl)|(apply HQ.Ad;(iterate 3 exact rfl);exact .of (Rd.ofRow jB) (by rw[Nat.mul_one];exact hg2);exact rfl)|(refine gi ?_))
     refine qeC ?_;refine HB.ev 9 ?_;refine H.Bb (v:=w32 _) (ls':=addRow v s (i+1)) rfl rfl rfl rfl jB jQ ?_;refine qjh ?_;exact qcc
    ·have hi8:i=8:=jA
     subst hi8;refine qgo ?_;refine H.pd (x:=row vb _ _) ?_;refine H.pd (x:=row sb _ _) ?_;exact qaf
end
end Go.Proofs.YtkaknokcbhiigaaGreatDoor

namespace Go.Proofs.YtkaknokcbhiigaaGreatDoor
open Go Tryz Go.ChangeShapes Go.WideShapes Go.RowKit Go.Deep
def IntsAt(f:Frag)(g:Nat)(k:IntKind)(zs:List Int):Prop:=∃(cs:Array Value) (T:TypeId) (fr:Nat×Nat),f g=some (.cells cs T fr)∧∀(i:Nat) (z:Int),zs[i]? =some z→cs[i]? =some (.int k z)
variable {f:Frag} {g:Nat} {zs:List Int}
theorem IntsAt.mono{f':Frag}{k:IntKind}(hle:Le f f')(h:IntsAt f g k zs):IntsAt f' g k zs:=by
 obtain⟨cs,T,fr,h1,h2⟩:=h;exact⟨cs,T,fr,hle g _ h1,h2⟩
theorem IntsAt.rd{A:List HP}{k:IntKind}(h:IntsAt f g k zs){i:Nat}{z:Int}(hz:zs[i]? =some z):Rd1 f A g i (.int k z):=by
 obtain⟨cs,T,fr,h1,h2⟩:=h;exact Rd1.imm h1 (h2 i z hz)
variable {P:Program}
theorem laid_ints{W:World}{name:String}{t e:TypeId}{k:IntKind}(h:laidMetH P [(name,.agg (zs.map fun z=>.lit (.int k z)))] W)
  (hg:P.globalNamed name=some g) (ht:(P.globals[g]?).map (·.type)=some t) (hu:P.underlying t=some (.array zs.length e)) (he:P.underlying e=some (.int k)) (h1:P.cellsOf e=1):IntsAt (memOf W) g k zs:=by
 rw[MakeChecks.laidMetH_plain _ _ _ rfl]at h;obtain⟨ps,⟨g0,t0,cs0,f0,p0,q0,hg0,ht0,hv0,hd0,_,_⟩,_,_⟩:=h;obtain rfl:=Option.some.inj (hg.symm.trans hg0);obtain rfl:=Option.some.inj (ht.symm.trans ht0);obtain⟨xs,m1,rfl,hx1,hlen,hn,hel⟩:=DataW.trod_array hu hd0;simp only[Prod.mk.injEq,DataW.agg.injEq]at hx1
 have hh:∃T fr,W.heap[g]? =some (.cells cs0 T fr):=by
  simp only[World.var?,hg,Option.bind_some]at hv0;split at hv0
  ·rename_i cs T fr hw
   cases hv0
   exact⟨T,fr,hw⟩
  ·cases hv0
 obtain⟨T,fr,hw⟩:=hh;refine⟨cs0,T,fr,hw,fun i z hz=>?_⟩;have hi:i<zs.length:=(List.getElem?_eq_some_iff.1 hz).1;have h2:=hel i hi
 have h3:(xs.map (·.1))[i]? =some (.lit (.int k z)):=by rw[←hx1.1,List.getElem?_map,hz];rfl
 rw[List.getElem?_map]at h3
 cases hxi:xs[i]? with
 |none=>rw[hxi]at h3;cases h3
 | some x =>
  rw[hxi]at h2 h3;simp only[Option.map_some,Option.some.injEq]at h3;obtain⟨n,e1,e2,_⟩:=DataW.trod_int he h2;rw[h1,Nat.mul_one]at e1
  have hn:n=z:=by
   rw[e2]at h3;simpa using h3
  subst hn
  have h4:(cs0.toList.drop i)[0]? =some (.int k n):=by
   have:((cs0.toList.drop i).take 1)[0]? =some (.int k n):=by rw[e1];rfl
   rwa [List.getElem?_take_of_lt jC]at this
  rw[List.getElem?_drop,Nat.add_zero]at h4;simpa using h4
variable {fn:Func}
theorem params_plain(h:(fn.params.toList.all fun t=>!P.wantsStandIn t)=true):∀(j:Nat) t,fn.params[j]? =some t→P.wantsStandIn t=false:=fun j t ht=>by
 have:=List.all_eq_true.1 h t (Array.mem_toList_iff.2 (Array.mem_of_getElem? ht))
 simpa using this
theorem lawRowL{H':Type}{enc:TypeId×Value→H'}{a:Assume}{C:Checked}{os:Os}{fid:FuncId}{s:ChangeSpec}{conds:List PathCond}{apart fresh handsOn again:Bool}{tb:TypeId}{laid:List (String×DataW Unit)}
  (own:ownKnob C.prog.godebug=none) (started:os.Started) (noInit:C.prog.inits.idxOf? fid=none) (hfn:C.prog.funcs[fid]? =some fn)
  (witness : ∃ (w : World) (tape : Tape) (i : Input), w.os = os ∧ (w.forCall tape i).Shaped C.prog ∧ i.vars = [] ∧ Input.okWide C.prog (w.forCall tape i) .any w.heap.size fid i ∧
   ((s.pre enc C.prog fn conds apart (w.forCall tape i).memory i.args∧laidMetH C.prog laid (w.forCall tape i).memory)∧sizedMet enc C.prog fn (OpenSpec.ofChange s) apart (w.forCall tape i).memory i.args)∧a.holds C.prog (lone (Frame.enter C.prog fid i.args .normal) [] (w.forCall tape i)))
  (htb:C.prog.underlying tb=some .bool) (hres:fn.resultTypes= #[tb]) (hv:s.vars= []) (hl:laidOutB C.prog=true)
  (hts:fn.params.toList.all (fun t=>C.prog.readableRec t&& Nat.blt t C.prog.types.size)=true)
  (hs:∀ds:List (DataW H'),ds.length=fn.params.toList.length→s.fn H' ds= {results:=[.lit (.bool true)],args:=ds})
  (law:∀(W:World) (args:List Value),ArgsOk C.prog W fn.params.toList args→laidMetH C.prog laid W→Fn C.prog fid args (memOf W) [] (Ret (.bool true) (memOf W) [])) :
  ReturnsInHanded a C os fid .any (fun w args=>(s.pre enc C.prog fn conds apart w args∧laidMetH C.prog laid w)∧sizedMet enc C.prog fn (OpenSpec.ofChange s) apart w args) (s.post enc C.prog fn apart fresh handsOn again):=by
 refine returnsInHanded_of_change_and (X:=fun w _=>laidMetH C.prog laid w) (fun _ _ _ hh h=>h.of_heap hh) own started noInit hfn witness ?_;intro W base args ds gs before hval hW _ _ hL _;have hW':=hW;obtain⟨p,q,hA,hV,rfl,_,_⟩:=hW
 rw[hv]at hV;obtain⟨rfl,rfl⟩:=trodVars_none hV;rw[List.append_nil]at hW'
 have hts':∀t∈fn.params.toList,C.prog.readableRec t=true∧t<C.prog.types.size:=fun t ht=>by
  have:=List.all_eq_true.1 hts t ht;simp only[Bool.and_eq_true]at this
  exact⟨this.1,by have:=this.2;simpa [Nat.blt_eq]using this⟩
 have hlen:=trodAll_len hA;have e:=hs ds hlen
 have hc:=law W args.toList (argsOk_of hA fun j t v h1 h2=>⟨base,hval j t v (by simpa using h1) (by simpa using h2)⟩) hL W W (sat_start W);refine hc.mono ?_
 rintro x w' ⟨v,f',A',rfl,⟨rfl,rfl,rfl⟩,hsat⟩;refine⟨_,rfl,post_own hW' hv hA hl hts' ?_ (by rw[List.append_nil,e]) (by rw[List.append_nil,e]) hsat.below ?_⟩
 ·intro b sp hd;rw[List.append_nil,e,hres];exact trodAll_mk1 (shut_bool htb true)
 ·exact ok_one hres rfl (okWide_bool_mk htb true)
end Go.Proofs.YtkaknokcbhiigaaGreatDoor

namespace Go.Proofs.YtkaknokcbhiigaaGreatDoor
open Go Tryz
/-! ### Keys that are structs or arrays -/
variable {kt:TypeId}
section keys
variable {P:Program}
theorem offs_le {n : Nat} : ∀ (fs : List Field) (o : Nat), shp.offs P fs o n = true → o ≤ n ∧ ∀ f ∈ fs, f.name ≠ "_" ∧ f.offset + P.cellsOf f.type ≤ n
 | [], o, h => by
  have e:o=n:=Nat.eq_of_beq_eq_true h
  exact⟨by omega,fun f hf=>by cases hf⟩
 | f :: fs, o, h => by
  simp only[shp.offs,Bool.and_eq_true,bne_iff_ne,ne_eq]at h
  obtain⟨⟨hn,he⟩,hr⟩:=h
  have he':f.offset=o:=Nat.eq_of_beq_eq_true he
  subst he'
  obtain⟨h1,h2⟩:=offs_le fs _ hr
  refine⟨by omega,fun g hg=>?_⟩
  rcases List.mem_cons.1 hg with rfl|hg
  ·exact⟨hn,h1⟩
  ·exact h2 g hg
theorem run_checkKey_shp(em:Bool)(w:World):∀(d D:Nat) (t:TypeId) (xs:List Value),shp P D t xs=true→D≤d→(Instr.checkKey em d t (mkV P t xs)).run P w= .ok () w
 | 0, D, t, xs, h, hd => by
  have:D=0:=jA
  subst this
  simp[shp]at h
 | d + 1, D, t, xs, h, hd => by
  by_cases h1:∃n e',P.underlying t=some (.array n e')
  ·obtain⟨n,e,hu⟩:=h1
   obtain⟨⟨i,hi⟩,l1,D1,rfl,s1⟩:=shp_len hu h
   have hm:mkV P t xs= .agg xs.toArray:=by simp[mkV,hu]
   rw[hm,Instr.checkKey]
   simp only[Sem.run_bind,run_underlying hu,Result.andThen_ok]
   simp only[Std.Legacy.Range.forIn_eq_forIn_range',Std.Legacy.Range.size,Nat.sub_zero,Nat.add_one_sub_one,Nat.div_one]
   have each:∀j∈List.range' 0 n,j<n:=fun j hj=>by simp[List.mem_range'_1]at hj;omega
   generalize List.range' 0 n=is at each
   induction is with
   |nil=>simp
   | cons j is ih =>
    have hj:=each j jL
    have hle:j*P.cellsOf e+P.cellsOf e≤xs.length:=by
     rw[l1]
     have:=Nat.mul_le_mul_right (P.cellsOf e) (show j+1≤n from hj);rwa [Nat.add_mul,Nat.one_mul]at this
    have p1:=zbz w (s1 j hj) hle
    have p2:=run_checkKey_shp em w d D1 e _ (s1 j hj) jA
    simp only[List.forIn_cons,Sem.run_bind,run_sizeOf w hi,Result.andThen_ok,p1,p2,Sem.run_pure]
    exact ih (fun y hy=>each y (by simp[hy]))
  ·by_cases h2 : ∃ fs, P.underlying t = some (.struct fs)
   ·obtain⟨fs,hu⟩:=h2
    obtain⟨n1,l1,o1,D1,rfl,s1⟩:=shp_str hu h
    have hm:mkV P t xs= .agg xs.toArray:=by simp[mkV,hu]
    rw[hm,Instr.checkKey]
    simp only[Sem.run_bind,run_underlying hu,Result.andThen_ok]
    rw[←Array.forIn_toList]
    have each:=(offs_le fs.toList 0 o1).2
    generalize fs.toList=L at each s1
    induction L with
    |nil=>simp
    | cons f L ih =>
     obtain⟨hn,hle⟩:=each f jL
     have p1:=zbz w (s1 f jL) hle
     have p2:=run_checkKey_shp em w d D1 f.type _ (s1 f jL) jA
     simp only[List.forIn_cons,Sem.run_bind,hn,ne_eq,not_false_eq_true,if_true,Result.andThen_ok,p1,p2,Sem.run_pure]
     exact ih (fun y hy=>each y (by simp[hy])) (fun y hy=>s1 y (by simp[hy]))
   ·obtain⟨hpk,v,rfl,hmk,_⟩:=shp_plain h (fun n e hu=>h1 ⟨n,e,hu⟩) (fun fs hu=>h2 ⟨fs,hu⟩)
    rw[hmk]
    unfold Program.plainKey at hpk
    cases hu:P.underlying t with
    |none=>simp[hu]at hpk
    |some k=>cases k<;>simp[hu]at hpk<;>simp[Instr.checkKey,run_underlying hu]
def plnC:List Value→Bool
 | []=>true
 |v::r=>(match v with| .bool _| .int _ _| .string _=>true|_=>false)&& plnC r
theorem plnC_mem:∀ {l:List Value},plnC l=true→∀m,(l.zip l).all (fun(x,y)=>Instr.sameBits (m+1) x y)=true
 | [],_,m=>rfl
 | v :: r, h, m => by
  simp only[plnC,Bool.and_eq_true]at h
  simp only[List.zip_cons_cons,List.all_cons,plnC_mem h.2 m,Bool.and_true]
  cases v<;>simp at h<;>simp[Instr.sameBits]
  rw[beq_toListBytes];simp
theorem keyT_agg{κ:Type}[DecidableEq κ]{cellsK:κ→List Value}{D:Nat}(hwide:(match P.underlying kt with|some (.array _ _)|some (.struct _)=>true|_=>false)=true)
  (hs:∀k,shp P D kt (cellsK k)=true) (hD:D≤10000) (he:∀a b,eqC (cellsK a) (cellsK b)=decide (a=b)) (hp:∀k,plnC (cellsK k)=true):KeyT P kt (fun k:κ=>Value.agg (cellsK k).toArray) where
 chk:=fun k e w=>by
  have hm:mkV P kt (cellsK k)= .agg (cellsK k).toArray:=by unfold mkV;split at hwide<;>simp_all
  rw[←hm]
  exact run_checkKey_shp e w 10000 D kt _ (hs k) hD
 same:=fun k=>by
  show Instr.sameBits (9999+1) _ _=true
  simp only[Instr.sameBits,beq_self_eq_true,Bool.true_and]
  exact plnC_mem (hp k) 9998
 fnd:=fun k es ks w h=>by
  rw[run_findKey_eq w hwide]
  have hm:∀k,mkV P kt (cellsK k)= .agg (cellsK k).toArray:=fun k=>by unfold mkV;split at hwide<;>simp_all
  have heq:∀a b:κ,(Op.equal kt (.agg (cellsK a).toArray) (.agg (cellsK b).toArray)).run P w= .ok (decide (a=b)) w:=fun a b=>by
   have h3:=zbl 10000 kt w D D _ _ (hs a) (hs b) hD
   rw[hm,hm,he]at h3
   exact h3
  have key:∀(es:List MapEntry) (ks:List κ) (j:Nat),es.map (·.key)=ks.map (fun k:κ=>Value.agg (cellsK k).toArray)→
    (Instr.findAsking kt (.agg (cellsK k).toArray) es j).run P w= .ok ((ks.findIdx? (k= ·)).bind fun i=>(es[i]?).map fun e=>(j+i,e.val)) w:=by
   intro es
   induction es with
   |nil=>intro ks j h;cases ks<;>simp at h;simp[Instr.findAsking]
   | cons e r ih =>
    intro ks j h
    cases ks with
    |nil=>simp at h
    | cons k' ks =>
     simp only[List.map_cons,List.cons.injEq]at h;simp only[Instr.findAsking,h.1,Sem.run_bind,heq,Result.andThen_ok,List.findIdx?_cons];by_cases c:k=k'
     ·simp[c]
     ·simp only[c,decide_false,Bool.false_eq_true,if_false,ih ks (j+1) h.2]
      cases ks.findIdx? (k= ·)with
      |none=>simp
      |some i=>simp[Nat.add_assoc,Nat.add_comm 1]
  have:=key es ks 0 h
  simpa only[Nat.zero_add]using this
end keys
/-! ### A map with its entries told; a loop over it -/
variable {b clock r:Nat} {h:Frag} {w:World} {A':List HP} {y:HP} {t:TypeId} {x:Operand}
section loops
variable {P:Program} {base:World} {n:Nat} {L:Env} {f:Frag} {A:List HP} {q:Post}
variable {l rest:List Oper} {d:Nat} {ty:TypeId} {pos:String} {af:Array Edge} {gd:Option (Nat × Bool)}
variable {κ:Type} [DecidableEq κ] {enc:κ→Value}
structure MapOk(es:List (κ×Value×Nat))(clock:Nat):Prop where
 keys:(es.map (·.1)).Nodup
 stamps:(es.map (·.2.2)).Nodup
 below:∀e∈es,e.2.2<clock
def mpS(b:Nat)(enc:κ→Value)(es:List (κ×Value×Nat))(clock:Nat):HP:=fun h=>MapOk es clock∧h=sing b (.map (es.map (entOf enc)).toArray clock)
theorem mpS_mp{es:List (κ×Value×Nat)}(hh:mpS b enc es clock h):mp b enc (es.map kvOf) h:=
 ⟨es,clock,rfl,hh.1.keys,hh.1.stamps,hh.1.below,hh.2⟩
theorem mp_mpS{m:List (κ×Value)}(hh:mp b enc m h):∃(es:List (κ×Value×Nat)) (clock:Nat),es.map kvOf=m∧mpS b enc es clock h:=by
 obtain⟨es,clock,a1,a2,a3,a4,a5⟩:=hh;exact⟨es,clock,a1,⟨a2,a3,a4⟩,a5⟩
theorem Sat.mpS_at{es:List (κ×Value×Nat)}(s:Sat base w f A)(h:At A (mpS b enc es clock) A' y):MapOk es clock∧w.heap[b]? =some (.map (es.map (entOf enc)).toArray clock):=by
 obtain⟨R,h1,_⟩:=h.split;obtain⟨x,hm,_,hw⟩:=s.mem;rw[h1]at hm;obtain⟨m1,m2,_,rfl,⟨a1,rfl⟩,_⟩:=hm;exact⟨a1,hw b _ jq⟩
theorem mpS_fold{es:List (κ×Value×Nat)}{F:List HP}:∀x,stars (mpS b enc es clock::F) x→stars (mp b enc (es.map kvOf)::F) x:=fun x hx=>by
 obtain⟨m1,m2,dd,e,a,r⟩:=hx
 exact⟨m1,m2,dd,e,mpS_mp a,r⟩
theorem Fn.openMap{fid:FuncId}{args:List Value}{R:Value→Frag→List HP→Prop}{m:List (κ×Value)}(k:∀(es:List (κ×Value×Nat)) (clock:Nat),es.map kvOf=m→Fn P fid args f (mpS b enc es clock::A) R):Fn P fid args f (mp b enc m::A) R:=
 Fn.unfold (ι:={i:List (κ×Value×Nat)×Nat // i.1.map kvOf=m}) (B:=fun i=>[mpS b enc i.1.1 i.1.2]) (fun h hh=>by
  obtain⟨es,clock,a1,a2⟩:=mp_mpS hh
  refine⟨⟨(es,clock),a1⟩,?_⟩
  simp only[stars,star_emp]
  exact a2) fun i=>k i.1.1 i.1.2 i.2
def itr(r b:Nat)(es:List (κ×Value×Nat))(clock:Nat)(seen:List κ):HP:=fun h=>
 ∃sA:Array Nat,(∀e∈es,sA.contains e.2.2=true↔e.1∈seen)∧(∀k r,seen=k::r→∃e∈es,e.1=k∧sA.back? =some e.2.2)∧h=sing r (.mapIter (some b) clock sA clock)
theorem H.range{et:TypeId}{es:List (κ×Value×Nat)}[hu:Und P t (.map kt et)](hw:want? l L gd=true)
  (hx:ev? L x=some (.map (some b))) (hA:At A (mpS b enc es clock) A' (mpS b enc es clock)) (hd:Nat.ble (d+1) n=true)
  (kk:∀r,H P base n ((d,.pointer (some ⟨r,0,none⟩))::L) f (itr r b es clock []::A) (.ops l rest q)):H P base n L f A (.ops l (⟨some d,.range t x,ty,pos,af,gd⟩::rest) q):=
 H.opE (fun r:Nat=>.pointer (some ⟨r,0,none⟩)) (fun _=>f) (fun r=>itr r b es clock []::A) (fun _=>True) hw hd (fun a w hfr s=>by
  obtain⟨ho,hb⟩:=s.mpS_at hA
  refine⟨w.heap.size,w.alloc (.mapIter (some b) clock #[] clock),trivial,?_,?_⟩
  ·have h:=run_range_map w t kt et b _ clock hu.eq hb
   simp only[execOp,hfr.eval hx,Sem.run_bind,h,Result.andThen_ok,Sem.run_pure]
  ·have s1:Sat base (w.alloc (.mapIter (some b) clock #[] clock)) f (pts w.heap.size (.mapIter (some b) clock #[] clock)::A):=s.alloc rfl rfl rfl rfl
   refine s1.imp fun h hh=>?_
   obtain⟨m1,m2,dd,e,a1,a2⟩:=hh
   exact⟨m1,m2,dd,e,⟨#[],(fun e _=>by simp),(fun k r hk=>by cases hk),a1⟩,a2⟩) (fun r _=>kk r)
theorem Sat.itr_at{es:List (κ×Value×Nat)}{seen:List κ}(s:Sat base w f A)(h:At A (itr r b es clock seen) A' y):
  ∃sA:Array Nat,(∀e∈es,sA.contains e.2.2=true↔e.1∈seen)∧(∀k r,seen=k::r→∃e∈es,e.1=k∧sA.back? =some e.2.2)∧w.heap[r]? =some (.mapIter (some b) clock sA clock):=by
 obtain⟨R,h1,_⟩:=h.split;obtain⟨x,hm,_,hw⟩:=s.mem;rw[h1]at hm;obtain⟨m1,m2,_,rfl,⟨sA,a1,a2,rfl⟩,_⟩:=hm;exact⟨sA,a1,a2,hw r _ jq⟩
theorem run_next_itr{es:List (κ×Value×Nat)}{sA:Array Nat}(ho:MapOk es clock)(hb:w.heap[b]? =some (.map (es.map (entOf enc)).toArray clock))(hr:w.heap[r]? =some (.mapIter (some b) clock sA clock)):
  ((∀e∈es,sA.contains e.2.2=true)∧(Instr.next (.pointer (some ⟨r,0,none⟩)) false ty).run P w= .ok (.tuple #[.bool false]) w)∨
  ∃e∈es,sA.contains e.2.2=false∧∃w1:World,w1.heap=w.heap∧w1.os=w.os∧w1.output=w.output∧w1.tape=w.tape∧
   (Instr.next (.pointer (some ⟨r,0,none⟩)) false ty).run P w= .ok (.tuple #[.bool true,enc e.1,e.2.1]) {w1 with heap:=w1.heap.setIfInBounds r (.mapIter (some b) clock (sA.push e.2.2) clock)}:=by
 have hold:∀x∈(es.map (entOf enc)).toArray.toList,x.born<clock:=fun x hx=>by
  simp only[List.mem_map]at hx;obtain⟨e,he,rfl⟩:=hx;exact ho.below e he
 simp only[Instr.next,getObj,Sem.run_bind,Sem.run,hr,hb,Result.andThen,next_test_false sA (es.map (entOf enc)).toArray clock clock hold (Nat.le_refl _),Bool.false_eq_true,if_false];have hmem:∀x∈(Array.filter (fun e=>!sA.contains e.born) (es.map (entOf enc)).toArray).toList,x.born<clock:=fun x hx=>hold x (by simp at hx⊢;exact hx.1)
 have hin:∀x∈(Array.filter (fun e=>!sA.contains e.born) (es.map (entOf enc)).toArray),∃e∈es,x=entOf enc e∧sA.contains e.2.2=false:=fun x hx=>by
  have h:=Array.mem_filter.1 hx;obtain⟨e,he,rfl⟩:=List.mem_map.1 (List.mem_toArray.1 h.1)
  exact⟨e,he,rfl,by simpa [entOf]using h.2⟩
 have hall:(Array.filter (fun e=>!sA.contains e.born) (es.map (entOf enc)).toArray)= #[]→∀e∈es,sA.contains e.2.2=true:=fun h2 e he=>by
  rw[Array.filter_eq_empty_iff]at h2;have h3:=h2 (entOf enc e) (List.mem_toArray.2 (List.mem_map.2 ⟨e,he,rfl⟩))
  cases hc:sA.contains e.2.2 with
  |true=>rfl
  |false=>exact absurd (by show(!sA.contains e.2.2)=true;rw[hc];rfl) h3
 generalize Array.filter (fun e=>!sA.contains e.born) (es.map (entOf enc)).toArray=L at hmem hin hall⊢;have e1:L.filter (fun x=>decide (x.born<clock))=L:=Array.filter_eq_self.2 (fun x hx=>by simpa using hmem x jr)
 have e2:L.filter (fun x=>decide (x.born≥clock))= #[]:=by
  rw[Array.filter_eq_empty_iff];intro x hx
  have:=hmem x jr;simp
  omega
 simp only[e1,e2,Array.append_empty];by_cases h0:L.size=0
 ·left;have:L= #[]:=Array.eq_empty_of_size_eq_zero h0;refine⟨hall this,?_⟩
  subst this;simp[choose,Sem.run,Question.forced]
 ·right;have hne:L.isEmpty=false:=by simp[Array.isEmpty,h0]
  simp only[hne,Bool.false_eq_true,if_false,Array.empty_append,Array.size_map]
  have hch:∃(j:Nat) (w1:World),j<L.size∧w1.heap=w.heap∧w1.os=w.os∧w1.output=w.output∧w1.tape=w.tape∧(choose (Question.mapNext L.size)).run P w= .ok j w1:=by
   by_cases hf:L.size≤1
   ·exact⟨0,w,by omega,rfl,rfl,rfl,rfl,by simp[choose,Sem.run,Question.forced,hf]⟩
   ·exact⟨_,w.drew,Nat.mod_lt _ jA,rfl,rfl,rfl,rfl,by
     simp only[choose,Sem.run,Question.forced,decide_eq_true_eq,hf,if_false,Question.cut]
     rfl⟩
  obtain⟨j,w1,hj,q1,q2,q3,q4,hrun⟩:=hch;obtain⟨e,he,hx,hc⟩:=hin L[j] (Array.getElem_mem hj);refine⟨e,he,hc,w1,q1,q2,q3,q4,?_⟩
  have hset:∀o':Obj,(setObj r o').run P w1= .ok () {w1 with heap:=w1.heap.setIfInBounds r o'}:=fun o'=>by
   simp only[setObj,Sem.run,q1,hr]
  simp only[hrun,Array.getElem?_map,Array.getElem?_eq_getElem hj,Option.map_some,Sem.run_bind,hset,Result.andThen,hx];rfl
theorem map_inj{α β:Type}(g:α→β):∀ {l:List α},(l.map g).Nodup→∀ {x y:α},x∈l→y∈l→g x=g y→x=y
 | [],_,x,_,hx,_,_=>by cases hx
 | z :: l, h, x, y, hx, hy, e => by
  have h':=List.nodup_cons.1 h
  rcases List.mem_cons.1 hx with h1|h1
  ·rcases List.mem_cons.1 hy with h2|h2
   ·rw[h1,h2]
   ·exact absurd (List.mem_map.2 ⟨y,h2,by rw[←e,h1]⟩) h'.1
  ·rcases List.mem_cons.1 hy with h2|h2
   ·exact absurd (List.mem_map.2 ⟨x,h1,by rw[e,h2]⟩) h'.1
   ·exact map_inj g h'.2 h1 h2 e
theorem H.next{es:List (κ×Value×Nat)}{seen:List κ}{A1 A2:List HP}{A':κ→List HP}(hw:want? l L gd=true)
  (hx:ev? L x=some (.pointer (some ⟨r,0,none⟩))) (hm:At A (mpS b enc es clock) A1 (mpS b enc es clock)) (hi:At A (itr r b es clock seen) A2 (itr r b es clock seen)) (hA:∀k,At A (itr r b es clock seen) (A' k) (itr r b es clock (k::seen))) (hd:Nat.ble (d+1) n=true)
  (kend:(∀e∈es,e.1∈seen)→H P base n ((d,.tuple #[.bool false])::L) f A (.ops l rest q))
  (kk:∀e∈es,e.1∉seen→H P base n ((d,.tuple #[.bool true,enc e.1,e.2.1])::L) f (A' e.1) (.ops l rest q)):H P base n L f A (.ops l (⟨some d,.next x false,ty,pos,af,gd⟩::rest) q):=
 H.opE (ι:=Option (κ×Value×Nat)) (fun i=>match i with|none=>.tuple #[.bool false]|some e=>.tuple #[.bool true,enc e.1,e.2.1]) (fun _=>f) (fun i=>match i with|none=>A|some e=>A' e.1)
  (fun i=>match i with|none=>∀e∈es,e.1∈seen|some e=>e∈es∧e.1∉seen) hw hd (fun a w hfr s=>by
  obtain⟨ho,hb⟩:=s.mpS_at hm
  obtain⟨sA,a1,a2,hr⟩:=s.itr_at hi
  rcases run_next_itr (P:=P) (ty:=ty) ho hb hr with⟨b1,b2⟩|⟨e,he,hc,w1,q1,q2,q3,q4,b2⟩
  ·refine⟨none,w,fun e he=>(a1 e he).1 (b1 e he),?_,s⟩
   simp only[execOp,hfr.eval hx,Sem.run_bind,b2,Result.andThen_ok,Sem.run_pure]
  ·refine⟨some e,{w1 with heap:=w1.heap.setIfInBounds r (.mapIter (some b) clock (sA.push e.2.2) clock)},⟨he,fun hin=>by rw[(a1 e he).2 hin]at hc;cases hc⟩,?_,?_⟩
   ·simp only[execOp,hfr.eval hx,Sem.run_bind,b2,Result.andThen_ok,Sem.run_pure]
   ·refine s.turnRow (hA e.1) (fun m hm=>by obtain⟨_,_,_,rfl⟩:=hm;exact⟨_,rfl⟩) q2 q4 q3 (by show w1.heap.setIfInBounds _ _=_;rw[q1]) ⟨sA.push e.2.2,fun e' he'=>?_,fun k rs hk=>?_,rfl⟩
    ·rw[contains_push,Bool.or_eq_true,a1 e' he',beq_iff_eq,List.mem_cons]
     constructor
     ·rintro(h|h)
      ·exact .inr h
      ·exact .inl (by rw[map_inj (fun e:κ×Value×Nat=>e.2.2) ho.stamps he' he h])
     ·rintro(h|h)
      ·exact .inr (by rw[map_inj (fun e:κ×Value×Nat=>e.1) ho.keys he' he h])
      ·exact .inl h
    ·cases hk
     exact⟨e,he,rfl,by simp⟩) (fun i hi=>match i,hi with|none,hi=>kend hi|some e,hi=>kk e hi.1 hi.2)
theorem H.entry{x:Operand}{r b:Nat}{es:List (κ×Value×Nat)}{clock:Nat}{seen:List κ}{e:κ×Value×Nat}{A1 A2:List HP}(hw:want? l L gd=true)
  (hx:ev? L x=some (.pointer (some ⟨r,0,none⟩))) (hm:At A (mpS b enc es clock) A1 (mpS b enc es clock)) (hi:At A (itr r b es clock (e.1::seen)) A2 (itr r b es clock (e.1::seen))) (he:e∈es) (hd:Nat.ble (d+1) n=true)
  (kk:H P base n ((d,.tuple #[enc e.1,e.2.1])::L) f A (.ops l rest q)):H P base n L f A (.ops l (⟨some d,.entry x,ty,pos,af,gd⟩::rest) q):=
 H.opV hw hd (fun a w hfr s=>by
  obtain⟨ho,hb⟩:=s.mpS_at hm
  obtain⟨sA,a1,a2,hr⟩:=s.itr_at hi
  obtain⟨e',he',hk,hbk⟩:=a2 _ _ rfl
  have hee:=map_inj (fun e:κ×Value×Nat=>e.1) ho.keys he' he hk
  subst hee
  have hf:(es.map (entOf enc)).toArray.find? (fun x=>x.born == e'.2.2)=some (entOf enc e'):=by
   rw[←Array.find?_toList]
   exact find_born (entOf enc e') (es.map (entOf enc)) (by rw[List.map_map];exact ho.stamps) (List.mem_map.2 ⟨e',he',rfl⟩)
  have h:(Instr.entry (.pointer (some ⟨r,0,none⟩))).run P w= .ok (.tuple #[enc e'.1,e'.2.1]) w:=by
   simp only[Instr.entry,getObj,Sem.run_bind,Sem.run,hr,hb,Result.andThen,hbk,bne_self_eq_false,Bool.false_eq_true,if_false,hf]
   rfl
  simp only[execOp,hfr.eval hx,Sem.run_bind,h,Result.andThen_ok,Sem.run_pure]) kk
theorem H.indexV{e:TypeId}{m i:Nat}{y:Operand}{xs:List Value}{ik:IntKind}{z:Int}{v:Value}{de:TypeDesc}[hu:Und P t (.array m e)][he:Und P e de][hs:Siz P e 1](hw:want? l L gd=true)
  (hx:ev? L x=some (.agg xs.toArray)) (hy:ev? L y=some (.int ik z)) (hq:z=(i:Nat)) (hi:i<m) (ha:aggD de=false) (hv:xs[i]? =some v) (hd:Nat.ble (d+1) n=true)
  (k:H P base n ((d,v)::L) f A (.ops l rest q)):H P base n L f A (.ops l (⟨some d,.index t x y,ty,pos,af,gd⟩::rest) q):=
 H.opV hw hd (fun a w hf _=>by
  subst hq
  have h1:=hu.run w
  have h2:=hs.run w
  have h3:=run_isAgg he w
  have hi2:(0:Int)≤(i:Int)∧(i:Int)<(m:Int):=⟨by omega,by omega⟩
  simp only[execOp,hf.eval hx,hf.eval hy,Instr.index,asIntOf,Sem.run_bind,Sem.run_pure,Result.andThen_ok,h1,hi2,if_true,h2,part,h3,ha,Bool.false_eq_true,if_false,and_self]
  simp[hv,Sem.run_pure]) k
theorem H.cutB{c:Code}{id:Nat}{ι:Type}(St:ι→Env)(Sf:ι→Frag)(SA:ι→List HP)(Φ:ι→Prop)(y:Code)
  (rest:∀i,Φ i→H P base n (St i) (Sf i) (SA i) (.code y q))
  (h:H P base n L f A (.code c (.block id (.loop (fun a w=>∃j,Φ j∧Fr n a (St j)∧Sat base w (Sf j) (SA j)) q)))):H P base n L f A (.code c (.block id (.seq y q))):=.mk fun a w hf s=>
 wp_mono (h.out a w hf s) fun e a w he=>by
  have key:Exit.then (fun a w=>∃j,Φ j∧Fr n a (St j)∧Sat base w (Sf j) (SA j)) (q.den P) .normal a w→Exit.then (y.wp P (q.den P)) (q.den P) .normal a w:=fun⟨j,hj,hf,s⟩=>(rest j hj).out a w hf s
  cases e with
  |normal=>exact key he
  | exit id' =>
   show Exit.inBlock id (Exit.then (y.wp P (q.den P)) (q.den P)) (.exit id') a w
   have he:Exit.inBlock id (Exit.then (fun a w=>∃j,Φ j∧Fr n a (St j)∧Sat base w (Sf j) (SA j)) (q.den P)) (.exit id') a w:=he
   unfold Exit.inBlock at he⊢
   simp only at he⊢
   split
   ·rename_i hid
    rw[if_pos hid]at he
    exact key he
   ·rename_i hid
    rw[if_neg hid]at he
    exact he
  |goto l=>exact he
  |ret=>exact he
  |panic ch=>exact he
  |outgrown=>exact he
end loops
theorem and31:∀n:Fin 32,0<n.val→bitsI .and .u64 (18446744073709551616-(n.val:Int)) 31=some (((32-n.val:Nat):Nat):Int):=by decide+kernel
theorem neg64:∀n:Fin 32,0<n.val→IntKind.u64.wrap (-(n.val:Int))=18446744073709551616-(n.val:Int):=by decide+kernel
theorem slP_ne{o lv mv sz:Nat}(h:mv≠lv):slP (some ⟨b,o,none⟩) lv mv sz=some ⟨b,o+lv*sz,none⟩:=by
 unfold slP;rw[if_neg h];show some ((⟨b,o,none⟩:Addr).add (lv*sz))=_;rw[zaz]
def accW(bs:List UInt8)(i:Nat):Nat→UInt32
 |0=>0
 |k+1=>accW bs i k <<< (UInt32.ofNat 8) ||| (bs.getD (4*i+k) 0).toUInt32
theorem shl8_or(a b:UInt32):(a ||| b) <<< (UInt32.ofNat 8)=a <<< (UInt32.ofNat 8) ||| b <<< (UInt32.ofNat 8):=by
 apply UInt32.toBitVec_inj.1;simp only[UInt32.toBitVec_shiftLeft,UInt32.toBitVec_or];exact BitVec.shiftLeft_or_distrib _ _ _
theorem shl8_shl(a:UInt32)(n:Nat)(h:n+8<32):a <<< (UInt32.ofNat n) <<< (UInt32.ofNat 8)=a <<< (UInt32.ofNat (n+8)):=by
 apply UInt32.toBitVec_inj.1;simp only[UInt32.toBitVec_shiftLeft]
 have e:∀k,k<32→((UInt32.ofNat k).toBitVec % 32).toNat=k:=fun k hk=>by
  simp[UInt32.toBitVec_ofNat',BitVec.toNat_umod,BitVec.toNat_ofNat];omega
 show a.toBitVec <<< ((UInt32.ofNat n).toBitVec % 32).toNat <<< ((UInt32.ofNat 8).toBitVec % 32).toNat=a.toBitVec <<< ((UInt32.ofNat (n+8)).toBitVec % 32).toNat;rw[e n jA,e 8 jC,e (n+8) h];exact(BitVec.shiftLeft_add _ _ _).symm
theorem accW_word(bs:List UInt8)(i:Nat):accW bs i 4=Sha.word bs i:=by
 unfold Sha.word;simp only[accW,Nat.add_zero];have z:(0:UInt32) <<< (UInt32.ofNat 8)=0:=jC
 have z2:∀x:UInt32,0 ||| x=x:=fun x=>by apply UInt32.toBitVec_inj.1;simp
 rw[z,z2];generalize(bs.getD (4*i) 0).toUInt32=x0;generalize(bs.getD (4*i+1) 0).toUInt32=x1;generalize(bs.getD (4*i+2) 0).toUInt32=x2;have e3:x0 <<< (UInt32.ofNat 8) <<< (UInt32.ofNat 8) <<< (UInt32.ofNat 8)=x0 <<< (UInt32.ofNat 24):=by rw[shl8_shl x0 8 jC];exact shl8_shl x0 16 jC
 have e2:x1 <<< (UInt32.ofNat 8) <<< (UInt32.ofNat 8)=x1 <<< (UInt32.ofNat 16):=shl8_shl x1 8 jC;rw[shl8_or,shl8_or,shl8_or,e3,e2]
variable {n:Nat}
section
variable (f:Frag) (F:List HP)
theorem rotL_fn{x:UInt32}(h0:0<n)(hn:n<32):Fn prog 238 [w32 x,.int .i64 (-(n:Int))] f F (Ret (w32 (Sha.rot x n)) f F):=by
 have e1:IntKind.u64.wrap (-(n:Int))=18446744073709551616-(n:Int):=neg64 ⟨n,hn⟩ h0;have e2:bitsI .and .u64 (18446744073709551616-(n:Int)) 31=some ((32-n:Nat):Int):=and31 ⟨n,hn⟩ h0
 have e3:IntKind.u64.wrap (32-((32-n:Nat):Int))=(n:Int):=by rw[wr_u64 jA];omega
 have e4:x <<< (UInt32.ofNat (32-n)) ||| x >>> (UInt32.ofNat n)=Sha.rot x n:=by
  unfold Sha.rot;apply UInt32.toBitVec_inj.1;simp only[UInt32.toBitVec_or];exact BitVec.or_comm _ _
 refine Fn.e2 func238 ntmps238 fun base=>?_;repeat(first|(apply H.Bk;(iterate 2 exact rfl);exact e1;exact rfl)|(refine gh ?_))
 refine H.Bf rfl rfl rfl e2 rfl rfl ?_;repeat(first|(apply H.ar;(iterate 4 exact rfl);exact e3;exact rfl)|(refine gh ?_)|(apply H.Bo;(iterate 3 exact rfl);(first|with_reducible exact u32_shl x (32-n) jA|with_reducible exact u32_shr x n hn);omega;(iterate 2 exact rfl))|(refine H.Bf (op:=.or) rfl rfl rfl (u32_or _ _) rfl rfl ?_))
 exact H.Ae rfl rfl (fun _ h=>h) ⟨by rw[←e4];rfl,rfl,rfl⟩
theorem sturn_fn{x:UInt32}(h0:0<n)(hn:n<32):Fn prog 237 [w32 x,.int .i64 (n:Nat)] f F (Ret (w32 (Sha.rot x n)) f F):=by
 have e1:IntKind.i64.wrap (0-(n:Int))= -(n:Int):=by rw[wr_i64 jA];omega
 refine Fn.e2 func237 ntmps237 fun base=>?_;repeat(first|(refine gh ?_)|(apply H.neg;(iterate 2 exact rfl);exact e1;exact rfl))
 refine H.Af rfl rfl rfl (rotL_fn f _ h0 hn) ?_;refine gT ?_;exact qam
end
variable {S:List UInt32} {bs:List UInt8}
section
variable (f:Frag) (F:List HP)
def wPart(S:List UInt32)(i:Nat)(v:UInt32):List Value:=(wRow S i).set i (w32 v)
theorem wRow_len(hS:S.length=64){i:Nat}(h:i≤64):(wRow S i).length=64:=by
 unfold wRow;rw[List.length_append,List.length_take,List.length_map,List.length_drop,z64_len,hS];omega
theorem wPart_zero(hS:S.length=64){i:Nat}(h:i<64):wPart S i 0=wRow S i:=by
 have h1:(wRow S i)[i]? =some (w32 0):=by
  unfold wRow;exact fill_get2 (Nat.le_refl _) (by rw[List.length_map,hS,z64_len]) (by unfold z64;rw[List.getElem?_replicate,if_pos h])
 unfold wPart;obtain⟨hl,he⟩:=List.getElem?_eq_some_iff.1 h1;rw[←he,List.set_getElem_self]
theorem wPart_set(hS:S.length=64){i:Nat}(h:i<64)(v u:UInt32):SetV (wPart S i v) i (w32 u) (wPart S i u):=by
 have:=SetV.mk (l:=wPart S i v) (i:=i) (w32 u) (by unfold wPart;rw[List.length_set,wRow_len hS jA];exact h);unfold wPart at this⊢
 rwa [List.set_set]at this
theorem wPart_get(hS:S.length=64){i:Nat}(h:i<64)(v:UInt32):(wPart S i v)[i]? =some (w32 v):=by
 unfold wPart;rw[List.getElem?_set_self (by rw[wRow_len hS jA];exact h)]
theorem wPart_full(hS:S.length=64){i:Nat}(h:i<64):wPart S i (S.getD i 0)=wRow S (i+1):=by
 unfold wPart;exact(SetV.eq (wRow_set hS h)).1.symm
theorem swords_fn{nb:Nat}(hb:bs.length=64):Fn prog 236 [.pointer (some ⟨nb,0,none⟩)] f (row nb 186 (bytesV bs)::F) (Ret (.agg ((Sha.sched bs).map w32).toArray) f (row nb 186 (bytesV bs)::F)):=by
 have hlo:∀i,i<16→(Sha.sched bs).getD i 0=accW bs i 4:=fun i h=>by rw[accW_word];exact Sha.sched_lo bs h
 have hhi:∀j,j<48→(Sha.sched bs).getD (j+16) 0=(Sha.sched bs).getD j 0+Sha.s0 ((Sha.sched bs).getD (j+1) 0)+(Sha.sched bs).getD (j+9) 0+Sha.s1 ((Sha.sched bs).getD (j+14) 0):=fun j h=>Sha.sched_hi bs h;have hS:=Sha.sched_len bs
 generalize Sha.sched bs=S at hlo hhi hS⊢;refine Fn.e1 func236 ntmps236 fun base=>?_;refine gA ?_;refine H.Aj (ls:=wRow S 0) rfl rfl rfl fun wb=>?_;refine gA ?_;refine H.Bw (lo:=none) (mx:=none) (lv:=0) (hv:=16) (mv:=64) rfl rfl rfl ⟨_,_,rfl,rfl⟩ rfl (fun h=>by cases h) jC jC jC rfl ?_;refine gT ?_
 refine H.lo (ι:=Nat) (fun i=>[(11,.int .i64 (i:Int)),(10,.int .i64 ((16:Nat):Int)),(0,.pointer (some ⟨nb,0,none⟩)),(2,.pointer (some ⟨wb,0,none⟩))]) (fun _=>f)
  (fun i=>row wb 235 (wRow S i)::row nb 186 (bytesV bs)::F) (fun i=>i≤16) (fun i=>16-i) 0 (Nat.zero_le _) fun i hi=>?_
 have hi:i≤16:=hi;by_cases hlt:i<16
 ·have e1:IntKind.i64.wrap (4*(i:Int))=((4*i:Nat):Int):=by rw[wr_i64 jA];omega
  have e2:IntKind.i64.wrap (((4*i:Nat):Int)+4)=((4*i+4:Nat):Int):=by rw[wr_i64 jA];omega
  repeat(first|(apply H.ar;(iterate 4 exact rfl);exact e1;exact rfl)|(apply H.ar;(iterate 4 exact rfl);exact e2;exact rfl)|(refine gh ?_))
  refine H.Bw (mx:=none) (lv:=4*i) (hv:=4*i+4) (mv:=64) rfl rfl ⟨_,_,rfl,rfl⟩ ⟨_,_,rfl,rfl⟩ rfl (fun h=>by cases h) jA jA jC rfl ?_;rw[slP_ne jA,show 4*i+4-4*i=4 by omega];refine gT ?_
  refine H.loop (ι:=Nat) (fun k=>[(23,.int .i64 (k:Int)),(22,.int .i64 ((4:Nat):Int)),(21,.slice (some ⟨nb,0+4*i*1,none⟩) 4 (64-4*i)),(3,.int .i64 (i:Int)),(11,.int .i64 (i:Int)),(10,.int .i64 ((16:Nat):Int)),(0,.pointer (some ⟨nb,0,none⟩)),(2,.pointer (some ⟨wb,0,none⟩))]) (fun _=>f)
   (fun k=>row wb 235 (wPart S i (accW bs i k))::row nb 186 (bytesV bs)::F) (fun k=>k≤4) (fun k=>4-k) 0 (Nat.zero_le _) ⟨rfl,rfl,rfl,rfl,rfl,rfl,rfl,rfl,trivial⟩ rfl (by rw[show accW bs i 0=0 from rfl,wPart_zero hS jA]) fun k hk=>?_
  have hk:k≤4:=hk;by_cases hk4:k<4
  ·have rdc:∀A A',At A (row nb 186 (bytesV bs)) A' (row nb 186 (bytesV bs))→Rd1 f A nb (0+4*i*1+k*1) (.int .u8 ((bs.getD (4*i+k) 0).toNat:Nat)):=fun A A' h=>by
    rw[show 0+4*i*1+k*1=0+(4*i+k) by omega];exact Rd1.of (Rd.ofRow h) (zca jA)
   have hset:=wPart_set hS (i:=i) jA (accW bs i k) (accW bs i (k+1));have hget:=wPart_get hS (i:=i) jA (accW bs i k)
   have hacc:accW bs i (k+1)=accW bs i k <<< (UInt32.ofNat 8) ||| (bs.getD (4*i+k) 0).toUInt32:=rfl;rw[hacc]at hset
   show H _ _ _ ((23,.int .i64 (k:Int))::_) _ (row wb _ (wPart S i (accW bs i k))::_) _;obtain⟨v,hv⟩:∃v,accW bs i k=v:=⟨_,rfl⟩;rw[hv]at hset hget hacc⊢;refine gG ?_;refine H.Ak (i:=k) rfl rfl rfl rfl hk4 rfl ?_;skip;refine H.Ad rfl rfl rfl (rdc _ _ jB) rfl ?_;refine gK ?_;refine H.Ao (i:=i) rfl rfl rfl rfl jA rfl ?_;refine H.Ad rfl rfl rfl (.of (Rd.ofRow jB) (by rw[Nat.mul_one];exact hget)) rfl ?_;refine H.Bo (op:=.shl) rfl rfl rfl (u32_shl8 _) jC rfl rfl ?_;repeat(first|(refine H.Bk rfl rfl (u32_ofByte _) rfl ?_)|(refine gh ?_))
   refine H.Bf (op:=.or) rfl rfl rfl (u32_or _ _) rfl rfl ?_;refine H.Ao (i:=i) rfl rfl rfl rfl jA rfl ?_;refine H.Bb (v:=w32 _) (ls':=wPart S i (v <<< (UInt32.ofNat 8) ||| (bs.getD (4*i+k) 0).toUInt32)) rfl rfl rfl rfl jB jQ ?_;refine gV ?_;exact H.Av (k+1) (by show k+1≤4;omega) (by show 4-(k+1)<4-k;omega) ⟨rfl,rfl,rfl,rfl,rfl,rfl,rfl,rfl,trivial⟩ rfl (by show _=row wb _ (wPart S i (accW bs i (k+1)))::_;rw[hacc])
  ·have hk44:k=4:=jA
   subst hk44;refine gO ?_;exact H.Av (i+1) (by show i+1≤16;omega) (by show 16-(i+1)<16-i;omega) ⟨rfl,rfl,rfl,rfl,trivial⟩ rfl (by rw[←hlo i hlt,wPart_full hS jA])
 ·have hi16:i=16:=jA
  subst hi16;refine gY ?_
  refine H.lo (ι:=Nat) (fun j=>[(6,.int .i64 ((j+16:Nat):Int)),(2,.pointer (some ⟨wb,0,none⟩))]) (fun _=>f)
   (fun j=>row wb 235 (wRow S (j+16))::row nb 186 (bytesV bs)::F) (fun j=>j≤48) (fun j=>48-j) 0 (Nat.zero_le _) fun j hj=>?_
  have hj:j≤48:=hj;by_cases hlt:j<48
  ·have hw:=hhi j hlt;have hset:=wRow_set hS (n:=j+16) jA
   rw[hw]at hset;have hg:∀k,k<j+16→(wRow S (j+16))[k*1]? =some (w32 (S.getD k 0)):=fun k hk=>by rw[Nat.mul_one];exact wRow_get hS hk jA
   refine gG ?_;refine H.dq ?_;repeat(first|(apply HQ.Ao (i:=j+1);(iterate 3 exact rfl);omega;omega;exact rfl)|(apply HQ.Ao (i:=j+14);(iterate 3 exact rfl);omega;omega;exact rfl)|(apply HQ.Ad;(iterate 3 exact rfl);exact .of (Rd.ofRow jB) (hg _ jA);exact rfl)|(refine gi ?_))
   refine gA ?_;refine H.dc [0,1,2,3,4,5,6,7,8,9,10,11,12,13,14,15,16,17,18,19,20,21,22,23,24,25,26,27,28] (S:=[_]) rfl ?_;refine HB.qu [0,1,2,3,4,5,7,10,11,14,15,16,17,19,21,24,25] 13 ?_;repeat(first|(apply HQ.Ao (i:=j);(iterate 3 exact rfl);omega;omega;exact rfl)|(apply HQ.Ao (i:=j+9);(iterate 3 exact rfl);omega;omega;exact rfl)|(apply HQ.Ad;(iterate 3 exact rfl);exact .of (Rd.ofRow jB) (hg _ jA);exact rfl)|(refine gi ?_)|(apply HQ.Bo;(iterate 3 exact rfl);(first|with_reducible exact u32_shr3 _|with_reducible exact u32_shr10 _);decide;(iterate 2 exact rfl)))
   refine qiI ?_;refine H.Af rfl rfl rfl (sturn_fn f _ (n:=7) jC jC) ?_;refine qed ?_;refine HB.ev 8 ?_;refine H.Af rfl rfl rfl (sturn_fn f _ (n:=18) jC jC) ?_;refine qed ?_;refine HB.qu [9,12,13,18] 7 ?_;refine qfg ?_;refine qel ?_;refine HB.ev 20 ?_;refine H.Af rfl rfl rfl (sturn_fn f _ (n:=17) jC jC) ?_;refine qed ?_;refine HB.ev 22 ?_;refine H.Af rfl rfl rfl (sturn_fn f _ (n:=19) jC jC) ?_;refine qed ?_;refine HB.qu [23,26,27,28] 1 ?_;repeat(first|(refine gi ?_)|(apply HQ.Bf;(iterate 3 exact rfl);(with_reducible exact zbp _ _);(iterate 2 exact rfl))|(apply HQ.Ao (i:=j+16);(iterate 3 exact rfl);exact rfl;omega;exact rfl))
   refine qeC ?_;refine HB.ev 29 ?_;refine qhQ ?_;exact H.Av (j+1) (by show j+1≤48;omega) (by show 48-(j+1)<48-j;omega) ⟨by show some _=some (Value.int .i64 ((j+1+16:Nat):Int));rw[show j+1+16=j+16+1 by omega],rfl,trivial⟩ rfl ja
  ·have hj48:j=48:=jA
   subst hj48
   have hfull:wRow S (48+16)=S.map w32:=by
    unfold wRow;rw[show 48+16=(S.map w32).length by rw[List.length_map,hS],List.take_length,List.length_map,hS];show S.map w32++z64.drop 64=_;rw[List.drop_eq_nil_of_le (by rw[z64_len];exact Nat.le_refl _),List.append_nil]
   show H _ _ _ _ _ (row wb _ (wRow S (48+16))::_) _;rw[hfull];have hl:(S.map w32).length=64:=by rw[List.length_map,hS]
   refine gY ?_;refine H.Ab (ls:=S.map w32) rfl rfl rfl (Rd.ofRow jB) hl rfl ?_;refine H.Ag (ls:=S.map w32) (vs:=S.map w32) (ls':=S.map w32) rfl rfl rfl (fun v hv=>by obtain⟨x,_,rfl⟩:=List.mem_map.1 hv;rfl) hl (by unfold splice;rw[List.take_zero,List.nil_append,Nat.zero_add,List.drop_length,List.append_nil]) jA jB ?_;refine gT ?_;exact H.Ax rfl rfl rfl (Rd.ofRow jB) hl (fun _ s=>s.drop (.here _ _)) ⟨rfl,rfl,rfl⟩
end
def TabAt(f:Frag):Prop:=IntsAt f 0 .u32 (Sha.k.map fun x=>((x.toNat:Nat):Int))
theorem tab_rd{f:Frag}(h:TabAt f){A:List HP}{i:Nat}(hi:i<64):Rd1 f A 0 (0+i*1) (w32 (Sha.k.getD i 0)):=by
 have e:(Sha.k.map fun x=>((x.toNat:Nat):Int))[i]? =some (((Sha.k.getD i 0).toNat:Nat):Int):=by
  have hl:i<Sha.k.length:=hi;rw[List.getElem?_map,List.getElem?_eq_getElem hl,List.getD_eq_getElem?_getD,List.getElem?_eq_getElem hl]
  rfl
 rw[show 0+i*1=i by omega];exact h.rd e
theorem S8.comm(v s:Sha.S8){i:Nat}(h:i<8):(v.add s).get i=s.get i+v.get i:=by
 rw[Sha.S8.add_get v s h];apply UInt32.toBitVec_inj.1;simp only[UInt32.toBitVec_add];exact BitVec.add_comm _ _
def addRow2(v s:Sha.S8)(n:Nat):List Value:=(v.add s).vals.take n++s.vals.drop n
theorem addRow2_set(v s:Sha.S8){i:Nat}(h:i<8):SetV (addRow2 v s i) i (w32 (s.get i+v.get i)) (addRow2 v s (i+1)):=by
 rw[←S8.comm v s h];exact fill_set (Sha.S8.get_vals _ h) rfl
theorem addRow2_get(v s:Sha.S8){i:Nat}(h:i<8):(addRow2 v s i)[i]? =some (w32 (s.get i)):=fill_get2 (Nat.le_refl _) rfl (Sha.S8.get_vals s h)
section
variable (f:Frag) (F:List HP)
theorem sblock_fn(htab:TabAt f){s:Sha.S8}(hb:bs.length=64):Fn prog 235 [.agg s.vals.toArray,.agg (bytesV bs).toArray] f F (Ret (.agg (Sha.block s bs).vals.toArray) f F):=by
 have hbl:(bytesV bs).length=64:=by rw[zac,hb]
 have hwords:=fun nb G=>swords_fn f G (nb:=nb) hb;have hS:=Sha.sched_len bs
 unfold Sha.block;generalize Sha.sched bs=S at hwords hS⊢;have hgS:∀k,k<64→(S.map w32)[k]? =some (w32 (S.getD k 0)):=fun k hk=>map_get w32 jA 0;refine Fn.e2 func235 ntmps235 fun base=>?_
 refine gA ?_;refine H.box (ls:=s.vals) rfl rfl rfl rfl fun sb=>?_;refine H.box (ls:=bytesV bs) rfl rfl rfl rfl fun nb=>?_;refine qil fun ob=>?_;refine gA ?_;refine H.dq ?_;repeat(first|(refine gi ?_)|(apply HQ.index_arrT;(iterate 3 exact rfl);decide;exact rfl))
 refine gA ?_;refine qjX ?_;refine H.Af rfl rfl rfl (hwords nb _) ?_;refine gT ?_
 refine H.lo (ι:=Nat) (fun i=>[(36,.int .i64 (i:Int)),(35,.agg (S.map w32).toArray),(5,w32 (Sha.rounds S s i).a),(6,w32 (Sha.rounds S s i).b),(7,w32 (Sha.rounds S s i).c),(8,w32 (Sha.rounds S s i).d),(9,w32 (Sha.rounds S s i).e),(10,w32 (Sha.rounds S s i).f),(11,w32 (Sha.rounds S s i).g),(12,w32 (Sha.rounds S s i).h),(2,.pointer (some ⟨sb,0,none⟩)),(4,.pointer (some ⟨ob,0,none⟩))]) (fun _=>f)
  (fun _=>row nb 186 (bytesV bs)::row ob 184 (List.replicate 8 (.int .u32 0))::row sb 184 s.vals::F) (fun i=>i≤64) (fun i=>64-i) 0 (Nat.zero_le _) fun i hi=>?_
 have hi:i≤64:=hi;by_cases hlt:i<64
 ·have hr:Sha.rounds S s (i+1)=Sha.round (Sha.k.getD i 0) (S.getD i 0) (Sha.rounds S s i):=rfl;have hgs:=hgS i hlt
  have hgk:=fun A=>tab_rd htab (A:=A) hlt;generalize Sha.k.getD i 0=kk at hr hgk
  generalize S.getD i 0=ww at hr hgs;generalize S.map w32=SL at hgs hwords⊢;show H _ _ _ [_,_,(5,w32 (Sha.rounds S s i).a),(6,w32 (Sha.rounds S s i).b),(7,w32 (Sha.rounds S s i).c),(8,w32 (Sha.rounds S s i).d),(9,w32 (Sha.rounds S s i).e),(10,w32 (Sha.rounds S s i).f),(11,w32 (Sha.rounds S s i).g),(12,w32 (Sha.rounds S s i).h),_,_] _ _ _;generalize Sha.rounds S s i=v at hr⊢;repeat(first|(refine gh ?_)|(apply H.indexV (i:=i);(iterate 4 exact rfl);exact hlt;exact rfl;exact hgs;exact rfl))
  refine H.db (S:=[]) rfl ?_;refine HB.qu [0,1,3,6,10,11,12,13,14,15,16,17,19,20,21,23] 10 ?_;repeat(first|(apply HQ.Ao (i:=i);(iterate 3 exact rfl);exact rfl;exact hlt;exact rfl)|(apply HQ.Ad;(iterate 3 exact rfl);exact hgk _;exact rfl)|(refine gi ?_)|(apply HQ.Bf;(iterate 3 exact rfl);(first|with_reducible exact zbp _ _|with_reducible exact u32_and _ _);(iterate 2 exact rfl))|(apply HQ.flip;(iterate 2 exact rfl);exact u32_not _;(iterate 2 exact rfl)))
  refine qel ?_;refine HB.ev 2 ?_;refine H.Af rfl rfl rfl (sturn_fn f _ (n:=6) jC jC) ?_;refine qed ?_;refine HB.ev 4 ?_;refine H.Af rfl rfl rfl (sturn_fn f _ (n:=11) jC jC) ?_;refine qed ?_;refine HB.qu [5] 7 ?_;refine qhp ?_;refine HB.ev 7 ?_;refine H.Af rfl rfl rfl (sturn_fn f _ (n:=25) jC jC) ?_;refine qed ?_;refine HB.qu [8,9,18,22,24,25] 0 ?_;refine qfg ?_;refine qew ?_;refine gK ?_;refine H.Af rfl rfl rfl (sturn_fn f _ (n:=2) jC jC) ?_;refine gK ?_;refine H.Af rfl rfl rfl (sturn_fn f _ (n:=13) jC jC) ?_;refine qjm ?_;refine gK ?_;refine H.Af rfl rfl rfl (sturn_fn f _ (n:=22) jC jC) ?_;refine qjm ?_;refine qjv ?_;refine qjv ?_;refine qjm ?_;refine qjv ?_;refine qjm ?_;refine gV ?_;exact H.Av (i+1) ju jf ⟨rfl,rfl,by rw[hr];rfl,by rw[hr];rfl,by rw[hr];rfl,by rw[hr];rfl,by rw[hr];rfl,by rw[hr];rfl,by rw[hr];rfl,by rw[hr];rfl,rfl,rfl,trivial⟩ rfl rfl
 ·have hi64:i=64:=jA
  subst hi64;show H _ _ _ [_,_,(5,w32 (Sha.rounds S s 64).a),(6,w32 (Sha.rounds S s 64).b),(7,w32 (Sha.rounds S s 64).c),(8,w32 (Sha.rounds S s 64).d),(9,w32 (Sha.rounds S s 64).e),(10,w32 (Sha.rounds S s 64).f),(11,w32 (Sha.rounds S s 64).g),(12,w32 (Sha.rounds S s 64).h),_,_] _ _ _;generalize Sha.rounds S s 64=v;refine gY ?_;refine H.buildA (out:=v.vals) rfl rfl rfl rfl rfl ?_;refine gT ?_;refine H.pd (x:=row nb _ _) ?_;refine H.pf (x:=row sb _ _) ?_
  refine H.lo (ι:=Nat) (fun i=>[(107,.int .i64 (i:Int)),(106,.agg v.vals.toArray),(2,.pointer (some ⟨sb,0,none⟩)),(4,.pointer (some ⟨ob,0,none⟩))]) (fun _=>f)
   (fun i=>row sb 184 (addRow2 v s i)::row ob 184 (List.replicate 8 (.int .u32 0))::F) (fun i=>i≤8) (fun i=>8-i) 0 (Nat.zero_le _) fun i hi=>?_
  have hi:i≤8:=hi;by_cases hlt:i<8
  ·have hset:=addRow2_set v s hlt;have hg:=addRow2_get v s hlt
   have hg2:=Sha.S8.get_vals v hlt;show H _ _ _ _ _ (row sb _ (addRow2 v s i)::_) _
   repeat(first|(refine gh ?_)|(apply H.indexV (i:=i);(iterate 4 exact rfl);exact hlt;exact rfl;exact hg2;exact rfl))
   refine qku ?_;refine H.Ad rfl rfl rfl (.of (Rd.ofRow jB) (by rw[Nat.mul_one];exact hg)) rfl ?_;refine gV ?_;refine qku ?_;refine H.Bb (v:=w32 _) (ls':=addRow2 v s (i+1)) rfl rfl rfl rfl jB jQ ?_;refine gV ?_;exact qcc
  ·have hi8:i=8:=jA
   subst hi8;refine qgo ?_;refine H.pd (x:=row sb _ _) ?_;exact qaf
end
def b32(t:Nat→UInt8):List Value:=[.int .u8 (t 0).toNat,.int .u8 (t 1).toNat,.int .u8 (t 2).toNat,.int .u8 (t 3).toNat,.int .u8 (t 4).toNat,.int .u8 (t 5).toNat,.int .u8 (t 6).toNat,.int .u8 (t 7).toNat,.int .u8 (t 8).toNat,.int .u8 (t 9).toNat,.int .u8 (t 10).toNat,.int .u8 (t 11).toNat,.int .u8 (t 12).toNat,.int .u8 (t 13).toNat,.int .u8 (t 14).toNat,.int .u8 (t 15).toNat,.int .u8 (t 16).toNat,.int .u8 (t 17).toNat,.int .u8 (t 18).toNat,.int .u8 (t 19).toNat,.int .u8 (t 20).toNat,.int .u8 (t 21).toNat,.int .u8 (t 22).toNat,.int .u8 (t 23).toNat,.int .u8 (t 24).toNat,.int .u8 (t 25).toNat,.int .u8 (t 26).toNat,.int .u8 (t 27).toNat,.int .u8 (t 28).toNat,.int .u8 (t 29).toNat,.int .u8 (t 30).toNat,.int .u8 (t 31).toNat]
def v11(d:Nat→Int):List Value:=[.int .u64 (d 0),.int .u64 (d 1),.int .u64 (d 2),.int .u64 (d 3),.int .u64 (d 4),.int .u64 (d 5),.int .u64 (d 6),.int .u64 (d 7),.int .u64 (d 8),.int .u64 (d 9),.int .u64 (d 10)]
structure Req where
 client:Int
 time:Int
 kind:UInt8
 key:ByteArray
 val:ByteArray
 old:ByteArray
 to:ByteArray
 amount:Int
 tag:Nat→UInt8
def Req.vals(r:Req):List Value:=[.int .i64 r.client,.int .u64 r.time,.int .u8 (r.kind.toNat:Nat),.string r.key,.string r.val,.string r.old,.string r.to,.int .u64 r.amount]++b32 r.tag
def Req.zero:Req:=⟨0,0,0,.empty,.empty,.empty,.empty,0,fun _=>0⟩
structure Bod where
 kind:UInt8
 view:Int
 k:Int
 req:Req
 q:List (Int×Int)
 dig:Nat→UInt8
def Bod.vals(x:Bod)(p:Option Addr)(c:Nat):List Value:=[.int .u8 (x.kind.toNat:Nat),.int .u64 x.view,.int .u64 x.k]++x.req.vals++ [.slice p x.q.length c]++b32 x.dig
structure Msg where
 origin:Int
 number:Int
 deps:Nat→Int
 body:Bod
 tag:Nat→UInt8
def Msg.vals(m:Msg)(p:Option Addr)(c:Nat):List Value:=[.int .i64 m.origin,.int .u64 m.number]++v11 m.deps++m.body.vals p c++b32 m.tag
def pairV(p:Int×Int):List Value:=[.int .i64 p.1,.int .u64 p.2]
def QAt(f:Frag)(p:Option Addr)(q:List (Int×Int)):Prop:=∀i x,q[i]? =some x→∃b off cs T fr,p=some ⟨b,off,none⟩∧f b=some (.cells cs T fr)∧∀j,j<(pairV x).length→cs[off+i*2+j]? =(pairV x)[j]?
theorem QAt.nil(f:Frag)(p:Option Addr):QAt f p []:=fun i x h=>by simp at h
variable {p:Option Addr} {c:Nat} {l:List UInt8}
section
variable (f:Frag) (A:List HP) (x:Bod) (q:Option Addr) (qc:Nat)
theorem view1_fn(hs:Src prog f A (.slice p l.length c) 1 l.length (bytesV l))(hn:p=none→l= [])(hl:l.length≤10000000000):
  Fn prog 211 [.slice p l.length c,.agg (x.vals q qc).toArray] f A (BytesR (l++be 8 x.view) f A):=by
 refine Fn.e2 func211 ntmps211 fun base=>?_;refine qeR fun xb=>?_;refine gF ?_;refine H.Al rfl rfl rfl (zcf f _ hs.cons hn hl) fun p1 c1=>?_;refine gT ?_;refine qjF ?_;exact H.r1 ⟨p1,c1,rfl,rfl,rfl⟩
theorem view3_fn:Fn prog 213 [.agg (x.vals q qc).toArray] f A (Ret (.bool (decide (1≤x.view))) f A):=by
 refine Fn.e1 func213 ntmps213 fun base=>?_;refine qeR fun xb=>?_;refine gN ?_;exact qaK
theorem k_fn:Fn prog 171 [.agg (x.vals q qc).toArray] f A (Ret (.bool (decide (1≤x.k∧x.k≤4611686018427387904))) f A):=by
 by_cases h1:1≤x.k
 ·refine Fn.e1 func171 ntmps171 fun base=>?_;refine qeR fun xb=>?_;refine gJ ?_;exact qdl
 ·refine Fn.e1 func171 ntmps171 fun base=>?_;refine qeR fun xb=>?_;refine gU ?_;exact qdl
def Req.asked(r:Req):Prop:=1≤r.client∧r.client≤8∧1≤r.time∧r.time≤4611686018427387904∧(r.key.size≤32∧r.to.size≤32)∧(r.val.size≤128∧r.old.size≤128)
instance (r:Req):Decidable r.asked:=by unfold Req.asked;infer_instance
theorem asked_fn(r:Req):Fn prog 168 [.agg r.vals.toArray] f A (Ret (.bool (decide r.asked)) f A):=by
 by_cases h1:1≤r.client
 ·skip;by_cases h2:r.client≤8
  ·skip;by_cases h3:1≤r.time
   ·skip;by_cases h4:r.time≤4611686018427387904
    ·skip;by_cases h5:r.key.size≤32∧r.to.size≤32
     ·skip;by_cases h6:r.val.size≤128∧r.old.size≤128
      ·skip;refine qhJ fun base=>?_;refine qeL fun xb=>?_;refine qfS ?_;exact H.Ae rfl rfl (fun _ h=>h) ⟨by rw[decide_eq_true (show r.asked from⟨h1,h2,h3,h4,h5,h6⟩),decide_eq_true kM],rfl,rfl⟩
      ·skip;refine qhJ fun base=>?_;refine qeL fun xb=>?_;refine qfS ?_;exact H.Ae rfl rfl (fun _ h=>h) ⟨by rw[decide_eq_false (show¬r.asked from fun h=>h6 h.2.2.2.2.2),decide_eq_false kM],rfl,rfl⟩
     ·skip;refine qhJ fun base=>?_;refine qeL fun xb=>?_;refine qjC ?_;refine gg ?_;refine qeJ ?_;exact H.Ae rfl rfl (fun _ h=>h) ⟨by rw[decide_eq_false (fun h=>h5 h.2.2.2.2.1)],rfl,rfl⟩
    ·skip;refine qhJ fun base=>?_;refine qeL fun xb=>?_;refine gg ?_;refine qeJ ?_;exact H.Ae rfl rfl (fun _ h=>h) ⟨by rw[decide_eq_false (fun h=>h4 h.2.2.2.1)],rfl,rfl⟩
   ·skip;refine qhJ fun base=>?_;refine qeL fun xb=>?_;refine gg ?_;refine qeJ ?_;exact H.Ae rfl rfl (fun _ h=>h) ⟨by rw[decide_eq_false (fun h=>h3 h.2.2.1)],rfl,rfl⟩
  ·skip;refine qhJ fun base=>?_;refine qeL fun xb=>?_;refine gg ?_;refine qeJ ?_;exact H.Ae rfl rfl (fun _ h=>h) ⟨by rw[decide_eq_false (fun h=>h2 h.2.1)],rfl,rfl⟩
 ·skip;refine qhJ fun base=>?_;refine qeL fun xb=>?_;refine gU ?_;refine qeJ ?_;exact H.Ae rfl rfl (fun _ h=>h) ⟨by rw[decide_eq_false (fun h=>h1 h.1)],rfl,rfl⟩
def quo:Int→List (Int×Int)→Bool
 |_,[]=>true
 |was,p::r=>if p.1≤was∨11<p.1∨p.2<1∨65536<p.2 then false else quo p.1 r
theorem quorum_fn{l:List (Int×Int)}(hq:QAt f p l)(hl:l.length≤1000000000000):
  Fn prog 178 [.slice p l.length c] f A (Ret (.bool (quo 0 l&& decide (0<l.length))) f A):=by
 refine Fn.e1 func178 ntmps178 fun base=>?_;refine gT ?_;refine H.lo (ι:=Nat×Int) (fun i=>[(8,.int .i64 (i.1:Int)),(7,.int .i64 (l.length:Nat)),(3,.int .i64 i.2),(0,.slice p l.length c),(6,.slice p l.length c)]) (fun _=>f) (fun _=>A) (fun i=>i.1≤l.length∧quo 0 l=quo i.2 (l.drop i.1)) (fun i=>l.length-i.1) (0,0) ⟨Nat.zero_le _,rfl⟩ fun i hi=>?_;obtain⟨i,w⟩:=i;obtain⟨hi,hw⟩:i≤l.length∧quo 0 l=quo w (l.drop i):=hi;show H _ _ _ [(8,.int .i64 (i:Int)),_,(3,.int .i64 w),_,_] _ _ _;rw[hw];refine gQ ?_;by_cases hlt:i<l.length
 ·have hx:l[i]? =some l[i]:=List.getElem?_eq_getElem hlt;have hd:l.drop i=l[i]::l.drop (i+1):=List.drop_eq_getElem_cons hlt
  generalize l[i]=x at hx hd;obtain⟨b,off,cs,T,fr,rfl,hfb,hcs⟩:=hq i x hx;have rd:∀A,Rd f A b (off+i*2) (pairV x):=fun A=>Rd.imm hfb hcs;clear hcs hfb
  have hquo:quo w (l.drop i)=if x.1≤w∨11<x.1∨x.2<1∨65536<x.2 then false else quo x.1 (l.drop (i+1)):=by rw[hd];rfl
  refine qjy ?_;refine H.Ab (ls:=pairV x) rfl rfl rfl (rd _) rfl rfl ?_;refine H.Aj rfl rfl rfl fun xb=>?_;refine H.Ag (ls:=[.int .i64 0,.int .u64 0]) (vs:=pairV x) (ls':=pairV x) rfl rfl rfl (zaa rfl) rfl rfl (Nat.le_refl 2) jB ?_;rw[hquo];by_cases h1:x.1≤w
  ·rw[if_pos (.inl h1)];exact qdu
  ·by_cases h2 : 11 < x.1
   ·rw[if_pos (.inr (.inl h2))];exact qdu
   ·by_cases h3 : x.2 < 1
    ·rw[if_pos (.inr (.inr (.inl h3)))];exact qdu
    ·by_cases h4:65536<x.2
     ·rw[if_pos (.inr (.inr (.inr h4)))];clear hquo hw;refine gU ?_;exact qaK
     ·have hno:¬(x.1≤w∨11<x.1∨x.2<1∨65536<x.2):=jA
      rw[if_neg hno];rw[if_neg hno]at hquo;refine gg ?_;refine qeJ ?_;exact H.ag (i+1,x.1) ⟨by show i+1≤l.length;omega,by first|rfl|exact hw.trans hquo⟩ jZ
 ·have:i=l.length:=jA
  subst this;rw[List.drop_length];refine gZ ?_;exact H.Ae rfl rfl (fun _ h=>h) ⟨by simp[quo],rfl,rfl⟩
end
def Req.head(r:Req):List UInt8:=[UInt8.ofNat (r.client % 256).toNat,r.kind]
def Req.bytes(r:Req):List UInt8:=r.head++be 8 r.time++be 8 r.amount++textB r.key++textB r.val++textB r.old++textB r.to
def Req.texts(r:Req):List ByteArray:=[r.key,r.val,r.old,r.to]
theorem u8_wrap(z:Int):IntKind.u8.wrap z=((UInt8.ofNat (z % 256).toNat).toNat:Int):=by
 have h:IntKind.u8.wrap z=z % 256:=by simp[IntKind.wrap,IntKind.signed,IntKind.bits]
 rw[h];have h1:0≤z % 256:=Int.emod_nonneg _ jC;have h2:z % 256<256:=Int.emod_lt_of_pos _ jC
 generalize z % 256=y at h1 h2;exact qcI
section
variable (f:Frag) (A:List HP)
theorem request_fn(r:Req)(ha:r.asked)(hl:l.length≤1000000000):
  Fn prog 163 [.slice p l.length c,.agg r.vals.toArray] f (slc p l.length c 5 1 (bytesV l)::A) (BytesR (l++r.bytes) f A):=by
 refine Fn.e2 func163 ntmps163 fun base=>?_;refine qeL fun xb=>?_;refine gc ?_;rw[u8_wrap];refine qeY fun tb=>?_;refine qij fun p2 c2=>?_;refine gK ?_;refine qeJ ?_;have e0:(l++r.head).length=l.length+2:=by rw[List.length_append];rfl
 have e1:bytesV (l++r.head)=bytesV l++bytesV r.head:=zae _ _;rw[show(2:Nat)=2 from rfl]
 generalize hl1:l++r.head=l1 at e0 e1;show H _ _ _ _ _ (row _ _ _::slc p2 (l.length+2) c2 _ _ (bytesV l++bytesV r.head)::A) _;rw[←e0,←e1];refine H.draw (qt 3 0++qt 3 4++ [(3,true),(7,true)]++qt 1 8) jD jK jF (S:=[_]) rfl ?_;refine gR ?_;refine HQ.event ?_;refine qiy fun b2 hp=>?_;subst hp;refine qiE fun p3 c3=>?_;refine gA ?_;refine qgc ?_;refine H.Ar aP0 kJ fun b3 hp=>?_;subst hp;refine qkB ?_;refine HQ.event ?_;refine H.Al rfl rfl rfl (zcf (l:=l1++be 8 r.time) f _ (Src.slcS at1 jG) (fun h=>by cases h) (by rw[List.length_append,be_len];omega)) fun p4 c4=>?_;refine gA ?_;refine qgc ?_;refine qkB ?_;refine gL ?_;refine gF ?_;refine qeY fun sb=>?_;refine gT ?_
 have hsz:∀(i:Nat) (s:ByteArray),r.texts[i]? =some s→s.size≤128:=by
  obtain⟨_,_,_,_,⟨k1,k2⟩,k3,k4⟩:=ha;intro i s hs
  have:=List.mem_of_getElem? hs;simp only[Req.texts,List.mem_cons,List.not_mem_nil,or_false]at this
  rcases this with rfl|rfl|rfl|rfl<;>omega
 generalize hl2:l1++be 8 r.time++be 8 r.amount=l2;have e2:l2.length=l1.length+16:=by rw[←hl2,List.length_append,List.length_append,be_len,be_len]
 refine H.loop (ι:=Nat×Option Addr×Nat) (fun i=>[(38,.int .i64 (i.1:Int)),(37,.int .i64 4),(36,.slice (some ⟨sb,0,none⟩) 4 4),(0,.slice i.2.1 (l2++(r.texts.take i.1).flatMap textB).length i.2.2)]) (fun _=>f)
  (fun i=>row sb 9 [.string r.key,.string r.val,.string r.old,.string r.to]::row xb 49 r.vals::slc i.2.1 (l2++(r.texts.take i.1).flatMap textB).length i.2.2 5 1 (bytesV (l2++(r.texts.take i.1).flatMap textB))::A)
  (fun i=>i.1≤4∧(l2++(r.texts.take i.1).flatMap textB).length≤l2.length+200*i.1) (fun i=>4-i.1) (0,p4,c4) ?_ ?_ rfl ?_ fun i hi=>?_
 ·exact⟨Nat.zero_le _,by simp⟩
 ·refine⟨rfl,rfl,rfl,?_,trivial⟩;show some (Value.slice p4 l2.length c4)=some (Value.slice p4 (l2++ []).length c4);rw[List.append_nil]
 ·show _=_::_::slc p4 (l2++ []).length c4 _ 1 (bytesV (l2++ []))::A;rw[List.append_nil];rfl
 ·obtain⟨i,p',c'⟩:=i;obtain⟨hi,hlen⟩:i≤4∧(l2++(r.texts.take i).flatMap textB).length≤l2.length+200*i:=hi;show H _ _ _ [(38,.int .i64 (i:Int)),_,_,(0,.slice p' (l2++(r.texts.take i).flatMap textB).length c')] _ (_::_::slc p' (l2++(r.texts.take i).flatMap textB).length c' _ 1 (bytesV (l2++(r.texts.take i).flatMap textB))::A) _;generalize hacc:l2++(r.texts.take i).flatMap textB=acc at hlen;have hpos:l2.length≤acc.length:=by rw[←hacc,List.length_append];omega
  refine gQ ?_;by_cases hlt:i<4
  ·obtain⟨s,hs⟩:∃s,r.texts[i]? =some s:=⟨r.texts[i]'hlt,List.getElem?_eq_getElem hlt⟩
   have hv:([.string r.key,.string r.val,.string r.old,.string r.to]:List Value)[i]? =some (.string s):=by
    have:([.string r.key,.string r.val,.string r.old,.string r.to]:List Value)=r.texts.map Value.string:=rfl;rw[this,List.getElem?_map,hs];rfl
   have hs128:=hsz i s hs
   have e3:l2++(r.texts.take (i+1)).flatMap textB=acc++textB s:=by
    rw[List.take_add_one,hs,←hacc];simp
   refine H.Ar at2 jA fun b' hp=>?_;subst hp;refine gG ?_;refine H.Cd rfl rfl rfl rfl hlt rfl ?_;refine H.Ad rfl rfl rfl (.of (Rd.ofRow jB) hv) rfl ?_;refine gK ?_;refine H.Al rfl rfl rfl (text_fn (l:=acc) f _ (Src.slcS at2 jG) (fun h=>by cases h) jA jA) fun p5 c5=>?_;refine gc ?_;refine H.Ac (.there _ (.there _ (.there _ (.here _ _)))) ?_;refine qfx ?_;refine qfx ?_;have hts:(textB s).length≤200:=by unfold textB;rw[List.length_append,be_len,zbq];omega
   refine H.Av (i+1,p5,c5) ⟨by show i+1≤4;omega,?_⟩ (by show 4-(i+1)<4-i;omega) ⟨rfl,rfl,rfl,?_,trivial⟩ rfl ?_
   ·show(l2++(r.texts.take (i+1)).flatMap textB).length≤l2.length+200*(i+1);rw[e3,List.length_append];omega
   ·show some _=some (Value.slice p5 (l2++(r.texts.take (i+1)).flatMap textB).length c5);rw[e3]
   ·show _=_::_::slc p5 (l2++(r.texts.take (i+1)).flatMap textB).length c5 _ 1 (bytesV (l2++(r.texts.take (i+1)).flatMap textB))::A;rw[e3]
  ·have:i=4:=jA
   subst this;refine gV ?_;refine qjn ?_;have e4:acc=l++r.bytes:=by rw[←hacc,←hl2,←hl1];simp[Req.bytes,Req.texts]
   subst e4;exact qcB
end
section
variable (f:Frag) (A:List HP)
theorem rrequest_fn(r:Req)(ha:r.asked)(hl:l.length≤1000000000):
  Fn prog 34 [.slice p l.length c,.agg r.vals.toArray] f (slc p l.length c 5 1 (bytesV l)::A) (BytesR (l++r.bytes) f A):=by
 refine Fn.e2 func34 ntmps34 fun base=>?_;refine qeL fun xb=>?_;refine gc ?_;rw[u8_wrap];refine qeY fun tb=>?_;refine qij fun p2 c2=>?_;refine gK ?_;refine qeJ ?_;have e0:(l++r.head).length=l.length+2:=by rw[List.length_append];rfl
 have e1:bytesV (l++r.head)=bytesV l++bytesV r.head:=zae _ _;rw[show(2:Nat)=2 from rfl]
 generalize hl1:l++r.head=l1 at e0 e1;show H _ _ _ _ _ (row _ _ _::slc p2 (l.length+2) c2 _ _ (bytesV l++bytesV r.head)::A) _;rw[←e0,←e1];refine H.draw (qt 3 0++qt 3 4++ [(3,true),(7,true)]++qt 1 8) jD jK jF (S:=[_]) rfl ?_;refine gR ?_;refine HQ.event ?_;refine qiy fun b2 hp=>?_;subst hp;refine H.Al rfl rfl rfl (zbu (l:=l1) f _ (Src.slcS at1 jG) jA) fun p3 c3=>?_;refine gA ?_;refine qgc ?_;refine H.Ar aP0 kJ fun b3 hp=>?_;subst hp;refine qkB ?_;refine HQ.event ?_;refine H.Al rfl rfl rfl (zbu (l:=l1++be 8 r.time) f _ (Src.slcS at1 jG) (by rw[List.length_append,be_len];omega)) fun p4 c4=>?_;refine gA ?_;refine qgc ?_;refine qkB ?_;refine gL ?_;refine gF ?_;obtain⟨_,_,_,_,⟨k1,k2⟩,k3,k4⟩:=ha;generalize hl2:l1++be 8 r.time++be 8 r.amount=l2;have e2:l2.length=l1.length+16:=by rw[←hl2,List.length_append,List.length_append,be_len,be_len]
 refine H.Al rfl rfl rfl (rtext_fn (l:=l2) f _ (Src.slcS at1 jG) jA jA) fun p5 c5=>?_;generalize hm0:l2++textB r.key=m0;have em0:m0.length≤l2.length+200:=by rw[←hm0,List.length_append];unfold textB;rw[List.length_append,be_len,zbq];omega
 refine gc ?_;refine qgc ?_;refine qey ?_;skip;refine H.Al rfl rfl rfl (rtext_fn (l:=m0) f _ (Src.slcS at1 jG) jA jA) fun p6 c6=>?_;generalize hm1:m0++textB r.val=m1;have em1:m1.length≤m0.length+200:=by rw[←hm1,List.length_append];unfold textB;rw[List.length_append,be_len,zbq];omega
 refine gc ?_;refine qgc ?_;refine qey ?_;skip;refine H.Al rfl rfl rfl (rtext_fn (l:=m1) f _ (Src.slcS at1 jG) jA jA) fun p7 c7=>?_;generalize hm2:m1++textB r.old=m2;have em2:m2.length≤m1.length+200:=by rw[←hm2,List.length_append];unfold textB;rw[List.length_append,be_len,zbq];omega
 refine gc ?_;refine qgc ?_;refine qey ?_;skip;refine H.Al rfl rfl rfl (rtext_fn (l:=m2) f _ (Src.slcS at1 jG) jA jA) fun p8 c8=>?_;generalize hm3:m2++textB r.to=m3;have em3:m3.length≤m2.length+200:=by rw[←hm3,List.length_append];unfold textB;rw[List.length_append,be_len,zbq];omega
 refine gX ?_;refine qgc ?_;refine qey ?_;skip;refine qeJ ?_;have e9:m3=l++r.bytes:=by rw[←hm3,←hm2,←hm1,←hm0,←hl2,←hl1];simp[Req.bytes]
 subst e9;exact H.r1 ⟨p8,c8,rfl,rfl,rfl⟩
end
end Go.Proofs.YtkaknokcbhiigaaGreatDoor
