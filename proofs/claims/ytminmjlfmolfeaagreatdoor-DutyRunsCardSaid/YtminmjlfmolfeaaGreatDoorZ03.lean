/- Parts of the proof, one behind the other, each under its own heading. No conditions. -/
import Derived.Test.YtminmjlfmolfeaaGreatDoorZ02
import Derived.Laws.IdiomStrings
import Derived.Laws.IdiomCopy
import Derived.ProofKit
import Derived.Lib.SmallJoins
import Derived.Deep.Slices
import Derived.Deep.Fields
import Derived.LaidMore
import Derived.OpenShut
import Derived.Handed
import Derived.MakeChecks
import Derived.Stop.Joined
import Derived.SevenTiedAt
import Derived.DeepKeys3
import Derived.Laws.IdiomRangeMap
set_option linter.unusedSectionVars false
set_option linter.unusedSimpArgs false
set_option linter.unusedVariables false
/- Layers 2 and 3, plain: SHA-256 and its tags on lists of bytes; what 32 bits reckon. No program in sight; no conditions. -/
set_option maxHeartbeats 1600000
set_option maxRecDepth 20000
namespace Go.Proofs.YtminmjlfmolfeaaGreatDoor
open Go
def w32 (x:UInt32):Value:=.int .u32 (x.toNat:Nat)
theorem u32_wrap (z:Int):IntKind.u32.wrap z = z % 4294967296:=by simp [IntKind.wrap,IntKind.signed,IntKind.bits]
theorem u32_bv (x:UInt32):BitVec.ofInt 32 (x.toNat:Int) = x.toBitVec:=by
 simp [BitVec.ofInt_natCast]
theorem u32_wrapN (x:UInt32):IntKind.u32.wrap ((x.toNat:Nat):Int) = (x.toNat:Int):=by
 rw [u32_wrap];have:=x.toNat_lt;omega
theorem zbm (x y:UInt32):bitsI .xor .u32 (x.toNat:Int) (y.toNat:Int) = some (((x ^^^ y).toNat:Nat):Int):=by
 have e:(BitVec.ofInt 32 (x.toNat:Int) ^^^ BitVec.ofInt 32 (y.toNat:Int)).toNat = (x ^^^ y).toNat:=by rw [u32_bv,u32_bv];rfl
 show some (IntKind.u32.wrap ((BitVec.ofInt 32 (x.toNat:Int) ^^^ BitVec.ofInt 32 (y.toNat:Int)).toNat:Int)) = _;rw [e,u32_wrapN]
theorem u32_and (x y:UInt32):bitsI .and .u32 (x.toNat:Int) (y.toNat:Int) = some (((x &&& y).toNat:Nat):Int):=by
 have e:(BitVec.ofInt 32 (x.toNat:Int) &&& BitVec.ofInt 32 (y.toNat:Int)).toNat = (x &&& y).toNat:=by rw [u32_bv,u32_bv];rfl
 show some (IntKind.u32.wrap ((BitVec.ofInt 32 (x.toNat:Int) &&& BitVec.ofInt 32 (y.toNat:Int)).toNat:Int)) = _;rw [e,u32_wrapN]
theorem u32_or (x y:UInt32):bitsI .or .u32 (x.toNat:Int) (y.toNat:Int) = some (((x ||| y).toNat:Nat):Int):=by
 have e:(BitVec.ofInt 32 (x.toNat:Int) ||| BitVec.ofInt 32 (y.toNat:Int)).toNat = (x ||| y).toNat:=by rw [u32_bv,u32_bv];rfl
 show some (IntKind.u32.wrap ((BitVec.ofInt 32 (x.toNat:Int) ||| BitVec.ofInt 32 (y.toNat:Int)).toNat:Int)) = _;rw [e,u32_wrapN]
theorem u32_not (x:UInt32):bitsI .xor .u32 (if IntKind.u32.signed then -1 else IntKind.u32.max) (x.toNat:Int) = some (((~~~ x).toNat:Nat):Int):=by
 have h:(if IntKind.u32.signed then -1 else IntKind.u32.max) = (((0xffffffff:UInt32).toNat:Nat):Int):=by decide
 rw [h,zbm];congr 3
theorem u32_shr (x:UInt32) (n:Nat) (hn:n < 32):shiftI .shr .u32 (x.toNat:Int) (n:Int) = some (((x >>> (UInt32.ofNat n)).toNat:Nat):Int):=by
 simp only [shiftI,Option.some.injEq,IntKind.bits];rw [UInt32.toNat_shiftRight]
 have h1:(UInt32.ofNat n).toNat % 32 = n:=by
  rw [UInt32.toNat_ofNat'];omega
 rw [h1,Nat.shiftRight_eq_div_pow];have h2:min ((n:Int).toNat) 32 = n:=by omega
 rw [h2];rw [show ((2:Int) ^ n) = ((2 ^ n:Nat):Int) by simp];rw [Int.fdiv_eq_ediv_of_nonneg _ (Int.natCast_nonneg _)];exact (Int.natCast_ediv _ _).symm
theorem u32_shl (x:UInt32) (n:Nat) (hn:n < 32):shiftI .shl .u32 (x.toNat:Int) (n:Int) = some (((x <<< (UInt32.ofNat n)).toNat:Nat):Int):=by
 simp only [shiftI,Option.some.injEq,IntKind.bits];rw [UInt32.toNat_shiftLeft]
 have h1:(UInt32.ofNat n).toNat % 32 = n:=by
  rw [UInt32.toNat_ofNat'];omega
 rw [h1,Nat.shiftLeft_eq];have h2:min ((n:Int).toNat) 32 = n:=by omega
 rw [h2,u32_wrap];rw [show ((2:Int) ^ n) = ((2 ^ n:Nat):Int) by simp];rw [← Int.natCast_mul];omega
theorem u32_shl24 (x:UInt32):shiftI .shl .u32 (x.toNat:Int) 24 = some (((x <<< (UInt32.ofNat 24)).toNat:Nat):Int):=u32_shl x 24 (by decide)
theorem u32_shl16 (x:UInt32):shiftI .shl .u32 (x.toNat:Int) 16 = some (((x <<< (UInt32.ofNat 16)).toNat:Nat):Int):=u32_shl x 16 (by decide)
theorem u32_shl8 (x:UInt32):shiftI .shl .u32 (x.toNat:Int) 8 = some (((x <<< (UInt32.ofNat 8)).toNat:Nat):Int):=u32_shl x 8 (by decide)
theorem u32_shr3 (x:UInt32):shiftI .shr .u32 (x.toNat:Int) 3 = some (((x >>> (UInt32.ofNat 3)).toNat:Nat):Int):=u32_shr x 3 (by decide)
theorem u32_shr10 (x:UInt32):shiftI .shr .u32 (x.toNat:Int) 10 = some (((x >>> (UInt32.ofNat 10)).toNat:Nat):Int):=u32_shr x 10 (by decide)
theorem u32_ofByte (b:UInt8):IntKind.u32.wrap ((b.toNat:Nat):Int) = ((b.toUInt32.toNat:Nat):Int):=by
 rw [u32_wrap,UInt8.toNat_toUInt32];have:=b.toNat_lt;omega
theorem u8_ofU32 (x:UInt32):IntKind.u8.wrap ((x.toNat:Nat):Int) = ((x.toUInt8.toNat:Nat):Int):=by
 have h:IntKind.u8.wrap ((x.toNat:Nat):Int) = (x.toNat:Int) % 256:=by simp [IntKind.wrap,IntKind.signed,IntKind.bits]
 rw [h,UInt32.toNat_toUInt8];omega
namespace Sha
def rot (x:UInt32) (n:Nat):UInt32:=x >>> (UInt32.ofNat n) ||| x <<< (UInt32.ofNat (32 - n))
def word (b:List UInt8) (i:Nat):UInt32:=
 (b.getD (4 * i) 0).toUInt32 <<< (UInt32.ofNat 24) ||| (b.getD (4 * i + 1) 0).toUInt32 <<< (UInt32.ofNat 16) ||| (b.getD (4 * i + 2) 0).toUInt32 <<< (UInt32.ofNat 8) ||| (b.getD (4 * i + 3) 0).toUInt32
def words (b:List UInt8):Nat→List UInt32
 | 0=>[]
 | i + 1=>words b i ++ [word b i]
def s0 (x:UInt32):UInt32:=rot x 7 ^^^ rot x 18 ^^^ x >>> (UInt32.ofNat 3)
def s1 (x:UInt32):UInt32:=rot x 17 ^^^ rot x 19 ^^^ x >>> (UInt32.ofNat 10)
def next (w:List UInt32):UInt32:=w.getD (w.length - 16) 0 + s0 (w.getD (w.length - 15) 0) + w.getD (w.length - 7) 0 + s1 (w.getD (w.length - 2) 0)
def ext (w:List UInt32):Nat→List UInt32
 | 0=>w
 | i + 1=>ext w i ++ [next (ext w i)]
def sched (b:List UInt8):List UInt32:=ext (words b 16) 48
def k:List UInt32:=[
 0x428a2f98,0x71374491,0xb5c0fbcf,0xe9b5dba5,0x3956c25b,0x59f111f1,0x923f82a4,0xab1c5ed5,
 0xd807aa98,0x12835b01,0x243185be,0x550c7dc3,0x72be5d74,0x80deb1fe,0x9bdc06a7,0xc19bf174,
 0xe49b69c1,0xefbe4786,0x0fc19dc6,0x240ca1cc,0x2de92c6f,0x4a7484aa,0x5cb0a9dc,0x76f988da,
 0x983e5152,0xa831c66d,0xb00327c8,0xbf597fc7,0xc6e00bf3,0xd5a79147,0x06ca6351,0x14292967,
 0x27b70a85,0x2e1b2138,0x4d2c6dfc,0x53380d13,0x650a7354,0x766a0abb,0x81c2c92e,0x92722c85,
 0xa2bfe8a1,0xa81a664b,0xc24b8b70,0xc76c51a3,0xd192e819,0xd6990624,0xf40e3585,0x106aa070,
 0x19a4c116,0x1e376c08,0x2748774c,0x34b0bcb5,0x391c0cb3,0x4ed8aa4a,0x5b9cca4f,0x682e6ff3,
 0x748f82ee,0x78a5636f,0x84c87814,0x8cc70208,0x90befffa,0xa4506ceb,0xbef9a3f7,0xc67178f2]
structure S8 where
 a:UInt32
 b:UInt32
 c:UInt32
 d:UInt32
 e:UInt32
 f:UInt32
 g:UInt32
 h:UInt32
def S8.vals (s:S8):List Value:=[w32 s.a,w32 s.b,w32 s.c,w32 s.d,w32 s.e,w32 s.f,w32 s.g,w32 s.h]
def start:S8:=⟨0x6a09e667,0xbb67ae85,0x3c6ef372,0xa54ff53a,0x510e527f,0x9b05688c,0x1f83d9ab,0x5be0cd19⟩
def t1 (k w:UInt32) (v:S8):UInt32:=v.h + (rot v.e 6 ^^^ rot v.e 11 ^^^ rot v.e 25) + (v.e &&& v.f ^^^ ~~~ v.e &&& v.g) + k + w
def t2 (v:S8):UInt32:=(rot v.a 2 ^^^ rot v.a 13 ^^^ rot v.a 22) + (v.a &&& v.b ^^^ v.a &&& v.c ^^^ v.b &&& v.c)
def round (k w:UInt32) (v:S8):S8:=⟨t1 k w v + t2 v,v.a,v.b,v.c,v.d + t1 k w v,v.e,v.f,v.g⟩
def rounds (w:List UInt32) (v:S8):Nat→S8
 | 0=>v
 | i + 1=>round (k.getD i 0) (w.getD i 0) (rounds w v i)
def S8.add (v s:S8):S8:=⟨v.a + s.a,v.b + s.b,v.c + s.c,v.d + s.d,v.e + s.e,v.f + s.f,v.g + s.g,v.h + s.h⟩
def block (s:S8) (b:List UInt8):S8:=(rounds (sched b) s 64).add s
def blocks (s:S8) (b:List UInt8):Nat→S8
 | 0=>s
 | i + 1=>block (blocks s b i) ((b.drop (64 * i)).take 64)
def padZ (n:Nat):Nat:=(119 - n % 64) % 64
def padded (b:List UInt8):List UInt8:=b ++ [0x80] ++ List.replicate (padZ b.length) 0 ++ be 8 ((b.length * 8:Nat):Int)
def S8.get (s:S8):Nat→UInt32
 | 0=>s.a
 | 1=>s.b
 | 2=>s.c
 | 3=>s.d
 | 4=>s.e
 | 5=>s.f
 | 6=>s.g
 | _=>s.h
def S8.out (s:S8) (i:Nat):UInt8:=(s.get (i / 4) >>> (UInt32.ofNat (24 - 8 * (i % 4)))).toUInt8
def sum (b:List UInt8):Nat→UInt8:=(blocks start (padded b) ((padded b).length / 64)).out
end Sha
variable {s t e dT sT ty T:TypeId} {x y:Operand} {c b dl m k0 off:Nat} {bs:List UInt8} {A':List HP} {w:World} {xv v:Value} {cs ls:List Value}
section rules
variable {P:Program} {base:World} {n:Nat} {L:Env} {f:Frag} {A:List HP} {q:Post}
variable {l rest:List Oper} {d:Nat} {ty:TypeId} {pos:String} {af:Array Edge} {gd:Option (Nat × Bool)}
theorem H.convBS {p:Option Addr} [hs:Und P s (.slice e)] [he:Und P e (.int .u8)] [ht:Und P t .string] (hw:want? l L gd = true) (hx:ev? L x = some (.slice p bs.length c))
  (hsrc:Src P f A (.slice p bs.length c) 1 bs.length (bytesV bs)) (hn:p = none→bs = []) (hd:Nat.ble (d + 1) n = true)
  (k:H P base n ((d,.string ⟨bs.toArray⟩)::L) f A (.ops l rest q)):H P base n L f A (.ops l (⟨some d,.convert s t x,ty,pos,af,gd⟩::rest) q):=
 H.opV hw hd (fun a w hf s'=>by
  have h1:=hsrc.cells base w s'
  have h2:(convert s t (.slice p bs.length c)).run P w = .ok (.string ⟨bs.toArray⟩) w:=by
   rw [run_convert_bytes_string w s t e p bs.length c hs.eq he.eq ht.eq]
   cases p with
   | none =>
    have:=hn rfl
    subst this
    simp [Conv.bytesToString]
    rfl
   | some a =>
    have h3:(loadCells a bs.length).run P w = .ok ((bs.map (fun b=>(b.toNat:Int))).map (Value.int .u8)).toArray w:=by
     have h4:(Builtin.firstCells 1 bs.length (.slice (some a) bs.length c)).run P w = (loadCells a (bs.length * 1)).run P w:=rfl
     rw [Nat.mul_one] at h4
     rw [← h4,h1]
     unfold bytesV
     rw [List.map_map]
     rfl
    rw [run_bytesToString w a bs.length c _ h3,foldl_push_byteCells]
    have he0:ByteArray.empty.data = #[]:=rfl
    rw [he0]
    simp
  simp only [execOp,hf.eval hx,Sem.run_bind,h2,Result.andThen_ok,Sem.run_pure]) k
def strRow (b:Nat) (s:ByteArray) (c:Nat) (e:TypeId):HP:=pts b (.cells (bytesRow s c) e ((bytesRow s c).size,(bytesRow s c).size + 1))
theorem bytesRow_get (s:ByteArray) (c:Nat) {i:Nat} (h:i < s.size):(bytesRow s c)[i]? = (bytesV s.data.toList)[i]?:=by
 unfold bytesRow bytesV;have h':i < s.data.size:=h;rw [Array.getElem?_append_left (by simpa using h')]
 rw [List.getElem?_map,Array.getElem?_map,Array.getElem?_toList]
theorem Src.strRow {c':Nat} {s:ByteArray} (h:At A (strRow b s c e) A' (strRow b s c e)):Src P f A (.slice (some ⟨b,0,none⟩) s.size c') 1 s.size (bytesV s.data.toList):=by
 have hl:(bytesV s.data.toList).length = s.size * 1:=by unfold bytesV;rw [List.length_map,Array.length_toList,Nat.mul_one];rfl
 refine Src.slice (fun base w sa=>⟨_,_,_,sa.got h,fun i hi=>?_⟩) hl;rw [hl,Nat.mul_one] at hi;rw [Nat.zero_add];exact bytesRow_get s c hi
theorem H.convSB {bs:ByteArray} [hs:Und P s .string] [ht:Und P t (.slice e)] [he:Und P e (.int .u8)] (hw:want? l L gd = true) (hx:ev? L x = some (.string bs)) (hd:Nat.ble (d + 1) n = true)
  (k:∀ b c,H P base n ((d,.slice (some ⟨b,0,none⟩) bs.size c)::L) f (strRow b bs c e::A) (.ops l rest q)):H P base n L f A (.ops l (⟨some d,.convert s t x,ty,pos,af,gd⟩::rest) q):=
 H.opE (ι:=Nat × Nat) (fun i=>.slice (some ⟨i.1,0,none⟩) bs.size i.2) (fun _=>f) (fun i=>strRow i.1 bs i.2 e::A) (fun _=>True) hw hd (fun a w hfr s'=>by
  have h1:=run_bytes_of_string (P:=P) w s t e bs hs.eq ht.eq he.eq
  have h2:(execOp a.eval ⟨some d,.convert s t x,ty,pos,af,gd⟩).run P w = .ok (.value (.slice (some ⟨w.heap.size,0,none⟩) bs.size (grownCap w bs.size 0 e))) (w.drew.alloc (.cells (bytesRow bs (grownCap w bs.size 0 e)) e ((bytesRow bs (grownCap w bs.size 0 e)).size,(bytesRow bs (grownCap w bs.size 0 e)).size + 1))):=by
   simp only [execOp,hfr.eval hx,Sem.run_bind,h1,Result.andThen_ok,Sem.run_pure]
  exact ⟨(w.heap.size,grownCap w bs.size 0 e),_,trivial,h2,Sat.alloc (w:=w) s' rfl rfl rfl rfl⟩) (fun i _=>k i.1 i.2)
theorem run_copy_own {elem:TypeId} {o dc:Nat} {cur:Array Value} (hu:Und P dT (.slice elem)) (hs:Siz P elem 1)
  (hg:w.heap[b]? = some (.cells cur T (0,0))) (hlen:(Builtin.lenOf xv).run P w = .ok m w) (hcs:(Builtin.firstCells 1 (Nat.min m dl) xv).run P w = .ok cs.toArray w) (hfit:o + cs.length ≤ cur.size) (h1:∀ v ∈ cs,v.oneCell' = true) :
  (Builtin.copy_ #[dT,sT] ty #[.slice (some ⟨b,o,none⟩) dl dc,xv]).run P w = .ok (goInt (Nat.min m dl)) (w.setRow b (cur.toList.take o ++ cs ++ cur.toList.drop (o + cs.length)).toArray):=by
 have hst:=run_storeCells_at P b o T cs 0 cur w hg (by simpa using hfit) h1;simp only [Nat.add_zero] at hst
 simp [Builtin.copy_,run_underlying hu.eq,hlen,hs.run,hcs,hst]
theorem run_builtin_copy {u:TypeId} {a:Act} {w':World} {dd:Option Tmp} (h:(Builtin.copy_ #[t,u] ty #[a.eval x,a.eval y]).run P w = .ok v w') :
  (execOp a.eval ⟨dd,.call ⟨.builtin .copy,#[x,y],#[t,u]⟩,ty,pos,af,gd⟩).run P w = .ok (.value v) w':=by
 exact qbZ
theorem H.copy {o dc:Nat} {ls':List Value} [hu:Und P dT (.slice e)] [hs:Siz P e 1] (hw:want? l L gd = true) (hd:Nat.ble (d + 1) n = true)
  (hx:ev? L x = some (.slice (some ⟨b,o,none⟩) dl dc)) (hy:ev? L y = some xv) (hlen:∀ w,(Builtin.lenOf xv).run P w = .ok m w) (hk:Nat.min m dl = k0) (hcs:∀ base w,Sat base w f A→(Builtin.firstCells 1 k0 xv).run P w = .ok cs.toArray w)
  (hset:splice ls o cs = ls') (hfit:o + cs.length ≤ ls.length) (h1:∀ v ∈ cs,one v = true) (hA:At A (row b T ls) A' (row b T ls'))
  (k:H P base n ((d,.int .i64 (k0:Nat))::L) f A' (.ops l rest q)):H P base n L f A (.ops l (⟨some d,.call ⟨.builtin .copy,#[x,y],#[dT,sT]⟩,ty,pos,af,gd⟩::rest) q):=
 H.opE (ι:=Unit) (fun _=>.int .i64 (k0:Nat)) (fun _=>f) (fun _=>A') (fun _=>True) hw hd (fun a w hfr s'=>by
  subst hset;subst hk
  have hb:=s'.got hA
  have hr:=run_copy_own (P:=P) (ty:=ty) (sT:=sT) (dc:=dc) hu hs hb (hlen w) (hcs base w s') (by simpa using hfit) (fun v hv=>by rw [one_eq];exact h1 v hv)
  refine ⟨(),_,trivial,run_builtin_copy (by rw [hfr.eval hx,hfr.eval hy];exact hr),?_⟩
  exact s'.set hA rfl rfl rfl (setRow_is hb)) (fun _ _=>k)
theorem Src.copy (h:Src P f A xv 1 m cs):∀ base w,Sat base w f A→(Builtin.firstCells 1 m xv).run P w = .ok cs.toArray w:=h.cells
theorem firstCells_part {news:List Value} (h:Rd f A b off news) (hk:k0 ≤ news.length):∀ base w,Sat base w f A→(Builtin.firstCells 1 k0 (.slice (some ⟨b,off,none⟩) m c)).run P w = .ok (news.take k0).toArray w:=fun base w s=>by
 refine run_firstCells_some w 1 k0 ⟨b,off,none⟩ m c (news.take k0) (by simp;omega) (fun j v hj=>?_)
 rw [zbb]
 rw [List.getElem?_take] at hj
 split at hj
 ·exact (h base w s).cell hj
 ·cases hj
end rules
theorem Le.un (f g:Frag):Le f (un f g):=fun k o h=>by simp [Proofs.YtminmjlfmolfeaaGreatDoor.un,h]
variable {base:World} {f g:Frag}
theorem Sat.weak {A:List HP} (h:Le f g) (s:Sat base w g A):Sat base w f A:=by
 obtain ⟨a,b,c,d,e,m,hm,hd,hw⟩:=s;refine ⟨a,b,c,d,fun k o hk=>e k o (h k o hk),m,hm,fun k=>?_,hw⟩;rcases hd k with h1 | h1
 ·refine .inl ?_
  cases hf:f k with
  | none=>rfl
  | some o=>rw [h k o hf] at h1;cases h1
 ·exact .inr h1
theorem wpAnyC_mono {P:Program} {C C':World→Prop} {ops:Array Oper} {Q:Exit→Act→World→Prop} {cut:Array Bool} (hC:∀ w,C w→C' w):∀ (fuel:Nat) (listed:Array Bool) (a:Act) (w:World),wpAnyC P C ops Q cut fuel listed a w→wpAnyC P C' ops Q cut fuel listed a w
 | 0,_,_,_,h=>⟨hC _ h.1,h.2⟩
 | fuel + 1, listed, a, w, h => by
  refine ⟨hC _ h.1,?_⟩
  have h2:=h.2
  split at h2
  ·rename_i hc;rw [if_pos hc];exact h2
  ·rename_i hc;rw [if_neg hc];exact ⟨h2.1,fun i hi=>wpOp_mono (fun a w=>wpAnyC_mono hC fuel _ a w) (h2.2 i hi)⟩
structure HB (S V:List HP) (cut listed:Array Bool) (fuel:Nat) (P:Program) (base:World) (n:Nat) (L:Env) (f:Frag) (K:Kont):Prop where
 out:∀ l q,K = .ops l [] q→Region.noSelect l.toArray = true→q.blind P→∀ a w,Fr n a L→Sat base w f (S ++ V) →
  wpAnyC P (fun w=>∃ V,Sat base w f (S ++ V)) l.toArray (q.den P) cut fuel listed a w
def bPost (P:Program) (base:World) (f:Frag) (S:List HP) (cut listed:Array Bool) (fuel:Nat) (l:List Oper) (q:Post) (e:Exit) (a:Act) (w:World):Prop:=
 Region.noSelect l.toArray = true→q.blind P→match e with
  | .normal=>wpAnyC P (fun w=>∃ V,Sat base w f (S ++ V)) l.toArray (q.den P) cut fuel listed a w
  | e=>q.den P e a w
variable {o:Oper} {j id ti D sz:Nat} {B V' S V S':List HP} {op:BinOp} {xt yt:TypeId} {p p2 r z:Int} {tt:List (Nat × Bool)} {xs:List Operand} {ys fs vs:List Value} {ik:IntKind} {f':Frag} {α:Type} {fid:FuncId} {ats:Array TypeId}
section rules
variable {P:Program} {base:World} {n:Nat} {L:Env} {f:Frag} {A S V:List HP} {q:Post} {cut listed:Array Bool} {fuel:Nat} {ξ:Ext} {tl:List Oper}
variable {l rest:List Oper} {d:Nat} {ty:TypeId} {pos:String} {af:Array Edge} {gd:Option (Nat × Bool)}
theorem HB.quiet (todo:List (Nat × Bool)) (left:Nat) (hn:(ordOK l.toArray ⟨listed,cut,left,true⟩ todo && todo.all (fun t=>(getO l t.1).isSome) && Nat.beq fuel (todo.length + left)) = true)
  (k:HQ V ⟨⟨listed,cut,left,true⟩,todo⟩ P base n L f S (.ops l (pickOps l todo) q)):HB S V cut listed fuel P base n L f (.ops l [] q):=.mk fun l' q' hK hs hb a w hf s=>by
 simp only [Kont.ops.injEq] at hK
 obtain ⟨rfl,_,rfl⟩:=hK
 simp only [Bool.and_eq_true,List.all_eq_true] at hn
 obtain ⟨⟨h1,h2⟩,h3⟩:=hn
 have h4:fuel = todo.length + left:=Nat.eq_of_beq_eq_true h3
 subst h4
 exact k.out l q rfl hs hb h1 h2 a w hf s
theorem HQ.Aa {ls:Lst} (h0:ls.opn = true) (k:HB A V ls.cut ls.a ls.left P base n L f (.ops l [] q)):HQ V ⟨ls,[]⟩ P base n L f A (.ops l [] q):=.mk fun l' q' hK hs hb ho hg a w hf s=>by
 simp only [Kont.ops.injEq] at hK
 obtain ⟨rfl,_,rfl⟩:=hK
 have _:=h0
 have:=k.out l q rfl hs hb a w hf s
 simp only [List.length_nil,Nat.zero_add]
 exact this
theorem HB.done (h0:(Nat.beq fuel 0 && Region.ready .any l.toArray listed == []) = true) (k:H P base n L f (S ++ V) (.out .normal q)):HB S V cut listed fuel P base n L f (.ops l [] q):=.mk fun l' q' hK hs hb a w hf s=>by
 simp only [Kont.ops.injEq] at hK
 obtain ⟨rfl,_,rfl⟩:=hK
 simp only [Bool.and_eq_true,beq_iff_eq] at h0
 have h1:fuel = 0:=Nat.eq_of_beq_eq_true h0.1
 subst h1
 exact ⟨⟨V,s⟩,h0.2,k.out a w hf s⟩
theorem event_step {i:Nat} {a:Act} (ho:getO l i = some o) (hs:Region.noSelect l.toArray = true) (hb:q.blind P) (hf:Fr n a L) (s:Sat base w f (S ++ V))
  (k:H P base n L f (S ++ V) (.ops l [o] (.fn (bPost P base f S cut (listed.setIfInBounds i true) fuel l q)))) :
  wpOp P l.toArray (q.den P) i (wpAnyC P (fun w=>∃ V,Sat base w f (S ++ V)) l.toArray (q.den P) cut fuel (listed.setIfInBounds i true)) a w:=by
 have hk:=k.out a w hf s;unfold wpOp
 rw [List.getElem?_toArray,← getO_eq,ho];show if Region.wanted o (yielded l.toArray a.tmps) = true then _ else _
 have hk':wpList P l.toArray (bPost P base f S cut (listed.setIfInBounds i true) fuel l q) [o] a w:=hk;simp only [wpList] at hk'
 have e1:∀ a w,bPost P base f S cut (listed.setIfInBounds i true) fuel l q .normal a w →
   wpAnyC P (fun w=>∃ V,Sat base w f (S ++ V)) l.toArray (q.den P) cut fuel (listed.setIfInBounds i true) a w:=fun a w h=>h hs hb
 by_cases hw:Region.wanted o (yielded l.toArray a.tmps) = true
 ·rw [if_pos hw] at hk' ⊢;rcases hk' with h | ⟨hasks,x,y,z⟩
  ·exact .inl (upon_mono e1 (fun c a w h=>h hs hb) (fun a w h=>h hs hb) h)
  ·exact .inr ⟨hasks,x,y,z hs hb⟩
 ·rw [if_neg hw] at hk' ⊢;exact e1 _ _ hk'
def oneB (l:List Oper) (cut listed:Array Bool) (is:List Nat):Bool:=Region.ready .any l.toArray listed == is && (listed != cut)
theorem HB.ev1 {i:Nat} (hr:oneB l cut listed [i] = true) (ho:getO l i = some o)
  (k:H P base n L f (S ++ V) (.ops l [o] (.fn (bPost P base f S cut (listed.setIfInBounds i true) fuel l q)))):HB S V cut listed (fuel + 1) P base n L f (.ops l [] q):=.mk fun l' q' hK hs hb a w hf s=>by
 simp only [Kont.ops.injEq] at hK
 obtain ⟨rfl,_,rfl⟩:=hK
 simp only [oneB,Bool.and_eq_true,beq_iff_eq,bne_iff_ne,ne_eq] at hr
 exact wpAnyC_one hr.1 hr.2 ⟨V,s⟩ (event_step ho hs hb hf s k)
theorem HB.ev2 {i:Nat} {o':Oper} (hr:oneB l cut listed [i,j] = true) (ho:getO l i = some o) (ho':getO l j = some o')
  (k:H P base n L f (S ++ V) (.ops l [o] (.fn (bPost P base f S cut (listed.setIfInBounds i true) fuel l q))))
  (k':H P base n L f (S ++ V) (.ops l [o'] (.fn (bPost P base f S cut (listed.setIfInBounds j true) fuel l q)))):HB S V cut listed (fuel + 1) P base n L f (.ops l [] q):=.mk fun l' q' hK hs hb a w hf s=>by
 simp only [Kont.ops.injEq] at hK
 obtain ⟨rfl,_,rfl⟩:=hK
 simp only [oneB,Bool.and_eq_true,beq_iff_eq,bne_iff_ne,ne_eq] at hr
 refine ⟨⟨V,s⟩,?_⟩
 rw [if_neg hr.2]
 refine ⟨(fun h0=>by rw [hr.1] at h0;simp at h0),fun x hx=>?_⟩
 rw [hr.1] at hx
 simp only [List.mem_cons,List.not_mem_nil,or_false] at hx
 rcases hx with rfl | rfl
 ·exact event_step ho hs hb hf s k
 ·exact event_step ho' hs hb hf s k'
theorem H.on (E:List HP) (hg:Le f g) (hB:B = (S ++ E) ++ V') (k:HB (S ++ E) V' cut listed fuel P base n L g (.ops l [] q)) :
  H P base n L g B (.out .normal (.fn (bPost P base f S cut listed fuel l q))):=.mk fun a w hf s hs hb=>by
 subst hB
 refine wpAnyC_mono (fun w ⟨V1,s1⟩=>⟨E ++ V1,?_⟩) _ _ _ _ (k.out l q rfl hs hb a w hf s)
 rw [← List.append_assoc]
 exact s1.weak hg
theorem H.on0 (hB:B = S ++ V') (k:HB S V' cut listed fuel P base n L f (.ops l [] q)) :
  H P base n L f B (.out .normal (.fn (bPost P base f S cut listed fuel l q))):=.mk fun a w hf s hs hb=>by
 subst hB
 exact k.out l q rfl hs hb a w hf s
theorem H.drawB (hm:P.follows .mixedOrders = true) (hn:Region.noSelect l.toArray = true) (hb:q.blind P) (hB:B = S ++ V) (k:HB S V #[] (Array.replicate l.length false) l.length P base n L f (.ops l [] q)):H P base n L f B (.code (.region id l.toArray true) q):=.mk fun a w hf s=>by
 refine wp_region_any hm ?_
 subst hB
 have s':Sat base { w with drawn:=w.drawn + 1 } f (S ++ V):=s.same rfl rfl rfl rfl
 have:=k.out l q rfl hn hb a _ hf s'
 simpa using wpAnyC.any _ _ _ _ this
theorem H.drawC (upto:List Nat) (hm:P.follows .mixedOrders = true) (hn:Region.noSelect l.toArray = true) (hb:q.blind P) (hB:B = S ++ V) (k:HB S V (upto.foldl (fun a i=>a.setIfInBounds i true) (Array.replicate l.length false)) (Array.replicate l.length false) l.length P base n L f (.ops l [] q)):H P base n L f B (.code (.region id l.toArray true) q):=.mk fun a w hf s=>by
 refine wp_region_any hm ?_
 subst hB
 have s':Sat base { w with drawn:=w.drawn + 1 } f (S ++ V):=s.same rfl rfl rfl rfl
 have:=k.out l q rfl hn hb a _ hf s'
 simpa using wpAnyC.any _ _ _ _ this
theorem HB.next (upto:List Nat) (hc:(listed == cut && Nat.blt 0 fuel) = true) (hB:S ++ V = S' ++ V')
  (k:HB S' V' (match upto with | []=>#[] | _=>upto.foldl (fun a i=>a.setIfInBounds i true) listed) listed fuel P base n L f (.ops l [] q)):HB S V cut listed fuel P base n L f (.ops l [] q):=.mk fun l' q' hK hs hb a w hf s=>by
 simp only [Kont.ops.injEq] at hK
 obtain ⟨rfl,_,rfl⟩:=hK
 simp only [Bool.and_eq_true,beq_iff_eq] at hc
 obtain ⟨h1,h2⟩:=hc
 have h3:=Nat.le_of_ble_eq_true h2
 obtain ⟨m,rfl⟩:∃ m,fuel = m + 1:=⟨fuel - 1,by omega⟩
 refine ⟨⟨V,s⟩,?_⟩
 rw [if_pos h1]
 rw [hB] at s
 exact (k.out l q rfl hs hb a w hf s).any
structure HN (listed:Array Bool) (fuel:Nat) (P:Program) (base:World) (n:Nat) (L:Env) (f:Frag) (A:List HP) (K:Kont):Prop where
 out:∀ l q,K = .ops l [] q→Region.noSelect l.toArray = true→q.blind P→∀ a w,Fr n a L→Sat base w f A→wpAny P .any l.toArray (q.den P) fuel listed a w
theorem wpAnyC_true {ops:Array Oper} {Q:Exit→Act→World→Prop} (h0:ops.size ≠ 0):∀ (fuel:Nat) (listed:Array Bool) (a:Act) (w:World),listed.size = ops.size→wpAny P .any ops Q fuel listed a w→wpAnyC P (fun _=>True) ops Q #[] fuel listed a w
 | 0,_,_,_,_,h=>⟨trivial,h⟩
 | fuel + 1, listed, a, w, hl, h => by
  refine ⟨trivial,?_⟩
  rw [if_neg (by rintro rfl;exact h0 (by simpa using hl.symm))]
  exact ⟨h.1,fun i hi=>wpOp_mono (fun a w=>wpAnyC_true h0 fuel _ a w (by simpa using hl)) (h.2 i hi)⟩
theorem H.drawN (hm:P.follows .mixedOrders = true) (hn:Region.noSelect l.toArray = true) (hb:q.blind P)
  (k:HN (Array.replicate l.length false) l.length P base n L f A (.ops l [] q)):H P base n L f A (.code (.region id l.toArray true) q):=.mk fun a w hf s=>by
 refine wp_region_any hm ?_
 have s':Sat base { w with drawn:=w.drawn + 1 } f A:=s.same rfl rfl rfl rfl
 have:=k.out l q rfl hn hb a _ hf s'
 simpa using this
def pureB (l:List Oper) (listed:Array Bool) (i:Nat):Bool:=(Region.ready .any l.toArray listed).contains i && Region.free .any l.toArray listed i && barB l.toArray #[] i && closedB l.toArray listed && Nat.beq listed.size l.length && Nat.blt 0 l.length
theorem HN.move {i:Nat} {x:Operand} {v:Value} (hc:pureB l listed i = true) (ho:getO l i = some ⟨some d,.move x,ty,pos,af,gd⟩) (hw:want? l L gd = true) (hx:ev? L x = some v) (hd:Nat.ble (d + 1) n = true)
  (k:HN (listed.setIfInBounds i true) fuel P base n ((d,v)::L) f A (.ops l [] q)):HN listed (fuel + 1) P base n L f A (.ops l [] q):=.mk fun l' q' hK hs hb a w hf s=>by
 simp only [Kont.ops.injEq] at hK
 obtain ⟨rfl,_,rfl⟩:=hK
 simp only [pureB,Bool.and_eq_true] at hc
 obtain ⟨⟨⟨⟨⟨h1,h2⟩,h3⟩,h4⟩,h5⟩,h6⟩:=hc
 have h5':listed.size = l.toArray.size:=by simpa using Nat.eq_of_beq_eq_true h5
 have h6':l.toArray.size ≠ 0:=by
  have:=Nat.le_of_ble_eq_true h6;simp only [List.size_toArray];omega
 have hk:=k.out l q rfl hs hb (a.put (some d) v) w (hf.put (Nat.le_of_ble_eq_true hd) v) s
 have hk2:=wpAnyC_true h6' _ _ _ _ (by simpa using h5') hk
 refine wpAnyC.any _ _ _ _ (wpAnyC_take (C:=fun _=>True) (cut:=#[]) (oi:=⟨some d,.move x,ty,pos,af,gd⟩) (v:=v) (by rw [List.getElem?_toArray,← getO_eq];exact ho) hs h2 h3 h4 h1 (fun c a w h=>hb c a _ _ w h) (.inl ⟨hf.want hw,fun w' _=>?_⟩) hk2)
 simp [execOp,hf.eval hx]
theorem HN.phase (upto:List Nat) (hB:A = S ++ V) (k:HB S V (match upto with | []=>#[] | _=>upto.foldl (fun a i=>a.setIfInBounds i true) listed) listed fuel P base n L f (.ops l [] q)):HN listed fuel P base n L f A (.ops l [] q):=.mk fun l' q' hK hs hb a w hf s=>by
 simp only [Kont.ops.injEq] at hK
 obtain ⟨rfl,_,rfl⟩:=hK
 subst hB
 exact (k.out l q rfl hs hb a w hf s).any
theorem HQ.Bg {k:IntKind} (hw:want? l L gd = true) (hx:ev? L x = some (.int k p)) (hy:ev? L y = some (.int k p2)) (hc:bitsI op k p p2 = some r) (hz:r = z) (hd:Nat.ble (d + 1) n = true) {lst:Lst}
  (kk:HQ V ⟨lst.setIfInBounds ti true,tt⟩ P base n ((d,.int k z)::L) f A (.ops l rest q)):HQ V ⟨lst,(ti,false)::tt⟩ P base n L f A (.ops l (⟨some d,.binOp op xt x y yt,ty,pos,af,gd⟩::rest) q):=
 HQ.opV hw hd (fun a w hf _=>by
  cases op <;> simp only [bitsI,Option.some.injEq,reduceCtorEq] at hc <;> subst hc <;> subst hz <;>
   simp [execOp,eqGuard,binOp,Op.intBits,hf.eval hx,hf.eval hy]) kk
theorem HQ.Bq {k k2:IntKind} (hw:want? l L gd = true) (hx:ev? L x = some (.int k p)) (hy:ev? L y = some (.int k2 p2)) (hc:shiftI op k p p2 = some r) (h0:0 ≤ p2) (hz:r = z) (hd:Nat.ble (d + 1) n = true) {lst:Lst}
  (kk:HQ V ⟨lst.setIfInBounds ti true,tt⟩ P base n ((d,.int k z)::L) f A (.ops l rest q)):HQ V ⟨lst,(ti,false)::tt⟩ P base n L f A (.ops l (⟨some d,.binOp op xt x y yt,ty,pos,af,gd⟩::rest) q):=
 HQ.opV hw hd (fun a w hf _=>by
  have h1:¬ p2 < 0:=by omega
  cases op <;> simp only [shiftI,Option.some.injEq,reduceCtorEq] at hc <;> subst hc <;> subst hz <;>
   simp [execOp,eqGuard,binOp,Op.shift,hf.eval hx,hf.eval hy,h1]) kk
theorem HQ.flip {k:IntKind} (hw:want? l L gd = true) (hx:ev? L x = some (.int k p)) (hc:bitsI .xor k (if k.signed then -1 else k.max) p = some r) (hz:r = z) (hd:Nat.ble (d + 1) n = true) {lst:Lst}
  (kk:HQ V ⟨lst.setIfInBounds ti true,tt⟩ P base n ((d,.int k z)::L) f A (.ops l rest q)):HQ V ⟨lst,(ti,false)::tt⟩ P base n L f A (.ops l (⟨some d,.unOp .xor xt x,ty,pos,af,gd⟩::rest) q):=
 HQ.opV hw hd (fun a w hf _=>by
  simp only [bitsI,Option.some.injEq] at hc
  subst hc;subst hz
  simp [execOp,Op.unary,Op.intBits,hf.eval hx]) kk
theorem HQ.max2 {x y:Operand} {ats:Array TypeId} {k:IntKind} {p p2 z:Int} (hw:want? l L gd = true) (hx:ev? L x = some (.int k p)) (hy:ev? L y = some (.int k p2)) (hz:(if p < p2 then p2 else p) = z) (hd:Nat.ble (d + 1) n = true) {lst:Lst} {ti:Nat} {tt:List (Nat × Bool)}
  (kk:HQ V ⟨lst.setIfInBounds ti true,tt⟩ P base n ((d,.int k z)::L) f A (.ops l rest q)):HQ V ⟨lst,(ti,false)::tt⟩ P base n L f A (.ops l (⟨some d,.call ⟨.builtin .max,#[x,y],ats⟩,ty,pos,af,gd⟩::rest) q):=
 HQ.opV hw hd (fun a w hf _=>by
  subst hz
  simp [execOp,resolve,invoke,builtin,Builtin.max_,Builtin.max2,hf.eval hx,hf.eval hy]) kk
theorem HQ.aggEq {xs:List Value} {b:Bool} (hw:want? l L gd = true) (hx:ev? L x = some (.agg xs.toArray)) (hy:ev? L y = some (.agg ys.toArray)) (ho:op = .eql)
  (hg:P.eqGuardType P.depth xt = false) (h1:shp P D xt xs = true) (h2:shp P D xt ys = true) (hm:(match P.underlying xt with | some (.array _ _) | some (.struct _)=>true | _=>false) = true) (hD:D ≤ 10000) (hb:eqC xs ys = b) (hd:Nat.ble (d + 1) n = true) {lst:Lst}
  (kk:HQ V ⟨lst.setIfInBounds ti true,tt⟩ P base n ((d,.bool b)::L) f A (.ops l rest q)):HQ V ⟨lst,(ti,false)::tt⟩ P base n L f A (.ops l (⟨some d,.binOp op xt x y yt,ty,pos,af,gd⟩::rest) q):=
 HQ.opV hw hd (fun a w hf _=>by
  subst ho;subst hb
  have hmk:∀ zs:List Value,mkV P xt zs = .agg zs.toArray:=fun zs=>by
   unfold mkV
   split at hm <;> simp_all
  have h3:=zbj 10000 xt w D D xs ys h1 h2 hD
  rw [hmk,hmk] at h3
  refine run_bin _ ?_ ?_
  ·rw [hf.eval hx,hf.eval hy]
   simp [eqGuard,hg]
  ·rw [hf.eval hx,hf.eval hy]
   show Sem.run P (do pure (Value.bool (← Op.equal xt (.agg xs.toArray) (.agg ys.toArray)))) w = _
   have h4:Sem.run P (Op.equal xt (.agg xs.toArray) (.agg ys.toArray)) w = .ok (eqC xs ys) w:=h3
   simp [h4]) kk
theorem HQ.aggNe {xs:List Value} {b:Bool} (hw:want? l L gd = true) (hx:ev? L x = some (.agg xs.toArray)) (hy:ev? L y = some (.agg ys.toArray)) (ho:op = .neq)
  (hg:P.eqGuardType P.depth xt = false) (h1:shp P D xt xs = true) (h2:shp P D xt ys = true) (hm:(match P.underlying xt with | some (.array _ _) | some (.struct _)=>true | _=>false) = true) (hD:D ≤ 10000) (hb:(!eqC xs ys) = b) (hd:Nat.ble (d + 1) n = true) {lst:Lst}
  (kk:HQ V ⟨lst.setIfInBounds ti true,tt⟩ P base n ((d,.bool b)::L) f A (.ops l rest q)):HQ V ⟨lst,(ti,false)::tt⟩ P base n L f A (.ops l (⟨some d,.binOp op xt x y yt,ty,pos,af,gd⟩::rest) q):=
 HQ.opV hw hd (fun a w hf _=>by
  subst ho;subst hb
  have hmk:∀ zs:List Value,mkV P xt zs = .agg zs.toArray:=fun zs=>by
   unfold mkV
   split at hm <;> simp_all
  have h3:=zbj 10000 xt w D D xs ys h1 h2 hD
  rw [hmk,hmk] at h3
  refine run_bin _ ?_ ?_
  ·rw [hf.eval hx,hf.eval hy]
   simp [eqGuard,hg]
  ·rw [hf.eval hx,hf.eval hy]
   show Sem.run P (do pure (Value.bool (!(← Op.equal xt (.agg xs.toArray) (.agg ys.toArray))))) w = _
   have h4:Sem.run P (Op.equal xt (.agg xs.toArray) (.agg ys.toArray)) w = .ok (eqC xs ys) w:=h3
   simp [h4]) kk
theorem H.index_arrT [hu:Und P t (.array m e)] [hs:Siz P e sz] (hw:want? l L gd = true)
  (hx:ev? L x = some (.pointer (some ⟨b,off,none⟩))) (hy:ev? L y = some (.int ik z)) (hq:0 ≤ z ∧ z.toNat < m) (hd:Nat.ble (d + 1) n = true)
  (k:H P base n ((d,.pointer (some ⟨b,off + z.toNat * sz,none⟩))::L) f A (.ops l rest q)):H P base n L f A (.ops l (⟨some d,.indexAddr t x y,ty,pos,af,gd⟩::rest) q):=
 H.Am hw hx hy (by omega) hq.2 hd k
theorem HQ.index_arrT [hu:Und P t (.array m e)] [hs:Siz P e sz] (hw:want? l L gd = true)
  (hx:ev? L x = some (.pointer (some ⟨b,off,none⟩))) (hy:ev? L y = some (.int ik z)) (hq:0 ≤ z ∧ z.toNat < m) (hd:Nat.ble (d + 1) n = true) {lst:Lst}
  (k:HQ V ⟨lst.setIfInBounds ti true,tt⟩ P base n ((d,.pointer (some ⟨b,off + z.toNat * sz,none⟩))::L) f A (.ops l rest q)):HQ V ⟨lst,(ti,false)::tt⟩ P base n L f A (.ops l (⟨some d,.indexAddr t x y,ty,pos,af,gd⟩::rest) q):=
 HQ.Am hw hx hy (by omega) hq.2 hd k
theorem H.Aw {fn:Func} {R:Value→Frag→List HP→Prop} {t:Nat} {dd:TypeDesc} [hu:Und P ty dd] [hs:Siz P ty m] (hr:fn.results = #[.cell t ty]) (hv:look? L t = some (.pointer (some ⟨b,off,none⟩))) (ha:aggD dd = true)
  (hrd:Rd f A b off ls) (hm:ls.length = m) (hA:∀ w,Sat base w f A→Sat base w f A') (h:R (.agg ls.toArray) f A') (hmk:mk? L = none:=by exact rfl):H P base n L f A (.out .ret (.fn (FnPost P fn base R))):=.mk fun a w hf s=>by
 show bodyPost P fn (fun e w'=>∃ v f' A',e = .returned v ∧ R v f' A' ∧ Sat base w' f' A') .ret a w
 refine bodyPost_ret (v:=.agg ls.toArray) ?_ (hf.bare hmk) ⟨_,f,A',rfl,h,hA w s⟩
 have h1:=hf.get t _ hv
 have h2:a.tmps.getD t undef = .pointer (some ⟨b,off,none⟩):=by simp [Array.getD_eq_getD_getElem?,h1]
 have h3:=run_loadAtN (P:=P) hu ha hs (hrd base w s) hm
 unfold Instr.loadAt Instr.sureAddr at h3
 exact results_cell hr h2 (by simpa using h3)
theorem H.callVE {v:α→Value} {Ai:α→List HP} (hx:ev? L x = some (.func (.func fid) fs.toArray cs.toArray)) [hfun:Fun P fid] (hw:want? l L gd = true) (hd:Nat.ble (d + 1) n = true)
  (hxs:evs? L xs = some vs) (hc:Fn P fid (fs ++ vs ++ cs) f A (RetE v f' Ai)) (k:∀ i,H P base n ((d,v i)::L) f' (Ai i) (.ops l rest q)) :
  H P base n L f A (.ops l (⟨some d,.call ⟨.value x,xs.toArray,ats⟩,ty,pos,af,gd⟩::rest) q):=
 H.callV hx hw hd hxs hc fun _ _ _ h=>by obtain ⟨i,rfl,rfl,rfl⟩:=h;exact k i
theorem H.callVE2 {β:Type} {v:α→β→Value} {Ai:α→β→List HP} (hx:ev? L x = some (.func (.func fid) fs.toArray cs.toArray)) [hfun:Fun P fid] (hw:want? l L gd = true) (hd:Nat.ble (d + 1) n = true)
  (hxs:evs? L xs = some vs) (hc:Fn P fid (fs ++ vs ++ cs) f A (fun u g B=>∃ i j,u = v i j ∧ g = f' ∧ B = Ai i j)) (k:∀ i j,H P base n ((d,v i j)::L) f' (Ai i j) (.ops l rest q)) :
  H P base n L f A (.ops l (⟨some d,.call ⟨.value x,xs.toArray,ats⟩,ty,pos,af,gd⟩::rest) q):=
 H.callV hx hw hd hxs hc fun _ _ _ h=>by obtain ⟨i,j,rfl,rfl,rfl⟩:=h;exact k i j
end rules
def qz:List Nat→List (Nat × Bool)
 | []=>[]
 | i::r=>(i,false)::qz r
variable {P:Program} {n fuel:Nat} {L:Env} {q:Post} {listed:Array Bool} {l:List Oper}
theorem HB.qu {cut:Array Bool} (is:List Nat) (left:Nat) (k:HQ V ⟨⟨listed,cut,left,true⟩,qz is⟩ P base n L f S (.ops l (pickOps l (qz is)) q)) (hn:(ordOK l.toArray ⟨listed,cut,left,true⟩ (qz is) && (qz is).all (fun t=>(getO l t.1).isSome) && Nat.beq fuel ((qz is).length + left)) = true:=by kernel_rfl):HB S V cut listed fuel P base n L f (.ops l [] q):=HB.quiet (qz is) left hn k
theorem HB.ev {cut:Array Bool} (i:Nat) (k:H P base n L f (S ++ V) (.ops l [o] (.fn (bPost P base f S cut (listed.setIfInBounds i true) fuel l q)))) (hr:oneB l cut listed [i] = true:=by kernel_rfl) (ho:getO l i = some o:=by exact rfl):HB S V cut listed (fuel + 1) P base n L f (.ops l [] q):=HB.ev1 hr ho k
theorem HB.dn {cut:Array Bool} (k:H P base n L f (S ++ V) (.out .normal q)) (h0:(Nat.beq fuel 0 && Region.ready .any l.toArray listed == []) = true:=by kernel_rfl):HB S V cut listed fuel P base n L f (.ops l [] q):=HB.done h0 k
theorem H.db (hB:B = S ++ V) (k:HB S V #[] (Array.replicate l.length false) l.length P base n L f (.ops l [] q)) (hm:P.follows .mixedOrders = true:=by kernel_rfl) (hn:Region.noSelect l.toArray = true:=by decide +kernel) (hb:q.blind P:=by with_reducible (repeat (first | exact zac | refine zab ?_ | refine zak ?_ | refine zap ?_))):H P base n L f B (.code (.region id l.toArray true) q):=H.drawB hm hn hb hB k
theorem H.dc (upto:List Nat) (hB:B = S ++ V) (k:HB S V (upto.foldl (fun a i=>a.setIfInBounds i true) (Array.replicate l.length false)) (Array.replicate l.length false) l.length P base n L f (.ops l [] q)) (hm:P.follows .mixedOrders = true:=by kernel_rfl) (hn:Region.noSelect l.toArray = true:=by decide +kernel) (hb:q.blind P:=by with_reducible (repeat (first | exact zac | refine zab ?_ | refine zak ?_ | refine zap ?_))):H P base n L f B (.code (.region id l.toArray true) q):=H.drawC upto hm hn hb hB k
theorem HB.nx {cut:Array Bool} (upto:List Nat) (hB:S ++ V = S' ++ V') (k:HB S' V' (match upto with | []=>#[] | _=>upto.foldl (fun a i=>a.setIfInBounds i true) listed) listed fuel P base n L f (.ops l [] q)) (hc:(listed == cut && Nat.blt 0 fuel) = true:=by kernel_rfl):HB S V cut listed fuel P base n L f (.ops l [] q):=HB.next upto hc hB k
variable {a:List Value}
theorem fill_set {b:List Value} {i:Nat} (ha:a[i]? = some v) (hab:a.length = b.length):SetV (a.take i ++ b.drop i) i v (a.take (i + 1) ++ b.drop (i + 1)):=by
 induction i generalizing a b with
 | zero =>
  match a,b,ha,hab with
  | x :: a, y :: b, ha, _ =>
   simp at ha;subst ha;exact .here _ _ _
 | succ i ih =>
  match a,b,ha,hab with
  | x::a,y::b,ha,hab=>exact .there _ (ih (by simpa using ha) (by simpa using hab))
theorem fill_get {b:List Value} {i:Nat} (hj:j < i) (ha:a[j]? = some v):(a.take i ++ b.drop i)[j]? = some v:=by
 have:j < a.length:=by
  rcases Nat.lt_or_ge j a.length with h | h
  ·exact h
  ·simp [List.getElem?_eq_none h] at ha
 rw [List.getElem?_append_left (by rw [List.length_take];omega),List.getElem?_take,if_pos hj,ha]
theorem fill_get2 {b:List Value} {i:Nat} (hj:i ≤ j) (hab:a.length = b.length) (hb:b[j]? = some v):(a.take i ++ b.drop i)[j]? = some v:=by
 have:j < b.length:=by
  rcases Nat.lt_or_ge j b.length with h | h
  ·exact h
  ·simp [List.getElem?_eq_none h] at hb
 have e:(a.take i).length = i:=by rw [List.length_take];omega
 rw [List.getElem?_append_right (by omega),e,List.getElem?_drop,show i + (j - i) = j by omega,hb]
theorem map_get {l:List α} (g:α→Value) {i:Nat} (h:i < l.length) (z:α):(l.map g)[i]? = some (g (l.getD i z)):=by
 rw [List.getElem?_map,List.getElem?_eq_getElem h];simp [List.getD_eq_getElem?_getD,List.getElem?_eq_getElem h]
namespace Sha
theorem zbp (b:List UInt8):∀ n,(words b n).length = n
 | 0=>rfl
 | n + 1=>by simp [words,zbp b n]
theorem words_get (b:List UInt8):∀ (n i:Nat),i < n→(words b n).getD i 0 = word b i
 | 0,i,h=>by omega
 | n + 1, i, h => by
  simp only [words,List.getD_eq_getElem?_getD]
  by_cases e:i < n
  ·rw [List.getElem?_append_left (by rw [zbp];exact e),← List.getD_eq_getElem?_getD]
   exact words_get b n i e
  ·have:i = n:=by omega
   subst this
   rw [List.getElem?_append_right (by rw [zbp];exact Nat.le_refl _),zbp]
   simp
theorem ext_len (w:List UInt32):∀ n,(ext w n).length = w.length + n
 | 0=>rfl
 | n + 1=>by simp [ext,ext_len w n];omega
theorem ext_get (w:List UInt32) (n:Nat) {i:Nat} (h:i < w.length + n):∀ k,(ext w (n + k)).getD i 0 = (ext w n).getD i 0
 | 0=>rfl
 | k + 1 => by
  show (ext w (n + k) ++ _).getD i 0 = _
  rw [List.getD_eq_getElem?_getD,List.getElem?_append_left (by rw [ext_len];omega),← List.getD_eq_getElem?_getD]
  exact ext_get w n h k
theorem sched_len (b:List UInt8):(sched b).length = 64:=by unfold sched;rw [ext_len,zbp]
theorem sched_lo (b:List UInt8) {i:Nat} (h:i < 16):(sched b).getD i 0 = word b i:=by
 unfold sched
 have:=ext_get (words b 16) 0 (i:=i) (by rw [zbp];omega) 48;rw [Nat.zero_add] at this
 rw [this];exact words_get b 16 i h
theorem sched_hi (b:List UInt8) (h:j < 48):(sched b).getD (j + 16) 0 = (sched b).getD j 0 + s0 ((sched b).getD (j + 1) 0) + (sched b).getD (j + 9) 0 + s1 ((sched b).getD (j + 14) 0):=by
 have pre:∀ i,i < 16 + j→(sched b).getD i 0 = (ext (words b 16) j).getD i 0:=fun i hi=>by
  unfold sched
  have:=ext_get (words b 16) j (i:=i) (by rw [zbp];omega) (48 - j);rw [show j + (48 - j) = 48 by omega] at this
  exact this
 have top:(sched b).getD (j + 16) 0 = next (ext (words b 16) j):=by
  unfold sched
  have:=ext_get (words b 16) (j + 1) (i:=j + 16) (by rw [zbp];omega) (48 - (j + 1));rw [show j + 1 + (48 - (j + 1)) = 48 by omega] at this
  rw [this];show (ext (words b 16) j ++ [next (ext (words b 16) j)]).getD (j + 16) 0 = _;rw [List.getD_eq_getElem?_getD,List.getElem?_append_right (by rw [ext_len,zbp];omega),ext_len,zbp,show j + 16 - (16 + j) = 0 by omega];rfl
 rw [top,pre j (by omega),pre (j + 1) (by omega),pre (j + 9) (by omega),pre (j + 14) (by omega)];unfold next;rw [ext_len,zbp,show 16 + j - 16 = j by omega,show 16 + j - 15 = j + 1 by omega,show 16 + j - 7 = j + 9 by omega,show 16 + j - 2 = j + 14 by omega]
theorem S8.get_vals (s:S8) {i:Nat} (h:i < 8):s.vals[i]? = some (w32 (s.get i)):=by
 match i,h with
 | 0,_=>rfl
 | 1,_=>rfl
 | 2,_=>rfl
 | 3,_=>rfl
 | 4,_=>rfl
 | 5,_=>rfl
 | 6,_=>rfl
 | 7,_=>rfl
theorem S8.add_get (v s:S8) {i:Nat} (h:i < 8):(v.add s).get i = v.get i + s.get i:=by
 match i,h with
 | 0,_=>rfl
 | 1,_=>rfl
 | 2,_=>rfl
 | 3,_=>rfl
 | 4,_=>rfl
 | 5,_=>rfl
 | 6,_=>rfl
 | 7,_=>rfl
end Sha
theorem zbz {l:List UInt8} {i:Nat} (h:i < l.length):(bytesV l)[i]? = some (.int .u8 ((l.getD i 0).toNat:Nat)):=map_get _ h 0
section
variable (f:Frag) (F:List HP)
theorem rot_fn {x:UInt32} (h0:0 < n) (hn:n < 32):Fn Tryz.prog 214 [w32 x,.int .u64 (n:Nat)] f F (Ret (w32 (Sha.rot x n)) f F):=by
 have e:IntKind.u64.wrap (32 - (n:Int)) = ((32 - n:Nat):Int):=by rw [wr_u64 (by omega)];omega
 refine Fn.e2 Tryz.func214 Tryz.ntmps214 fun base=>?_;repeat (first | (apply H.ar;(iterate 4 exact rfl);exact e;exact rfl) | (refine gh ?_) | (apply H.Bq;(iterate 3 exact rfl);(first | exact u32_shl _ _ (by omega) | exact u32_shr _ _ (by omega));omega;(iterate 2 exact rfl)) | (apply H.Bg;(iterate 3 exact rfl);exact u32_or _ _;(iterate 2 exact rfl)))
 exact qap
theorem k_fn2:Fn Tryz.prog 215 [] f F (Ret (.agg (Sha.k.map w32).toArray) f F):=by
 refine Fn.e0 Tryz.func215 Tryz.ntmps215 fun base=>?_;refine gA ?_;refine H.Ah (ls:=List.replicate 64 (.int .u32 0)) rfl rfl rfl fun kb=>?_;refine gA ?_;refine H.buildA (out:=Sha.k.map w32) rfl rfl rfl rfl rfl ?_;refine qgj ?_;exact qae
theorem start_fn:Fn Tryz.prog 143 [] f F (Ret (.agg Sha.start.vals.toArray) f F):=by
 refine Fn.e0 Tryz.func143 Tryz.ntmps143 fun base=>?_;exact qbc
end
section
variable (f:Frag) (F:List HP)
def z64:List Value:=List.replicate 64 (w32 0)
theorem z64_len:z64.length = 64:=rfl
def wRow (S:List UInt32) (n:Nat):List Value:=(S.map w32).take n ++ z64.drop n
theorem wRow_set {S:List UInt32} (hS:S.length = 64) (h:n < 64):SetV (wRow S n) n (w32 (S.getD n 0)) (wRow S (n + 1)):=
 fill_set (map_get w32 (by rw [hS];exact h) 0) (by rw [List.length_map,hS];rfl)
theorem wRow_get {S:List UInt32} (hS:S.length = 64) (h:j < n) (hn:n ≤ 64):(wRow S n)[j]? = some (w32 (S.getD j 0)):=
 fill_get h (map_get w32 (by rw [hS];omega) 0)
def addRow (v s:Sha.S8) (n:Nat):List Value:=(v.add s).vals.take n ++ v.vals.drop n
theorem addRow_set (v s:Sha.S8) {i:Nat} (h:i < 8):SetV (addRow v s i) i (w32 (v.get i + s.get i)) (addRow v s (i + 1)):=by
 rw [← Sha.S8.add_get v s h];exact fill_set (Sha.S8.get_vals (v.add s) h) rfl
theorem addRow_get (v s:Sha.S8) {i:Nat} (h:i < 8):(addRow v s i)[i]? = some (w32 (v.get i)):=
 fill_get2 (Nat.le_refl _) rfl (Sha.S8.get_vals v h)
theorem block_fn {s:Sha.S8} (hb:bs.length = 64):Fn Tryz.prog 144 [.agg s.vals.toArray,.agg (bytesV bs).toArray] f F (Ret (.agg (Sha.block s bs).vals.toArray) f F):=by
 have hbl:(bytesV bs).length = 64:=by rw [zad,hb]
 have hlo:∀ i,i < 16→(Sha.sched bs).getD i 0 = Sha.word bs i:=fun i h=>Sha.sched_lo bs h;have hhi:∀ j,j < 48→(Sha.sched bs).getD (j + 16) 0 = (Sha.sched bs).getD j 0 + Sha.s0 ((Sha.sched bs).getD (j + 1) 0) + (Sha.sched bs).getD (j + 9) 0 + Sha.s1 ((Sha.sched bs).getD (j + 14) 0):=fun j h=>Sha.sched_hi bs h
 have hS:=Sha.sched_len bs;unfold Sha.block
 generalize Sha.sched bs = S at hlo hhi hS ⊢;refine Fn.e2 Tryz.func144 Tryz.ntmps144 fun base=>?_;refine gA ?_;refine H.box (ls:=s.vals) rfl rfl rfl rfl fun sb=>?_;refine H.box (ls:=bytesV bs) rfl rfl rfl rfl fun nb=>?_;refine qgH fun ob=>?_;refine gA ?_;refine H.Ah (ls:=wRow S 0) rfl rfl rfl fun wb=>?_;refine gZ ?_;refine H.pf (x:=row nb _ _) ?_
 refine H.lo (ι:=Nat) (fun i=>[(6,.int .i64 (i:Int)),(2,.pointer (some ⟨sb,0,none⟩)),(3,.pointer (some ⟨nb,0,none⟩)),(4,.pointer (some ⟨ob,0,none⟩)),(5,.pointer (some ⟨wb,0,none⟩))]) (fun _=>f)
  (fun i=>row nb 248 (bytesV bs)::row wb 293 (wRow S i)::row ob 246 (List.replicate 8 (.int .u32 0))::row sb 246 s.vals::F) (fun i=>i ≤ 16) (fun i=>16 - i) 0 (Nat.zero_le _) fun i hi=>?_
 have hi:i ≤ 16:=hi;by_cases hlt:i < 16
 ·have hw:S.getD i 0 = Sha.word bs i:=hlo i hlt;have hset:=wRow_set hS (n:=i) (by omega)
  rw [hw] at hset;unfold Sha.word at hset;refine gI ?_;refine qdC ?_;refine HB.qu [0,1,2,3,4,5,6,7,8,9,10,11,12,13,14,15,16,17,18,19,20,21,22,23,24,25,26,27,28,29,30] 1 ?_;repeat (first | (apply HQ.Bl;(iterate 2 exact rfl);(with_reducible exact u32_ofByte _);exact rfl) | (apply HQ.Am (i:=4 * i);(iterate 3 exact rfl);omega;omega;exact rfl) | (apply HQ.Am (i:=4 * i + 1);(iterate 3 exact rfl);omega;omega;exact rfl) | (apply HQ.Am (i:=4 * i + 2);(iterate 3 exact rfl);omega;omega;exact rfl) | (apply HQ.Am (i:=4 * i + 3);(iterate 3 exact rfl);omega;omega;exact rfl) | (apply HQ.Ab;(iterate 3 exact rfl);exact .of (Rd.ofRow (by repeat constructor)) (by rw [Nat.mul_one];exact zbz (by omega));exact rfl) | (refine gi ?_) | (apply HQ.Bg;(iterate 3 exact rfl);(with_reducible exact u32_or _ _);(iterate 2 exact rfl)) | (apply HQ.Bq;(iterate 3 exact rfl);(first | with_reducible exact u32_shl24 _ | with_reducible exact u32_shl16 _ | with_reducible exact u32_shl8 _);decide;(iterate 2 exact rfl)) | (apply HQ.Am (i:=i);(iterate 3 exact rfl);exact rfl;omega;exact rfl))
  refine qdg ?_;refine HB.ev 31 ?_;refine H.Az (v:=w32 _) (ls':=wRow S (i + 1)) rfl rfl rfl rfl (by repeat constructor) (by rw [Nat.mul_one,Nat.zero_add];exact hset) ?_;refine qdM ?_;refine gX ?_;exact H.ag (i + 1) (by show i + 1 ≤ 16;omega) (by show 16 - (i + 1) < 16 - i;omega)
 ·have hi16:i = 16:=by omega
  subst hi16;refine gV ?_;refine qew ?_
  refine H.lo (ι:=Nat) (fun j=>[(7,.int .i64 ((j + 16:Nat):Int)),(2,.pointer (some ⟨sb,0,none⟩)),(4,.pointer (some ⟨ob,0,none⟩)),(5,.pointer (some ⟨wb,0,none⟩))]) (fun _=>f)
   (fun j=>row wb 293 (wRow S (j + 16))::row nb 248 (bytesV bs)::row ob 246 (List.replicate 8 (.int .u32 0))::row sb 246 s.vals::F) (fun j=>j ≤ 48) (fun j=>48 - j) 0 (Nat.zero_le _) fun j hj=>?_
  have hj:j ≤ 48:=hj;by_cases hlt:j < 48
  ·have hw:=hhi j hlt;have hset:=wRow_set hS (n:=j + 16) (by omega)
   rw [hw] at hset;have hg:∀ k,k < j + 16→(wRow S (j + 16))[k * 1]? = some (w32 (S.getD k 0)):=fun k hk=>by rw [Nat.mul_one];exact wRow_get hS hk (by omega)
   refine gI ?_;refine qdC ?_;refine HB.qu [0,1,2,3,5,6,7,8,11,12,13,14,15] 5 ?_;repeat (first | (apply HQ.Am (i:=j + 1);(iterate 3 exact rfl);omega;omega;exact rfl) | (apply HQ.Ab;(iterate 3 exact rfl);exact .of (Rd.ofRow (by repeat constructor)) (hg _ (by omega));exact rfl) | (refine gi ?_) | (apply HQ.Bq;(iterate 3 exact rfl);(with_reducible exact u32_shr3 _);decide;(iterate 2 exact rfl)))
   refine qdg ?_;refine HB.ev 4 ?_;refine H.Ag rfl rfl rfl (rot_fn f _ (n:=7) (by decide) (by decide)) ?_;refine qcX ?_;refine HB.ev 9 ?_;refine H.Ag rfl rfl rfl (rot_fn f _ (n:=18) (by decide) (by decide)) ?_;refine qcX ?_;refine HB.qu [10,16,17] 0 ?_;refine qdR ?_;refine HB.dn ?_;refine qfX ?_;refine HB.qu [0,1,2,3,5,6,7,8,11,12,13,14,15] 5 ?_;repeat (first | (apply HQ.Am (i:=j + 14);(iterate 3 exact rfl);omega;omega;exact rfl) | (apply HQ.Ab;(iterate 3 exact rfl);exact .of (Rd.ofRow (by repeat constructor)) (hg _ (by omega));exact rfl) | (refine gi ?_) | (apply HQ.Bq;(iterate 3 exact rfl);(with_reducible exact u32_shr10 _);decide;(iterate 2 exact rfl)))
   refine qdg ?_;refine HB.ev 4 ?_;refine H.Ag rfl rfl rfl (rot_fn f _ (n:=17) (by decide) (by decide)) ?_;refine qcX ?_;refine HB.ev 9 ?_;refine H.Ag rfl rfl rfl (rot_fn f _ (n:=19) (by decide) (by decide)) ?_;refine qcX ?_;refine HB.qu [10,16,17] 0 ?_;refine qdR ?_;refine HB.dn ?_;refine gA ?_;refine H.dc [0,1,2,3,4,5,6,7,8,9,10,11,12,13,14] (S:=[_]) rfl ?_;refine HB.qu [0,1,2,3,4,5,6,7,8,9,10,11,12,13,14] 1 ?_;repeat (first | (apply HQ.Am (i:=j);(iterate 3 exact rfl);omega;omega;exact rfl) | (apply HQ.Am (i:=j + 9);(iterate 3 exact rfl);omega;omega;exact rfl) | (apply HQ.Ab;(iterate 3 exact rfl);exact .of (Rd.ofRow (by repeat constructor)) (hg _ (by omega));exact rfl) | (refine gi ?_) | (apply HQ.Am (i:=j + 16);(iterate 3 exact rfl);exact rfl;omega;exact rfl))
   refine qdv ?_;refine HB.ev 15 ?_;refine qgt ?_;exact H.Ax (j + 1) (by show j + 1 ≤ 48;omega) (by show 48 - (j + 1) < 48 - j;omega) ⟨by show some _ = some (Value.int .i64 ((j + 1 + 16:Nat):Int));rw [show j + 1 + 16 = j + 16 + 1 by omega],rfl,rfl,rfl,trivial⟩ rfl (by show _ = row wb _ (wRow S (j + 1 + 16))::_;rw [show j + 1 + 16 = j + 16 + 1 by omega];rfl)
  ·have hj48:j = 48:=by omega
   subst hj48;refine gV ?_;refine H.Ae (ls:=s.vals) rfl rfl rfl (Rd.ofRow (by repeat constructor)) rfl rfl ?_;refine qgH fun vb=>?_;refine H.Af (ls:=List.replicate 8 (.int .u32 0)) (vs:=s.vals) (ls':=s.vals) rfl rfl rfl (zaa rfl) rfl rfl (Nat.le_refl 8) (by repeat constructor) ?_;refine gA ?_;refine H.Ag rfl rfl rfl (k_fn2 f _) ?_;refine H.Ah (ls:=List.replicate 64 (.int .u32 0)) rfl rfl rfl fun kb=>?_;refine qgj ?_;have hgS:∀ k,k < 64→(wRow S (48 + 16))[k * 1]? = some (w32 (S.getD k 0)):=fun k hk=>by rw [Nat.mul_one];exact wRow_get hS (by omega) (by omega)
   have hgK:∀ k,k < 64→(Sha.k.map w32)[k * 1]? = some (w32 (Sha.k.getD k 0)):=fun k hk=>by rw [Nat.mul_one];exact map_get w32 hk 0
   generalize wRow S (48 + 16) = WL at hgS ⊢;generalize hKL:Sha.k.map w32 = KL at hgK ⊢;refine H.pd (x:=row nb _ _) ?_;refine H.pf (x:=row vb _ _) ?_
   refine H.lo (ι:=Nat) (fun i=>[(12,.int .i64 (i:Int)),(10,.pointer (some ⟨vb,0,none⟩)),(11,.pointer (some ⟨kb,0,none⟩)),(2,.pointer (some ⟨sb,0,none⟩)),(4,.pointer (some ⟨ob,0,none⟩)),(5,.pointer (some ⟨wb,0,none⟩))]) (fun _=>f)
    (fun i=>row vb 246 (Sha.rounds S s i).vals::row kb 293 KL::row wb 293 WL::row ob 246 (List.replicate 8 (.int .u32 0))::row sb 246 s.vals::F) (fun i=>i ≤ 64) (fun i=>64 - i) 0 (Nat.zero_le _) fun i hi=>?_
   have hi:i ≤ 64:=hi;by_cases hlt:i < 64
   ·have hr:Sha.rounds S s (i + 1) = Sha.round (Sha.k.getD i 0) (S.getD i 0) (Sha.rounds S s i):=rfl;have hgs:=hgS i hlt
    have hgk:=hgK i hlt;generalize Sha.k.getD i 0 = kk at hr hgk
    generalize S.getD i 0 = ww at hr hgs;show H _ _ _ _ _ (row vb _ (Sha.rounds S s i).vals::_) _;generalize Sha.rounds S s i = v at hr ⊢;repeat (first | (refine gh ?_) | (apply H.index_arrT;(iterate 3 exact rfl);decide;exact rfl))
    refine H.db (S:=[_,_,_]) rfl ?_;refine HB.qu [0,1,2,4,7,11,12,13,14,15,16,17,18,19,20,22,23,24,26,27,28] 10 ?_;repeat (first | (apply HQ.Am (i:=i);(iterate 3 exact rfl);exact rfl;exact hlt;exact rfl) | (apply HQ.Ab;(iterate 3 exact rfl);exact .of (Rd.ofRow (by repeat constructor)) hgk;exact rfl) | (apply HQ.Ab;(iterate 3 exact rfl);exact .of (Rd.ofRow (by repeat constructor)) hgs;exact rfl) | (refine gi ?_) | (apply HQ.Bg;(iterate 3 exact rfl);(first | with_reducible exact zbm _ _ | with_reducible exact u32_and _ _);(iterate 2 exact rfl)) | (apply HQ.flip;(iterate 2 exact rfl);exact u32_not _;(iterate 2 exact rfl)) | (apply HQ.index_arrT;(iterate 3 exact rfl);decide;exact rfl))
    refine qdg ?_;refine HB.ev 3 ?_;refine H.Ag rfl rfl rfl (rot_fn f _ (n:=6) (by decide) (by decide)) ?_;refine qcX ?_;refine HB.ev 5 ?_;refine H.Ag rfl rfl rfl (rot_fn f _ (n:=11) (by decide) (by decide)) ?_;refine qcX ?_;refine HB.qu [6] 7 ?_;refine qfF ?_;refine HB.ev 8 ?_;refine H.Ag rfl rfl rfl (rot_fn f _ (n:=25) (by decide) (by decide)) ?_;refine qcX ?_;refine HB.qu [9,10,21,25,29,30] 0 ?_;refine qdR ?_;refine HB.dn ?_;refine gA ?_;refine H.db (S:=[_,_,_]) rfl ?_;refine HB.qu [0,2,5,8,9,10,11,12,13,14,15,16,17,18,19,20,21,22] 7 ?_;repeat (first | (refine gi ?_) | (apply HQ.Bg;(iterate 3 exact rfl);(first | with_reducible exact zbm _ _ | with_reducible exact u32_and _ _);(iterate 2 exact rfl)) | (apply HQ.index_arrT;(iterate 3 exact rfl);decide;exact rfl))
    refine qdg ?_;refine HB.ev 1 ?_;refine H.Ag rfl rfl rfl (rot_fn f _ (n:=2) (by decide) (by decide)) ?_;refine qcX ?_;refine HB.ev 3 ?_;refine H.Ag rfl rfl rfl (rot_fn f _ (n:=13) (by decide) (by decide)) ?_;refine qcX ?_;refine HB.qu [4] 4 ?_;refine qfF ?_;refine HB.ev 6 ?_;refine H.Ag rfl rfl rfl (rot_fn f _ (n:=22) (by decide) (by decide)) ?_;refine qcX ?_;refine HB.qu [7,23,24] 0 ?_;refine qdR ?_;refine HB.dn ?_;repeat (first | (refine gh ?_) | (apply H.index_arrT;(iterate 3 exact rfl);decide;exact rfl))
    refine H.buildA (out:=(Sha.round kk ww v).vals) rfl rfl rfl rfl rfl ?_;refine H.Af (ls:=v.vals) (vs:=(Sha.round kk ww v).vals) (ls':=(Sha.round kk ww v).vals) rfl rfl rfl (zaa rfl) rfl rfl (Nat.le_refl 8) (by repeat constructor) ?_;refine gX ?_;exact H.Ax (i + 1) (by show i + 1 ≤ 64;omega) (by show 64 - (i + 1) < 64 - i;omega) ⟨rfl,rfl,rfl,rfl,rfl,rfl,trivial⟩ rfl (by rw [hr];rfl)
   ·have hi64:i = 64:=by omega
    subst hi64;generalize Sha.rounds S s 64 = v;refine gV ?_;refine H.pd (x:=row kb _ _) ?_;refine H.pd (x:=row wb _ _) ?_;refine H.pf (x:=row sb _ _) ?_;refine H.pf (x:=row vb _ _) ?_
    refine H.lo (ι:=Nat) (fun i=>[(17,.int .i64 (i:Int)),(10,.pointer (some ⟨vb,0,none⟩)),(2,.pointer (some ⟨sb,0,none⟩)),(4,.pointer (some ⟨ob,0,none⟩))]) (fun _=>f)
     (fun i=>row vb 246 (addRow v s i)::row sb 246 s.vals::row ob 246 (List.replicate 8 (.int .u32 0))::F) (fun i=>i ≤ 8) (fun i=>8 - i) 0 (Nat.zero_le _) fun i hi=>?_
    have hi:i ≤ 8:=hi;by_cases hlt:i < 8
    ·have hset:=addRow_set v s hlt;have hg:=addRow_get v s hlt
     have hg2:=Sha.S8.get_vals s hlt;show H _ _ _ _ _ (row vb _ (addRow v s i)::_) _
     refine gI ?_;refine H.dc [0,1,2,3,4,5,6,7,8] (S:=[_,_]) rfl ?_;refine HB.qu [0,1,2,3,4,5,6,7,8] 1 ?_;repeat (first | (apply HQ.Am (i:=i);(iterate 3 exact rfl);exact rfl;exact hlt;exact rfl) | (apply HQ.Ab;(iterate 3 exact rfl);exact .of (Rd.ofRow (by repeat constructor)) (by rw [Nat.mul_one];exact hg);exact rfl) | (apply HQ.Ab;(iterate 3 exact rfl);exact .of (Rd.ofRow (by repeat constructor)) (by rw [Nat.mul_one];exact hg2);exact rfl) | (refine gi ?_))
     refine qdv ?_;refine HB.ev 9 ?_;refine H.Az (v:=w32 _) (ls':=addRow v s (i + 1)) rfl rfl rfl rfl (by repeat constructor) (by rw [Nat.mul_one,Nat.zero_add];exact hset) ?_;refine qdM ?_;refine gX ?_;exact qbR
    ·have hi8:i = 8:=by omega
     subst hi8;refine qeX ?_;refine H.pd (x:=row vb _ _) ?_;refine H.pd (x:=row sb _ _) ?_;exact qae
end
end Go.Proofs.YtminmjlfmolfeaaGreatDoor

namespace Go.Proofs.YtminmjlfmolfeaaGreatDoor
open Go Go.ChangeShapes Go.WideShapes Go.RowKit Go.Deep
def memOf (W:World):Frag:=fun k=>W.heap[k]?
theorem sat_start (W:World):Sat W W (memOf W) []:=
 ⟨rfl,rfl,rfl,Nat.le_refl _,fun _ _ h=>h,nil0,rfl,Dj.nil _,fun k o h=>by cases h⟩
variable {W:World} {A:List HP}
theorem Sat.below {w:World} (s:Sat W w (memOf W) A):Below W.heap.size W w:=
 ⟨s.os, s.tape, s.output, s.size, fun k hk => by
  have e:W.heap[k]? = some W.heap[k]:=Array.getElem?_eq_getElem hk
  rw [e];exact s.imm k _ e⟩
variable {fn:Func} {s:ChangeSpec} {apart handsOn again:Bool} {v:Value}
section
variable {H':Type} {enc:TypeId × Value→H'} {P:Program}
theorem trodAll_below {W W':World} (hl:laidOutB P = true) (hb:Below W.heap.size W W') {sp:Nat→Bool}:∀ {ts:List TypeId} {vs:List Value} {ds:List (DataW H')} {ps:List MemPlace},
  (∀ t ∈ ts,P.readableRec t = true ∧ t < P.types.size)→DataW.TrodAll enc P W 0 (fun _=>true) true ts vs ds ps→(∀ x ∈ ps,x.block < W.heap.size)→(∀ x ∈ ps,sp x.block = true) →
  DataW.TrodAll enc P W' 0 sp true ts vs ds ps
 | [],[],[],_,_,h,_,_=>h
 | t :: ts, v :: vs, d :: ds, ps, hr, h, hlt, hsp => by
  obtain ⟨p,q,h1,h2,rfl⟩:=h
  exact ⟨p,q,WideElems.Trod_stays hl (hr t (by simp)).1 (hr t (by simp)).2 h1 (fun x hx=>hb.same (hlt x (by simp [hx]))) (fun x hx=>hsp x (by simp [hx])),
   trodAll_below hl hb (fun u hu=>hr u (by simp [hu])) h2 (fun x hx=>hlt x (by simp [hx])) (fun x hx=>hsp x (by simp [hx])),rfl⟩
theorem trodAll_len {W:World} {b:Nat} {sp:Nat→Bool} {hd:Bool}:∀ {ts:List TypeId} {vs:List Value} {ds:List (DataW H')} {ps:List MemPlace},DataW.TrodAll enc P W b sp hd ts vs ds ps→ds.length = ts.length
 | [],[],[],_,_=>rfl
 | _ :: _, _ :: _, _ :: _, _, h => by
  obtain ⟨p,q,h1,h2,rfl⟩:=h
  simp [trodAll_len h2]
theorem post_own {fresh:Bool} {W':World} {args:Array Value} {ds:List (DataW H')} {p:List MemPlace}
  (hW:DataW.Whole enc P fn.params.toList s.vars apart W args.toList ds [] p) (hv:s.vars = [])
  (hA:DataW.TrodAll enc P W 0 (fun _=>true) true fn.params.toList args.toList ds p)
  (hl:laidOutB P = true) (hts:∀ t ∈ fn.params.toList,P.readableRec t = true ∧ t < P.types.size)
  (hres:∀ (b:Nat) (sp:Nat→Bool) (hd:Bool),DataW.TrodAll enc P W' b sp hd fn.resultTypes.toList (v.resultList fn.resultTypes.size) (s.fn H' (ds ++ [])).results [])
  (hargs:(s.fn H' (ds ++ [])).args = ds) (hvars:(s.fn H' (ds ++ [])).vars = [])
  (hb:Below W.heap.size W W')
  (hok:∀ (j:Nat) (t:TypeId) (r:Value),fn.resultTypes[j]? = some t→(v.resultList fn.resultTypes.size)[j]? = some r→Value.okWide P W' .any 0 t r) :
  s.post enc P fn apart fresh handsOn again W args v W':=by
 have hlt:=hW.lt;have hold:∀ x ∈ p,(fun b=>decide (b < W.heap.size)) x.block = true:=fun x hx=>by simpa using hlt x hx
 have args':∀ sp:Nat→Bool,(∀ x ∈ p,sp x.block = true)→DataW.TrodAll enc P W' 0 sp true fn.params.toList args.toList (s.fn H' (ds ++ [])).args p:=fun sp hsp=>by
  rw [hargs];exact trodAll_below hl hb hts hA hlt hsp
 have vars':∀ sp:Nat→Bool,DataW.TrodVars enc P W' sp s.vars (s.fn H' (ds ++ [])).vars []:=fun sp=>by rw [hvars,hv];exact rfl
 refine ⟨ds,[],p,[],p,[],hW,hres _ _ _,args' _ hold,vars' _,World.keptBut_mono (fun x hx=>⟨hx,?_⟩) (hb.frame (· ∈ p)),fun _=>?_⟩
 ·exact .inr (by simpa using hx)
 ·obtain ⟨_,_,_,_,_,hz,hn⟩:=hW;refine ⟨hok,_,_,([] ++ p) ++ [],⟨[] ++ p,[],trodAll_append (args' _ (fun _ _=>rfl)) (hres _ _ _),vars' _,rfl,?_,?_⟩,?_⟩
  ·intro b off hp;have hp':MemPlace.cell b off ∈ p:=by simpa using hp
   rw [hb.frozen (p:=⟨b,off,none⟩) (hlt _ hp')];exact hz b off hp'
  ·intro ha
   have:=hn ha;simpa using this
  ·intro x hx _;simpa using hx
end
/-! ### Arguments: what their cells are -/
def Reads (P:Program) (W:World) (t:TypeId) (cs:List Value):Prop:=
 ∃ (H':Type) (enc:TypeId × Value→H') (base:Nat) (spare:Nat→Bool) (held:Bool) (fuel:Nat) (x:DataW H' × List MemPlace),DataW.trod enc P W base spare held fuel t cs = some x
def ArgOk (P:Program) (W:World) (t:TypeId) (v:Value):Prop:=(∃ b,Value.okWide P W .any b t v) ∧ Reads P W t v.cells.toList
def ArgsOk (P:Program) (W:World):List TypeId→List Value→Prop
 | [],[]=>True
 | t::ts,v::vs=>ArgOk P W t v ∧ ArgsOk P W ts vs
 | _,_=>False
theorem argsOk_of {H':Type} {enc:TypeId × Value→H'} {P:Program} {W:World} {b:Nat} {sp:Nat→Bool} {hd:Bool}:∀ {ts:List TypeId} {vs:List Value} {ds:List (DataW H')} {ps:List MemPlace},
  DataW.TrodAll enc P W b sp hd ts vs ds ps→(∀ (j:Nat) t v,ts[j]? = some t→vs[j]? = some v→∃ b,Value.okWide P W .any b t v)→ArgsOk P W ts vs
 | [],[],[],_,_,_=>trivial
 | t :: ts, v :: vs, d :: ds, _, h, hv => by
  obtain ⟨p,q,⟨n,h1⟩,h2,rfl⟩:=h
  exact ⟨⟨hv 0 t v rfl rfl,H',enc,b,sp,hd,n,_,h1⟩,argsOk_of h2 fun j t v=>hv (j + 1) t v⟩
variable {z:Int}
theorem wf_int {k:IntKind} (h:(Lit.int k z).wf = true):k.min ≤ z ∧ z ≤ k.max:=by
 simpa [Lit.wf] using h
variable {P:Program} {t:TypeId} {cs:List Value}
theorem Reads.int {k:IntKind} (ht:P.underlying t = some (.int k)) (h:Reads P W t cs):∃ z,cs = [.int k z] ∧ k.min ≤ z ∧ z ≤ k.max:=by
 obtain ⟨H',enc,b,sp,hd,n,x,h⟩:=h;obtain ⟨z,h1,_,h2⟩:=DataW.trod_int ht h;exact ⟨z,h1,wf_int h2⟩
theorem ArgOk.int {P:Program} {W:World} {t:TypeId} {v:Value} {k:IntKind} (ht:P.underlying t = some (.int k)) (h:ArgOk P W t v):∃ z,v = .int k z ∧ k.min ≤ z ∧ z ≤ k.max:=by
 obtain ⟨⟨b,h1⟩,h2⟩:=h;obtain ⟨z,rfl⟩:=okWide_int ht h1;obtain ⟨z',e,h3⟩:=h2.int ht;simp [Value.cells] at e;subst e;exact ⟨z,rfl,h3⟩
theorem Reads.struct {fs:Array Field} (ht:P.underlying t = some (.struct fs)) (h:Reads P W t cs) :
  cs.length = P.cellsOf t ∧ ∀ (i:Nat) (f:Field),fs[i]? = some f→Reads P W f.type ((cs.drop f.offset).take (P.cellsOf f.type)):=by
 obtain ⟨H',enc,b,sp,hd,n,x,h⟩:=h;obtain ⟨xs,n,rfl,_,h1,h2,h3⟩:=DataW.trod_struct ht h;refine ⟨h1,fun i f hf=>?_⟩;have hi:i < xs.length:=by rw [h2];exact (Array.getElem?_eq_some_iff.1 hf).1
 exact ⟨H',enc,b,sp,hd,n,xs[i],(h3 i f hf).trans (List.getElem?_eq_getElem hi)⟩
def ElemsAt (f:Frag) (p:Option Addr) (sz n:Nat) (g:Nat→List Value):Prop:=
 ∀ i,i < n→(g i).length = sz ∧ ∃ b off cs T fr,p = some ⟨b,off,none⟩ ∧ f b = some (.cells cs T fr) ∧ ∀ j,j < sz→cs[off + i * sz + j]? = (g i)[j]?
theorem add_add' (a:Addr) (i j:Nat):(a.add i).add j = a.add (i + j):=by
 unfold Addr.add;by_cases h:i = 0
 ·subst h;simp
 ·by_cases h2:j = 0
  ·subst h2;simp
  ·have:¬ i + j = 0:=by omega
   simp [h,h2,this,Nat.add_assoc]
theorem cell_spot {a:Addr} (h:W.cell? a = some v):∃ cs T fr,a = ⟨a.block,a.off,none⟩ ∧ W.heap[a.block]? = some (.cells cs T fr) ∧ cs[a.off]? = some v:=by
 unfold World.cell? at h;split at h
 ·rename_i c T fr e
  split at h
  ·cases h
  ·rename_i hs
   refine ⟨c,T,fr,?_,e,h⟩;obtain ⟨b,o,s⟩:=a
   cases s with
   | none=>rfl
   | some x=>simp at hs
 ·cases h
variable {e:TypeId}
theorem Reads.slice (ht:P.underlying t = some (.slice e)) (h0:0 < P.cellsOf e) (h:Reads P W t cs) :
  ∃ (p:Option Addr) (n c:Nat) (g:Nat→List Value),cs = [.slice p n c] ∧ n ≤ c ∧ c ≤ maxLen ∧ ElemsAt (memOf W) p (P.cellsOf e) n g ∧ ∀ i,i < n→Reads P W e (g i):=by
 obtain ⟨H',enc,b,sp,hd,n,x,h⟩:=h;rcases open_slice ht h with ⟨rfl,_⟩ | ⟨a,len,cap,m,k,D,Pl,rfl,hb,hl,hm,hmm,_,hi⟩
 ·exact ⟨none,0,0,fun _=>[],rfl,Nat.le_refl _,by simp [maxLen],fun i hi=>by omega,fun i hi=>by omega⟩
 ·have hlm:len ≤ m:=by subst hmm;split <;> omega
  have hi':∀ i,∃ cs',i < len→(W.cells? b (a.add (i * P.cellsOf e)) (P.cellsOf e) = some cs' ∧ Reads P W e cs'):=fun i=>by
   by_cases hil:i < len
   ·obtain ⟨cs',h1,h2⟩:=hi i (by omega);exact ⟨cs',fun _=>⟨h1,H',enc,b,sp,hd,k,_,h2⟩⟩
   ·exact ⟨[],fun h=>absurd h hil⟩
  obtain ⟨g, hG⟩ : ∃ g : Nat → List Value, ∀ i, i < len → W.cells? b (a.add (i * P.cellsOf e)) (P.cellsOf e) = some (g i) ∧ Reads P W e (g i) := ⟨fun i => (hi' i).choose, fun i h => (hi' i).choose_spec h⟩;refine ⟨some a, len, cap, g, rfl, hl, hm, fun i hil => ?_, fun i hil => (hG i hil).2⟩;obtain ⟨_, hlen, hget⟩ := World.cells?_some (hG i hil).1;refine ⟨hlen, ?_⟩;-- the base address bears no spot
  have hspot:∃ cs T fr,a = ⟨a.block,a.off,none⟩ ∧ W.heap[a.block]? = some (.cells cs T fr):=by
   obtain ⟨_,hl0,hg0⟩:=World.cells?_some (hG 0 (by omega)).1;have h00:=hg0 0 h0;have:(g 0)[0]? = some ((g 0)[0]'(by omega)):=List.getElem?_eq_getElem (by omega)
   rw [this] at h00;have e1:(a.add (0 * P.cellsOf e)).add 0 = a:=by simp [Addr.add]
   rw [e1] at h00;obtain ⟨cs,T,fr,h1,h2,_⟩:=cell_spot h00;exact ⟨cs,T,fr,h1,h2⟩
  obtain ⟨cs,T,fr,hs,hh⟩:=hspot;refine ⟨a.block,a.off,cs,T,fr,by rw [← hs],hh,fun j hj=>?_⟩;have hg:=hget j hj;have hv:(g i)[j]? = some ((g i)[j]'(by omega)):=List.getElem?_eq_getElem (by omega)
  rw [hv] at hg
  have ha:(a.add (i * P.cellsOf e)).add j = ⟨a.block,a.off + (i * P.cellsOf e + j),none⟩:=by
   rw [add_add',hs,zbb]
  rw [ha] at hg;simp only [World.cell?,hh,Option.isSome_none,Bool.false_eq_true,if_false] at hg;rw [hv,← hg,Nat.add_assoc]
theorem elems_list {α:Type} {vals:α→List Value} {Q:α→Prop} {g:Nat→List Value}:∀ {n:Nat},(∀ i,i < n→∃ x,Q x ∧ g i = vals x)→∃ xs:List α,xs.length = n ∧ (∀ x ∈ xs,Q x) ∧ ∀ i x,xs[i]? = some x→g i = vals x
 | 0,_=>⟨[],rfl,by simp,by simp⟩
 | n + 1, h => by
  obtain ⟨xs,h1,h2,h3⟩:=elems_list (n:=n) fun i hi=>h i (by omega)
  obtain ⟨x,hq,hx⟩:=h n (by omega)
  refine ⟨xs ++ [x],by simp [h1],?_,?_⟩
  ·intro y hy
   simp only [List.mem_append,List.mem_singleton] at hy
   rcases hy with hy | rfl
   ·exact h2 y hy
   ·exact hq
  ·intro i y hy
   rw [List.getElem?_append] at hy
   split at hy
   ·exact h3 i y hy
   ·rename_i hi
    have:i - xs.length = 0:=by
     rcases Nat.eq_zero_or_pos (i - xs.length) with h | h
     ·exact h
     ·rw [List.getElem?_eq_none (by simp;omega)] at hy;cases hy
    rw [this] at hy
    have e:i = n:=by omega
    simp at hy
    subst hy;subst e
    exact hx
def ListAt {α:Type} (f:Frag) (p:Option Addr) (sz:Nat) (vals:α→List Value) (xs:List α):Prop:=
 ∀ i x,xs[i]? = some x→∃ b off cs T fr,p = some ⟨b,off,none⟩ ∧ f b = some (.cells cs T fr) ∧ ∀ j,j < (vals x).length→cs[off + i * sz + j]? = (vals x)[j]?
theorem Reads.list {α:Type} {vals:α→List Value} {Q:α→Prop} {sz:Nat} (ht:P.underlying t = some (.slice e)) (hsz:P.cellsOf e = sz) (h0:0 < sz)
  (hr:∀ cs,Reads P W e cs→∃ x,Q x ∧ cs = vals x) (h:Reads P W t cs) :
  ∃ (p:Option Addr) (c:Nat) (xs:List α),cs = [.slice p xs.length c] ∧ xs.length ≤ c ∧ c ≤ maxLen ∧ (∀ x ∈ xs,Q x) ∧ ListAt (memOf W) p sz vals xs:=by
 subst hsz;obtain ⟨p,n,c,g,e1,h1,h2,h3,h4⟩:=h.slice ht h0;obtain ⟨xs,rfl,hq,hg⟩:=elems_list fun i hi=>hr _ (h4 i hi);refine ⟨p,c,xs,e1,h1,h2,hq,fun i x hx=>?_⟩
 have hi:i < xs.length:=by
  rcases Nat.lt_or_ge i xs.length with h | h
  ·exact h
  ·rw [List.getElem?_eq_none h] at hx;cases hx
 obtain ⟨hl,b,off,cs,T,fr,a1,a2,a3⟩:=h3 i hi;refine ⟨b,off,cs,T,fr,a1,a2,fun j hj=>?_⟩;rw [← hg i x hx] at hj ⊢;exact a3 j (by omega)
theorem ArgOk.list {P:Program} {W:World} {t e:TypeId} {v:Value} {α:Type} {vals:α→List Value} {Q:α→Prop} {sz:Nat} (ht:P.underlying t = some (.slice e)) (hsz:P.cellsOf e = sz) (h0:0 < sz)
  (hr:∀ cs,Reads P W e cs→∃ x,Q x ∧ cs = vals x) (h:ArgOk P W t v) :
  ∃ (p:Option Addr) (c:Nat) (xs:List α),v = .slice p xs.length c ∧ xs.length ≤ c ∧ c ≤ maxLen ∧ (∀ x ∈ xs,Q x) ∧ ListAt (memOf W) p sz vals xs:=by
 obtain ⟨⟨b,h1⟩,h2⟩:=h;obtain ⟨p,c,xs,e1,r⟩:=h2.list ht hsz h0 hr;refine ⟨p,c,xs,?_,r⟩;obtain ⟨p',n',c',rfl⟩:=okWide_slice ht h1;simpa [Value.cells] using e1
def IntsAt (f:Frag) (g:Nat) (k:IntKind) (zs:List Int):Prop:=∃ (cs:Array Value) (T:TypeId) (fr:Nat × Nat),f g = some (.cells cs T fr) ∧ ∀ (i:Nat) (z:Int),zs[i]? = some z→cs[i]? = some (.int k z)
variable {f:Frag} {g:Nat} {zs:List Int}
theorem IntsAt.mono {f':Frag} {k:IntKind} (hle:Le f f') (h:IntsAt f g k zs):IntsAt f' g k zs:=by
 obtain ⟨cs,T,fr,h1,h2⟩:=h;exact ⟨cs,T,fr,hle g _ h1,h2⟩
theorem IntsAt.rd {k:IntKind} (h:IntsAt f g k zs) {i:Nat} (hz:zs[i]? = some z):Rd1 f A g i (.int k z):=by
 obtain ⟨cs,T,fr,h1,h2⟩:=h;exact Rd1.imm h1 (h2 i z hz)
theorem laid_ints {name:String} {k:IntKind} (h:laidMetH P [(name,.agg (zs.map fun z=>.lit (.int k z)))] W)
  (hg:P.globalNamed name = some g) (ht:(P.globals[g]?).map (·.type) = some t) (hu:P.underlying t = some (.array zs.length e)) (he:P.underlying e = some (.int k)) (h1:P.cellsOf e = 1):IntsAt (memOf W) g k zs:=by
 rw [MakeChecks.laidMetH_plain _ _ _ rfl] at h;obtain ⟨ps,⟨g0,t0,cs0,f0,p0,q0,hg0,ht0,hv0,hd0,_,_⟩,_,_⟩:=h;obtain rfl:=Option.some.inj (hg.symm.trans hg0);obtain rfl:=Option.some.inj (ht.symm.trans ht0);obtain ⟨xs,m1,rfl,hx1,hlen,hn,hel⟩:=DataW.trod_array hu hd0;simp only [Prod.mk.injEq,DataW.agg.injEq] at hx1
 have hh:∃ T fr,W.heap[g]? = some (.cells cs0 T fr):=by
  simp only [World.var?,hg,Option.bind_some] at hv0;split at hv0
  ·rename_i cs T fr hw
   cases hv0
   exact ⟨T,fr,hw⟩
  ·cases hv0
 obtain ⟨T,fr,hw⟩:=hh;refine ⟨cs0,T,fr,hw,fun i z hz=>?_⟩;have hi:i < zs.length:=(List.getElem?_eq_some_iff.1 hz).1;have h2:=hel i hi
 have h3:(xs.map (·.1))[i]? = some (.lit (.int k z)):=by rw [← hx1.1,List.getElem?_map,hz];rfl
 rw [List.getElem?_map] at h3
 cases hxi:xs[i]? with
 | none=>rw [hxi] at h3;cases h3
 | some x =>
  rw [hxi] at h2 h3;simp only [Option.map_some,Option.some.injEq] at h3;obtain ⟨n,e1,e2,_⟩:=DataW.trod_int he h2;rw [h1,Nat.mul_one] at e1
  have hn:n = z:=by
   rw [e2] at h3;simpa using h3
  subst hn
  have h4:(cs0.toList.drop i)[0]? = some (.int k n):=by
   have:((cs0.toList.drop i).take 1)[0]? = some (.int k n):=by rw [e1];rfl
   rwa [List.getElem?_take_of_lt (by decide)] at this
  rw [List.getElem?_drop,Nat.add_zero] at h4;simpa using h4
theorem params_plain (h:(fn.params.toList.all fun t=>!P.wantsStandIn t) = true):∀ (j:Nat) t,fn.params[j]? = some t→P.wantsStandIn t = false:=fun j t ht=>by
 have:=List.all_eq_true.1 h t (Array.mem_toList_iff.2 (Array.mem_of_getElem? ht))
 simpa using this
theorem lawRowL {H':Type} {enc:TypeId × Value→H'} {a:Assume} {C:Checked} {os:Os} {fid:FuncId} {conds:List PathCond} {fresh:Bool} {tb:TypeId} {laid:List (String × DataW Unit)}
  (own:ownKnob C.prog.godebug = none) (started:os.Started) (noInit:C.prog.inits.idxOf? fid = none) (hfn:C.prog.funcs[fid]? = some fn)
  (witness : ∃ (w : World) (tape : Tape) (i : Input), w.os = os ∧ (w.forCall tape i).Shaped C.prog ∧ i.vars = [] ∧ Input.okWide C.prog (w.forCall tape i) .any w.heap.size fid i ∧
   ((s.pre enc C.prog fn conds apart (w.forCall tape i).memory i.args ∧ laidMetH C.prog laid (w.forCall tape i).memory) ∧ sizedMet enc C.prog fn (OpenSpec.ofChange s) apart (w.forCall tape i).memory i.args) ∧ a.holds C.prog (lone (Frame.enter C.prog fid i.args .normal) [] (w.forCall tape i)))
  (htb:C.prog.underlying tb = some .bool) (hres:fn.resultTypes = #[tb]) (hv:s.vars = []) (hl:laidOutB C.prog = true)
  (hts:fn.params.toList.all (fun t=>C.prog.readableRec t && Nat.blt t C.prog.types.size) = true)
  (hs:∀ ds:List (DataW H'),ds.length = fn.params.toList.length→s.fn H' ds = { results:=[.lit (.bool true)],args:=ds })
  (law:∀ (W:World) (args:List Value),ArgsOk C.prog W fn.params.toList args→laidMetH C.prog laid W→Fn C.prog fid args (memOf W) [] (Ret (.bool true) (memOf W) [])) :
  ReturnsInHanded a C os fid .any (fun w args=>(s.pre enc C.prog fn conds apart w args ∧ laidMetH C.prog laid w) ∧ sizedMet enc C.prog fn (OpenSpec.ofChange s) apart w args) (s.post enc C.prog fn apart fresh handsOn again):=by
 refine returnsInHanded_of_change_and (X:=fun w _=>laidMetH C.prog laid w) (fun _ _ _ hh h=>h.of_heap hh) own started noInit hfn witness ?_;intro W base args ds gs before hval hW _ _ hL _;have hW':=hW;obtain ⟨p,q,hA,hV,rfl,_,_⟩:=hW
 rw [hv] at hV;obtain ⟨rfl,rfl⟩:=trodVars_none hV;rw [List.append_nil] at hW'
 have hts':∀ t ∈ fn.params.toList,C.prog.readableRec t = true ∧ t < C.prog.types.size:=fun t ht=>by
  have:=List.all_eq_true.1 hts t ht;simp only [Bool.and_eq_true] at this
  exact ⟨this.1,by have:=this.2;simpa [Nat.blt_eq] using this⟩
 have hlen:=trodAll_len hA;have e:=hs ds hlen
 have hc:=law W args.toList (argsOk_of hA fun j t v h1 h2=>⟨base,hval j t v (by simpa using h1) (by simpa using h2)⟩) hL W W (sat_start W);refine hc.mono ?_
 rintro x w' ⟨v,f',A',rfl,⟨rfl,rfl,rfl⟩,hsat⟩;refine ⟨_,rfl,post_own hW' hv hA hl hts' ?_ (by rw [List.append_nil,e]) (by rw [List.append_nil,e]) hsat.below ?_⟩
 ·intro b sp hd;rw [List.append_nil,e,hres];exact trodAll_mk1 (shut_bool htb true)
 ·exact ok_one hres rfl (okWide_bool_mk htb true)
end Go.Proofs.YtminmjlfmolfeaaGreatDoor

namespace Go.Proofs.YtminmjlfmolfeaaGreatDoor
open Go
/-! ### Keys that are structs or arrays -/
variable {kt:TypeId}
section keys
variable {P:Program}
theorem offs_le {n : Nat} : ∀ (fs : List Field) (o : Nat), shp.offs P fs o n = true → o ≤ n ∧ ∀ f ∈ fs, f.name ≠ "_" ∧ f.offset + P.cellsOf f.type ≤ n
 | [], o, h => by
  have e:o = n:=Nat.eq_of_beq_eq_true h
  exact ⟨by omega,fun f hf=>by cases hf⟩
 | f :: fs, o, h => by
  simp only [shp.offs,Bool.and_eq_true,bne_iff_ne,ne_eq] at h
  obtain ⟨⟨hn,he⟩,hr⟩:=h
  have he':f.offset = o:=Nat.eq_of_beq_eq_true he
  subst he'
  obtain ⟨h1,h2⟩:=offs_le fs _ hr
  refine ⟨by omega,fun g hg=>?_⟩
  rcases List.mem_cons.1 hg with rfl | hg
  ·exact ⟨hn,h1⟩
  ·exact h2 g hg
theorem run_checkKey_shp (em:Bool) (w:World):∀ (d D:Nat) (t:TypeId) (xs:List Value),shp P D t xs = true→D ≤ d→(Instr.checkKey em d t (mkV P t xs)).run P w = .ok () w
 | 0, D, t, xs, h, hd => by
  have:D = 0:=by omega
  subst this
  simp [shp] at h
 | d + 1, D, t, xs, h, hd => by
  by_cases h1:∃ n e',P.underlying t = some (.array n e')
  ·obtain ⟨n,e,hu⟩:=h1
   obtain ⟨⟨i,hi⟩,l1,D1,rfl,s1⟩:=shp_len hu h
   have hm:mkV P t xs = .agg xs.toArray:=by simp [mkV,hu]
   rw [hm,Instr.checkKey]
   simp only [Sem.run_bind,run_underlying hu,Result.andThen_ok]
   simp only [Std.Legacy.Range.forIn_eq_forIn_range',Std.Legacy.Range.size,Nat.sub_zero,Nat.add_one_sub_one,Nat.div_one]
   have each:∀ j ∈ List.range' 0 n,j < n:=fun j hj=>by simp [List.mem_range'_1] at hj;omega
   generalize List.range' 0 n = is at each
   induction is with
   | nil=>simp
   | cons j is ih =>
    have hj:=each j (by simp)
    have hle:j * P.cellsOf e + P.cellsOf e ≤ xs.length:=by
     rw [l1]
     have:=Nat.mul_le_mul_right (P.cellsOf e) (show j + 1 ≤ n from hj);rwa [Nat.add_mul,Nat.one_mul] at this
    have p1:=zby w (s1 j hj) hle
    have p2:=run_checkKey_shp em w d D1 e _ (s1 j hj) (by omega)
    simp only [List.forIn_cons,Sem.run_bind,run_sizeOf w hi,Result.andThen_ok,p1,p2,Sem.run_pure]
    exact ih (fun y hy=>each y (by simp [hy]))
  ·by_cases h2 : ∃ fs, P.underlying t = some (.struct fs)
   ·obtain ⟨fs,hu⟩:=h2
    obtain ⟨n1,l1,o1,D1,rfl,s1⟩:=shp_str hu h
    have hm:mkV P t xs = .agg xs.toArray:=by simp [mkV,hu]
    rw [hm,Instr.checkKey]
    simp only [Sem.run_bind,run_underlying hu,Result.andThen_ok]
    rw [← Array.forIn_toList]
    have each:=(offs_le fs.toList 0 o1).2
    generalize fs.toList = L at each s1
    induction L with
    | nil=>simp
    | cons f L ih =>
     obtain ⟨hn,hle⟩:=each f (by simp)
     have p1:=zby w (s1 f (by simp)) hle
     have p2:=run_checkKey_shp em w d D1 f.type _ (s1 f (by simp)) (by omega)
     simp only [List.forIn_cons,Sem.run_bind,hn,ne_eq,not_false_eq_true,if_true,Result.andThen_ok,p1,p2,Sem.run_pure]
     exact ih (fun y hy=>each y (by simp [hy])) (fun y hy=>s1 y (by simp [hy]))
   ·obtain ⟨hpk,v,rfl,hmk,_⟩:=shp_plain h (fun n e hu=>h1 ⟨n,e,hu⟩) (fun fs hu=>h2 ⟨fs,hu⟩)
    rw [hmk]
    unfold Program.plainKey at hpk
    cases hu:P.underlying t with
    | none=>simp [hu] at hpk
    | some k=>cases k <;> simp [hu] at hpk <;> simp [Instr.checkKey,run_underlying hu]
def plnC:List Value→Bool
 | []=>true
 | v::r=>(match v with | .bool _ | .int _ _ | .string _=>true | _=>false) && plnC r
theorem plnC_mem:∀ {l:List Value},plnC l = true→∀ m,(l.zip l).all (fun (x,y)=>Instr.sameBits (m + 1) x y) = true
 | [],_,m=>rfl
 | v :: r, h, m => by
  simp only [plnC,Bool.and_eq_true] at h
  simp only [List.zip_cons_cons,List.all_cons,plnC_mem h.2 m,Bool.and_true]
  cases v <;> simp at h <;> simp [Instr.sameBits]
  rw [beq_toListBytes];simp
theorem keyT_agg {κ:Type} [DecidableEq κ] {cellsK:κ→List Value} {D:Nat} (hwide:(match P.underlying kt with | some (.array _ _) | some (.struct _)=>true | _=>false) = true)
  (hs:∀ k,shp P D kt (cellsK k) = true) (hD:D ≤ 10000) (he:∀ a b,eqC (cellsK a) (cellsK b) = decide (a = b)) (hp:∀ k,plnC (cellsK k) = true):KeyT P kt (fun k:κ=>Value.agg (cellsK k).toArray) where
 chk:=fun k e w=>by
  have hm:mkV P kt (cellsK k) = .agg (cellsK k).toArray:=by unfold mkV;split at hwide <;> simp_all
  rw [← hm]
  exact run_checkKey_shp e w 10000 D kt _ (hs k) hD
 same:=fun k=>by
  show Instr.sameBits (9999 + 1) _ _ = true
  simp only [Instr.sameBits,beq_self_eq_true,Bool.true_and]
  exact plnC_mem (hp k) 9998
 fnd:=fun k es ks w h=>by
  rw [run_findKey_eq w hwide]
  have hm:∀ k,mkV P kt (cellsK k) = .agg (cellsK k).toArray:=fun k=>by unfold mkV;split at hwide <;> simp_all
  have heq:∀ a b:κ,(Op.equal kt (.agg (cellsK a).toArray) (.agg (cellsK b).toArray)).run P w = .ok (decide (a = b)) w:=fun a b=>by
   have h3:=zbj 10000 kt w D D _ _ (hs a) (hs b) hD
   rw [hm,hm,he] at h3
   exact h3
  have key:∀ (es:List MapEntry) (ks:List κ) (j:Nat),es.map (·.key) = ks.map (fun k:κ=>Value.agg (cellsK k).toArray) →
    (Instr.findAsking kt (.agg (cellsK k).toArray) es j).run P w = .ok ((ks.findIdx? (k = ·)).bind fun i=>(es[i]?).map fun e=>(j + i,e.val)) w:=by
   intro es
   induction es with
   | nil=>intro ks j h;cases ks <;> simp at h;simp [Instr.findAsking]
   | cons e r ih =>
    intro ks j h
    cases ks with
    | nil=>simp at h
    | cons k' ks =>
     simp only [List.map_cons,List.cons.injEq] at h;simp only [Instr.findAsking,h.1,Sem.run_bind,heq,Result.andThen_ok,List.findIdx?_cons];by_cases c:k = k'
     ·simp [c]
     ·simp only [c,decide_false,Bool.false_eq_true,if_false,ih ks (j + 1) h.2]
      cases ks.findIdx? (k = ·) with
      | none=>simp
      | some i=>simp [Nat.add_assoc,Nat.add_comm 1]
  have:=key es ks 0 h
  simpa only [Nat.zero_add] using this
end keys
/-! ### A map with its entries told; a loop over it -/
variable {b clock r m:Nat} {h:Frag} {w:World} {A' F:List HP} {y:HP} {fid:FuncId} {args:List Value} {R:Value→Frag→List HP→Prop} {t:TypeId} {x:Operand} {v:Value} {ι:Type}
section loops
variable {P:Program} {base:World} {n:Nat} {L:Env} {f:Frag} {A:List HP} {q:Post}
variable {l rest:List Oper} {d:Nat} {ty:TypeId} {pos:String} {af:Array Edge} {gd:Option (Nat × Bool)}
variable {κ:Type} [DecidableEq κ] {enc:κ→Value}
structure MapOk (es:List (κ × Value × Nat)) (clock:Nat):Prop where
 keys:(es.map (·.1)).Nodup
 stamps:(es.map (·.2.2)).Nodup
 below:∀ e ∈ es,e.2.2 < clock
def mpS (b:Nat) (enc:κ→Value) (es:List (κ × Value × Nat)) (clock:Nat):HP:=fun h=>MapOk es clock ∧ h = sing b (.map (es.map (entOf enc)).toArray clock)
theorem mpS_mp {es:List (κ × Value × Nat)} (hh:mpS b enc es clock h):mp b enc (es.map kvOf) h:=
 ⟨es,clock,rfl,hh.1.keys,hh.1.stamps,hh.1.below,hh.2⟩
theorem mp_mpS {m:List (κ × Value)} (hh:mp b enc m h):∃ (es:List (κ × Value × Nat)) (clock:Nat),es.map kvOf = m ∧ mpS b enc es clock h:=by
 obtain ⟨es,clock,a1,a2,a3,a4,a5⟩:=hh;exact ⟨es,clock,a1,⟨a2,a3,a4⟩,a5⟩
theorem Sat.mpS_at {es:List (κ × Value × Nat)} (s:Sat base w f A) (h:At A (mpS b enc es clock) A' y):MapOk es clock ∧ w.heap[b]? = some (.map (es.map (entOf enc)).toArray clock):=by
 obtain ⟨R,h1,_⟩:=h.split;obtain ⟨x,hm,_,hw⟩:=s.mem;rw [h1] at hm;obtain ⟨m1,m2,_,rfl,⟨a1,rfl⟩,_⟩:=hm;exact ⟨a1,hw b _ (by simp [un,sing])⟩
theorem mpS_fold {es:List (κ × Value × Nat)}:∀ x,stars (mpS b enc es clock::F) x→stars (mp b enc (es.map kvOf)::F) x:=fun x hx=>by
 obtain ⟨m1,m2,dd,e,a,r⟩:=hx
 exact ⟨m1,m2,dd,e,mpS_mp a,r⟩
theorem Fn.openMap {m:List (κ × Value)} (k:∀ (es:List (κ × Value × Nat)) (clock:Nat),es.map kvOf = m→Fn P fid args f (mpS b enc es clock::A) R):Fn P fid args f (mp b enc m::A) R:=
 Fn.unfold (ι:={ i:List (κ × Value × Nat) × Nat // i.1.map kvOf = m }) (B:=fun i=>[mpS b enc i.1.1 i.1.2]) (fun h hh=>by
  obtain ⟨es,clock,a1,a2⟩:=mp_mpS hh
  refine ⟨⟨(es,clock),a1⟩,?_⟩
  simp only [stars,star_emp]
  exact a2) fun i=>k i.1.1 i.1.2 i.2
def itr (r b:Nat) (es:List (κ × Value × Nat)) (clock:Nat) (seen:List κ):HP:=fun h =>
 ∃ sA:Array Nat,(∀ e ∈ es,sA.contains e.2.2 = true ↔ e.1 ∈ seen) ∧ (∀ k r,seen = k::r→∃ e ∈ es,e.1 = k ∧ sA.back? = some e.2.2) ∧ h = sing r (.mapIter (some b) clock sA clock)
theorem H.range {et:TypeId} {es:List (κ × Value × Nat)} [hu:Und P t (.map kt et)] (hw:want? l L gd = true)
  (hx:ev? L x = some (.map (some b))) (hA:At A (mpS b enc es clock) A' (mpS b enc es clock)) (hd:Nat.ble (d + 1) n = true)
  (kk:∀ r,H P base n ((d,.pointer (some ⟨r,0,none⟩))::L) f (itr r b es clock []::A) (.ops l rest q)):H P base n L f A (.ops l (⟨some d,.range t x,ty,pos,af,gd⟩::rest) q):=
 H.opE (fun r:Nat=>.pointer (some ⟨r,0,none⟩)) (fun _=>f) (fun r=>itr r b es clock []::A) (fun _=>True) hw hd (fun a w hfr s=>by
  obtain ⟨ho,hb⟩:=s.mpS_at hA
  refine ⟨w.heap.size,w.alloc (.mapIter (some b) clock #[] clock),trivial,?_,?_⟩
  ·have h:=run_range_map w t kt et b _ clock hu.eq hb
   simp only [execOp,hfr.eval hx,Sem.run_bind,h,Result.andThen_ok,Sem.run_pure]
  ·have s1:Sat base (w.alloc (.mapIter (some b) clock #[] clock)) f (pts w.heap.size (.mapIter (some b) clock #[] clock)::A):=s.alloc rfl rfl rfl rfl
   refine s1.imp fun h hh=>?_
   obtain ⟨m1,m2,dd,e,a1,a2⟩:=hh
   exact ⟨m1,m2,dd,e,⟨#[],(fun e _=>by simp),(fun k r hk=>by cases hk),a1⟩,a2⟩) (fun r _=>kk r)
theorem Sat.itr_at {es:List (κ × Value × Nat)} {seen:List κ} (s:Sat base w f A) (h:At A (itr r b es clock seen) A' y) :
  ∃ sA:Array Nat,(∀ e ∈ es,sA.contains e.2.2 = true ↔ e.1 ∈ seen) ∧ (∀ k r,seen = k::r→∃ e ∈ es,e.1 = k ∧ sA.back? = some e.2.2) ∧ w.heap[r]? = some (.mapIter (some b) clock sA clock):=by
 obtain ⟨R,h1,_⟩:=h.split;obtain ⟨x,hm,_,hw⟩:=s.mem;rw [h1] at hm;obtain ⟨m1,m2,_,rfl,⟨sA,a1,a2,rfl⟩,_⟩:=hm;exact ⟨sA,a1,a2,hw r _ (by simp [un,sing])⟩
theorem run_next_itr {es:List (κ × Value × Nat)} {sA:Array Nat} (ho:MapOk es clock) (hb:w.heap[b]? = some (.map (es.map (entOf enc)).toArray clock)) (hr:w.heap[r]? = some (.mapIter (some b) clock sA clock)) :
  ((∀ e ∈ es,sA.contains e.2.2 = true) ∧ (Instr.next (.pointer (some ⟨r,0,none⟩)) false ty).run P w = .ok (.tuple #[.bool false]) w) ∨
  ∃ e ∈ es,sA.contains e.2.2 = false ∧ ∃ w1:World,w1.heap = w.heap ∧ w1.os = w.os ∧ w1.output = w.output ∧ w1.tape = w.tape ∧
   (Instr.next (.pointer (some ⟨r,0,none⟩)) false ty).run P w = .ok (.tuple #[.bool true,enc e.1,e.2.1]) { w1 with heap:=w1.heap.setIfInBounds r (.mapIter (some b) clock (sA.push e.2.2) clock) }:=by
 have hold:∀ x ∈ (es.map (entOf enc)).toArray.toList,x.born < clock:=fun x hx=>by
  simp only [List.mem_map] at hx;obtain ⟨e,he,rfl⟩:=hx;exact ho.below e he
 simp only [Instr.next,getObj,Sem.run_bind,Sem.run,hr,hb,Result.andThen,next_test_false sA (es.map (entOf enc)).toArray clock clock hold (Nat.le_refl _),Bool.false_eq_true,if_false];have hmem:∀ x ∈ (Array.filter (fun e=>!sA.contains e.born) (es.map (entOf enc)).toArray).toList,x.born < clock:=fun x hx=>hold x (by simp at hx ⊢;exact hx.1)
 have hin:∀ x ∈ (Array.filter (fun e=>!sA.contains e.born) (es.map (entOf enc)).toArray),∃ e ∈ es,x = entOf enc e ∧ sA.contains e.2.2 = false:=fun x hx=>by
  have h:=Array.mem_filter.1 hx;obtain ⟨e,he,rfl⟩:=List.mem_map.1 (List.mem_toArray.1 h.1)
  exact ⟨e,he,rfl,by simpa [entOf] using h.2⟩
 have hall:(Array.filter (fun e=>!sA.contains e.born) (es.map (entOf enc)).toArray) = #[]→∀ e ∈ es,sA.contains e.2.2 = true:=fun h2 e he=>by
  rw [Array.filter_eq_empty_iff] at h2;have h3:=h2 (entOf enc e) (List.mem_toArray.2 (List.mem_map.2 ⟨e,he,rfl⟩))
  cases hc:sA.contains e.2.2 with
  | true=>rfl
  | false=>exact absurd (by show (!sA.contains e.2.2) = true;rw [hc];rfl) h3
 generalize Array.filter (fun e=>!sA.contains e.born) (es.map (entOf enc)).toArray = L at hmem hin hall ⊢;have e1:L.filter (fun x=>decide (x.born < clock)) = L:=Array.filter_eq_self.2 (fun x hx=>by simpa using hmem x (by simpa using hx))
 have e2:L.filter (fun x=>decide (x.born ≥ clock)) = #[]:=by
  rw [Array.filter_eq_empty_iff];intro x hx
  have:=hmem x (by simpa using hx);simp
  omega
 simp only [e1,e2,Array.append_empty];by_cases h0:L.size = 0
 ·left;have:L = #[]:=Array.eq_empty_of_size_eq_zero h0;refine ⟨hall this,?_⟩
  subst this;simp [choose,Sem.run,Question.forced]
 ·right;have hne:L.isEmpty = false:=by simp [Array.isEmpty,h0]
  simp only [hne,Bool.false_eq_true,if_false,Array.empty_append,Array.size_map]
  have hch:∃ (j:Nat) (w1:World),j < L.size ∧ w1.heap = w.heap ∧ w1.os = w.os ∧ w1.output = w.output ∧ w1.tape = w.tape ∧ (choose (Question.mapNext L.size)).run P w = .ok j w1:=by
   by_cases hf:L.size ≤ 1
   ·exact ⟨0,w,by omega,rfl,rfl,rfl,rfl,by simp [choose,Sem.run,Question.forced,hf]⟩
   ·exact ⟨_,w.drew,Nat.mod_lt _ (by omega),rfl,rfl,rfl,rfl,by
     simp only [choose,Sem.run,Question.forced,decide_eq_true_eq,hf,if_false,Question.cut]
     rfl⟩
  obtain ⟨j,w1,hj,q1,q2,q3,q4,hrun⟩:=hch;obtain ⟨e,he,hx,hc⟩:=hin L[j] (Array.getElem_mem hj);refine ⟨e,he,hc,w1,q1,q2,q3,q4,?_⟩
  have hset:∀ o':Obj,(setObj r o').run P w1 = .ok () { w1 with heap:=w1.heap.setIfInBounds r o' }:=fun o'=>by
   simp only [setObj,Sem.run,q1,hr]
  simp only [hrun,Array.getElem?_map,Array.getElem?_eq_getElem hj,Option.map_some,Sem.run_bind,hset,Result.andThen,hx];rfl
theorem map_inj {α β:Type} (g:α→β):∀ {l:List α},(l.map g).Nodup→∀ {x y:α},x ∈ l→y ∈ l→g x = g y→x = y
 | [],_,x,_,hx,_,_=>by cases hx
 | z :: l, h, x, y, hx, hy, e => by
  have h':=List.nodup_cons.1 h
  rcases List.mem_cons.1 hx with h1 | h1
  ·rcases List.mem_cons.1 hy with h2 | h2
   ·rw [h1,h2]
   ·exact absurd (List.mem_map.2 ⟨y,h2,by rw [← e,h1]⟩) h'.1
  ·rcases List.mem_cons.1 hy with h2 | h2
   ·exact absurd (List.mem_map.2 ⟨x,h1,by rw [e,h2]⟩) h'.1
   ·exact map_inj g h'.2 h1 h2 e
theorem H.next {es:List (κ × Value × Nat)} {seen:List κ} {A1 A2:List HP} {A':κ→List HP} (hw:want? l L gd = true)
  (hx:ev? L x = some (.pointer (some ⟨r,0,none⟩))) (hm:At A (mpS b enc es clock) A1 (mpS b enc es clock)) (hi:At A (itr r b es clock seen) A2 (itr r b es clock seen)) (hA:∀ k,At A (itr r b es clock seen) (A' k) (itr r b es clock (k::seen))) (hd:Nat.ble (d + 1) n = true)
  (kend:(∀ e ∈ es,e.1 ∈ seen)→H P base n ((d,.tuple #[.bool false])::L) f A (.ops l rest q))
  (kk:∀ e ∈ es,e.1 ∉ seen→H P base n ((d,.tuple #[.bool true,enc e.1,e.2.1])::L) f (A' e.1) (.ops l rest q)):H P base n L f A (.ops l (⟨some d,.next x false,ty,pos,af,gd⟩::rest) q):=
 H.opE (ι:=Option (κ × Value × Nat)) (fun i=>match i with | none=>.tuple #[.bool false] | some e=>.tuple #[.bool true,enc e.1,e.2.1]) (fun _=>f) (fun i=>match i with | none=>A | some e=>A' e.1)
  (fun i=>match i with | none=>∀ e ∈ es,e.1 ∈ seen | some e=>e ∈ es ∧ e.1 ∉ seen) hw hd (fun a w hfr s=>by
  obtain ⟨ho,hb⟩:=s.mpS_at hm
  obtain ⟨sA,a1,a2,hr⟩:=s.itr_at hi
  rcases run_next_itr (P:=P) (ty:=ty) ho hb hr with ⟨b1,b2⟩ | ⟨e,he,hc,w1,q1,q2,q3,q4,b2⟩
  ·refine ⟨none,w,fun e he=>(a1 e he).1 (b1 e he),?_,s⟩
   simp only [execOp,hfr.eval hx,Sem.run_bind,b2,Result.andThen_ok,Sem.run_pure]
  ·refine ⟨some e,{ w1 with heap:=w1.heap.setIfInBounds r (.mapIter (some b) clock (sA.push e.2.2) clock) },⟨he,fun hin=>by rw [(a1 e he).2 hin] at hc;cases hc⟩,?_,?_⟩
   ·simp only [execOp,hfr.eval hx,Sem.run_bind,b2,Result.andThen_ok,Sem.run_pure]
   ·refine s.turnRow (hA e.1) (fun m hm=>by obtain ⟨_,_,_,rfl⟩:=hm;exact ⟨_,rfl⟩) q2 q4 q3 (by show w1.heap.setIfInBounds _ _ = _;rw [q1]) ⟨sA.push e.2.2,fun e' he'=>?_,fun k rs hk=>?_,rfl⟩
    ·rw [contains_push,Bool.or_eq_true,a1 e' he',beq_iff_eq,List.mem_cons]
     constructor
     ·rintro (h | h)
      ·exact .inr h
      ·exact .inl (by rw [map_inj (fun e:κ × Value × Nat=>e.2.2) ho.stamps he' he h])
     ·rintro (h | h)
      ·exact .inr (by rw [map_inj (fun e:κ × Value × Nat=>e.1) ho.keys he' he h])
      ·exact .inl h
    ·cases hk
     exact ⟨e,he,rfl,by simp⟩) (fun i hi=>match i,hi with | none,hi=>kend hi | some e,hi=>kk e hi.1 hi.2)
theorem H.entry {x:Operand} {r b:Nat} {es:List (κ × Value × Nat)} {clock:Nat} {seen:List κ} {e:κ × Value × Nat} {A1 A2:List HP} (hw:want? l L gd = true)
  (hx:ev? L x = some (.pointer (some ⟨r,0,none⟩))) (hm:At A (mpS b enc es clock) A1 (mpS b enc es clock)) (hi:At A (itr r b es clock (e.1::seen)) A2 (itr r b es clock (e.1::seen))) (he:e ∈ es) (hd:Nat.ble (d + 1) n = true)
  (kk:H P base n ((d,.tuple #[enc e.1,e.2.1])::L) f A (.ops l rest q)):H P base n L f A (.ops l (⟨some d,.entry x,ty,pos,af,gd⟩::rest) q):=
 H.opV hw hd (fun a w hfr s=>by
  obtain ⟨ho,hb⟩:=s.mpS_at hm
  obtain ⟨sA,a1,a2,hr⟩:=s.itr_at hi
  obtain ⟨e',he',hk,hbk⟩:=a2 _ _ rfl
  have hee:=map_inj (fun e:κ × Value × Nat=>e.1) ho.keys he' he hk
  subst hee
  have hf:(es.map (entOf enc)).toArray.find? (fun x=>x.born == e'.2.2) = some (entOf enc e'):=by
   rw [← Array.find?_toList]
   exact find_born (entOf enc e') (es.map (entOf enc)) (by rw [List.map_map];exact ho.stamps) (List.mem_map.2 ⟨e',he',rfl⟩)
  have h:(Instr.entry (.pointer (some ⟨r,0,none⟩))).run P w = .ok (.tuple #[enc e'.1,e'.2.1]) w:=by
   simp only [Instr.entry,getObj,Sem.run_bind,Sem.run,hr,hb,Result.andThen,hbk,bne_self_eq_false,Bool.false_eq_true,if_false,hf]
   rfl
  simp only [execOp,hfr.eval hx,Sem.run_bind,h,Result.andThen_ok,Sem.run_pure]) kk
theorem H.indexV {e:TypeId} {i:Nat} {y:Operand} {xs:List Value} {ik:IntKind} {z:Int} {de:TypeDesc} [hu:Und P t (.array m e)] [he:Und P e de] [hs:Siz P e 1] (hw:want? l L gd = true)
  (hx:ev? L x = some (.agg xs.toArray)) (hy:ev? L y = some (.int ik z)) (hq:z = (i:Nat)) (hi:i < m) (ha:aggD de = false) (hv:xs[i]? = some v) (hd:Nat.ble (d + 1) n = true)
  (k:H P base n ((d,v)::L) f A (.ops l rest q)):H P base n L f A (.ops l (⟨some d,.index t x y,ty,pos,af,gd⟩::rest) q):=
 H.opV hw hd (fun a w hf _=>by
  subst hq
  have h1:=hu.run w
  have h2:=hs.run w
  have h3:=run_isAgg he w
  have hi2:(0:Int) ≤ (i:Int) ∧ (i:Int) < (m:Int):=⟨by omega,by omega⟩
  simp only [execOp,hf.eval hx,hf.eval hy,Instr.index,asIntOf,Sem.run_bind,Sem.run_pure,Result.andThen_ok,h1,hi2,if_true,h2,part,h3,ha,Bool.false_eq_true,if_false,and_self]
  simp [hv,Sem.run_pure]) k
theorem H.cutB {c:Code} {id:Nat} (St:ι→Env) (Sf:ι→Frag) (SA:ι→List HP) (Φ:ι→Prop) (y:Code)
  (rest:∀ i,Φ i→H P base n (St i) (Sf i) (SA i) (.code y q))
  (h:H P base n L f A (.code c (.block id (.loop (fun a w=>∃ j,Φ j ∧ Fr n a (St j) ∧ Sat base w (Sf j) (SA j)) q)))):H P base n L f A (.code c (.block id (.seq y q))):=.mk fun a w hf s =>
 wp_mono (h.out a w hf s) fun e a w he=>by
  have key:Exit.then (fun a w=>∃ j,Φ j ∧ Fr n a (St j) ∧ Sat base w (Sf j) (SA j)) (q.den P) .normal a w→Exit.then (y.wp P (q.den P)) (q.den P) .normal a w:=fun ⟨j,hj,hf,s⟩=>(rest j hj).out a w hf s
  cases e with
  | normal=>exact key he
  | exit id' =>
   show Exit.inBlock id (Exit.then (y.wp P (q.den P)) (q.den P)) (.exit id') a w
   have he:Exit.inBlock id (Exit.then (fun a w=>∃ j,Φ j ∧ Fr n a (St j) ∧ Sat base w (Sf j) (SA j)) (q.den P)) (.exit id') a w:=he
   unfold Exit.inBlock at he ⊢
   simp only at he ⊢
   split
   ·rename_i hid
    rw [if_pos hid] at he
    exact key he
   ·rename_i hid
    rw [if_neg hid] at he
    exact he
  | goto l=>exact he
  | ret=>exact he
  | panic ch=>exact he
  | outgrown=>exact he
end loops
theorem and31:∀ n:Fin 32,0 < n.val→bitsI .and .u64 (18446744073709551616 - (n.val:Int)) 31 = some (((32 - n.val:Nat):Nat):Int):=by decide +kernel
theorem neg64:∀ n:Fin 32,0 < n.val→IntKind.u64.wrap (-(n.val:Int)) = 18446744073709551616 - (n.val:Int):=by decide +kernel
theorem slP_ne {o lv mv sz:Nat} (h:mv ≠ lv):slP (some ⟨b,o,none⟩) lv mv sz = some ⟨b,o + lv * sz,none⟩:=by
 unfold slP;rw [if_neg h];show some ((⟨b,o,none⟩:Addr).add (lv * sz)) = _;rw [zbb]
def accW (bs:List UInt8) (i:Nat):Nat→UInt32
 | 0=>0
 | k + 1=>accW bs i k <<< (UInt32.ofNat 8) ||| (bs.getD (4 * i + k) 0).toUInt32
theorem shl8_or (a b:UInt32):(a ||| b) <<< (UInt32.ofNat 8) = a <<< (UInt32.ofNat 8) ||| b <<< (UInt32.ofNat 8):=by
 apply UInt32.toBitVec_inj.1;simp only [UInt32.toBitVec_shiftLeft,UInt32.toBitVec_or];exact BitVec.shiftLeft_or_distrib _ _ _
theorem shl8_shl (a:UInt32) (n:Nat) (h:n + 8 < 32):a <<< (UInt32.ofNat n) <<< (UInt32.ofNat 8) = a <<< (UInt32.ofNat (n + 8)):=by
 apply UInt32.toBitVec_inj.1;simp only [UInt32.toBitVec_shiftLeft]
 have e:∀ k,k < 32→((UInt32.ofNat k).toBitVec % 32).toNat = k:=fun k hk=>by
  simp [UInt32.toBitVec_ofNat',BitVec.toNat_umod,BitVec.toNat_ofNat];omega
 show a.toBitVec <<< ((UInt32.ofNat n).toBitVec % 32).toNat <<< ((UInt32.ofNat 8).toBitVec % 32).toNat = a.toBitVec <<< ((UInt32.ofNat (n + 8)).toBitVec % 32).toNat;rw [e n (by omega),e 8 (by decide),e (n + 8) h];exact (BitVec.shiftLeft_add _ _ _).symm
theorem accW_word (bs:List UInt8) (i:Nat):accW bs i 4 = Sha.word bs i:=by
 unfold Sha.word;simp only [accW,Nat.add_zero];have z:(0:UInt32) <<< (UInt32.ofNat 8) = 0:=by decide
 have z2:∀ x:UInt32,0 ||| x = x:=fun x=>by apply UInt32.toBitVec_inj.1;simp
 rw [z,z2];generalize (bs.getD (4 * i) 0).toUInt32 = x0;generalize (bs.getD (4 * i + 1) 0).toUInt32 = x1;generalize (bs.getD (4 * i + 2) 0).toUInt32 = x2;have e3:x0 <<< (UInt32.ofNat 8) <<< (UInt32.ofNat 8) <<< (UInt32.ofNat 8) = x0 <<< (UInt32.ofNat 24):=by rw [shl8_shl x0 8 (by decide)];exact shl8_shl x0 16 (by decide)
 have e2:x1 <<< (UInt32.ofNat 8) <<< (UInt32.ofNat 8) = x1 <<< (UInt32.ofNat 16):=shl8_shl x1 8 (by decide);rw [shl8_or,shl8_or,shl8_or,e3,e2]
variable {n:Nat}
section
variable (f:Frag) (F:List HP)
theorem rotL_fn {x:UInt32} (h0:0 < n) (hn:n < 32):Fn Tryz.prog 269 [w32 x,.int .i64 (-(n:Int))] f F (Ret (w32 (Sha.rot x n)) f F):=by
 have e1:IntKind.u64.wrap (-(n:Int)) = 18446744073709551616 - (n:Int):=neg64 ⟨n,hn⟩ h0;have e2:bitsI .and .u64 (18446744073709551616 - (n:Int)) 31 = some ((32 - n:Nat):Int):=and31 ⟨n,hn⟩ h0
 have e3:IntKind.u64.wrap (32 - ((32 - n:Nat):Int)) = (n:Int):=by rw [wr_u64 (by omega)];omega
 have e4:x <<< (UInt32.ofNat (32 - n)) ||| x >>> (UInt32.ofNat n) = Sha.rot x n:=by
  unfold Sha.rot;apply UInt32.toBitVec_inj.1;simp only [UInt32.toBitVec_or];exact BitVec.or_comm _ _
 refine Fn.e2 Tryz.func269 Tryz.ntmps269 fun base=>?_;repeat (first | (apply H.Bl;(iterate 2 exact rfl);exact e1;exact rfl) | (refine gh ?_))
 refine H.Bg rfl rfl rfl e2 rfl rfl ?_;repeat (first | (apply H.ar;(iterate 4 exact rfl);exact e3;exact rfl) | (refine gh ?_) | (apply H.Bq;(iterate 3 exact rfl);(first | with_reducible exact u32_shl x (32 - n) (by omega) | with_reducible exact u32_shr x n hn);omega;(iterate 2 exact rfl)) | (refine H.Bg (op:=.or) rfl rfl rfl (u32_or _ _) rfl rfl ?_))
 exact H.Ad rfl rfl (fun _ h=>h) ⟨by rw [← e4];rfl,rfl,rfl⟩
theorem sturn_fn {x:UInt32} (h0:0 < n) (hn:n < 32):Fn Tryz.prog 268 [w32 x,.int .i64 (n:Nat)] f F (Ret (w32 (Sha.rot x n)) f F):=by
 have e1:IntKind.i64.wrap (0 - (n:Int)) = -(n:Int):=by rw [wr_i64 (by omega)];omega
 refine Fn.e2 Tryz.func268 Tryz.ntmps268 fun base=>?_;repeat (first | (refine gh ?_) | (apply H.neg;(iterate 2 exact rfl);exact e1;exact rfl))
 refine H.Ag rfl rfl rfl (rotL_fn f _ h0 hn) ?_;refine gZ ?_;exact qap
end
variable {S:List UInt32} {bs:List UInt8}
section
variable (f:Frag) (F:List HP)
def wPart (S:List UInt32) (i:Nat) (v:UInt32):List Value:=(wRow S i).set i (w32 v)
theorem wRow_len (hS:S.length = 64) {i:Nat} (h:i ≤ 64):(wRow S i).length = 64:=by
 unfold wRow;rw [List.length_append,List.length_take,List.length_map,List.length_drop,z64_len,hS];omega
theorem wPart_zero (hS:S.length = 64) {i:Nat} (h:i < 64):wPart S i 0 = wRow S i:=by
 have h1:(wRow S i)[i]? = some (w32 0):=by
  unfold wRow;exact fill_get2 (Nat.le_refl _) (by rw [List.length_map,hS,z64_len]) (by unfold z64;rw [List.getElem?_replicate,if_pos h])
 unfold wPart;obtain ⟨hl,he⟩:=List.getElem?_eq_some_iff.1 h1;rw [← he,List.set_getElem_self]
theorem wPart_set (hS:S.length = 64) {i:Nat} (h:i < 64) (v u:UInt32):SetV (wPart S i v) i (w32 u) (wPart S i u):=by
 have:=SetV.mk (l:=wPart S i v) (i:=i) (w32 u) (by unfold wPart;rw [List.length_set,wRow_len hS (by omega)];exact h);unfold wPart at this ⊢
 rwa [List.set_set] at this
theorem wPart_get (hS:S.length = 64) {i:Nat} (h:i < 64) (v:UInt32):(wPart S i v)[i]? = some (w32 v):=by
 unfold wPart;rw [List.getElem?_set_self (by rw [wRow_len hS (by omega)];exact h)]
theorem wPart_full (hS:S.length = 64) {i:Nat} (h:i < 64):wPart S i (S.getD i 0) = wRow S (i + 1):=by
 unfold wPart;exact (SetV.eq (wRow_set hS h)).1.symm
theorem swords_fn {nb:Nat} (hb:bs.length = 64):Fn Tryz.prog 267 [.pointer (some ⟨nb,0,none⟩)] f (row nb 248 (bytesV bs)::F) (Ret (.agg ((Sha.sched bs).map w32).toArray) f (row nb 248 (bytesV bs)::F)):=by
 have hlo:∀ i,i < 16→(Sha.sched bs).getD i 0 = accW bs i 4:=fun i h=>by rw [accW_word];exact Sha.sched_lo bs h
 have hhi:∀ j,j < 48→(Sha.sched bs).getD (j + 16) 0 = (Sha.sched bs).getD j 0 + Sha.s0 ((Sha.sched bs).getD (j + 1) 0) + (Sha.sched bs).getD (j + 9) 0 + Sha.s1 ((Sha.sched bs).getD (j + 14) 0):=fun j h=>Sha.sched_hi bs h;have hS:=Sha.sched_len bs
 generalize Sha.sched bs = S at hlo hhi hS ⊢;refine Fn.e1 Tryz.func267 Tryz.ntmps267 fun base=>?_;refine gA ?_;refine H.Ah (ls:=wRow S 0) rfl rfl rfl fun wb=>?_;refine gA ?_;refine H.Ce (lo:=none) (mx:=none) (lv:=0) (hv:=16) (mv:=64) rfl rfl rfl ⟨_,_,rfl,rfl⟩ rfl (fun h=>by cases h) (by decide) (by decide) (by decide) rfl ?_;refine gZ ?_
 refine H.lo (ι:=Nat) (fun i=>[(11,.int .i64 (i:Int)),(10,.int .i64 ((16:Nat):Int)),(0,.pointer (some ⟨nb,0,none⟩)),(2,.pointer (some ⟨wb,0,none⟩))]) (fun _=>f)
  (fun i=>row wb 293 (wRow S i)::row nb 248 (bytesV bs)::F) (fun i=>i ≤ 16) (fun i=>16 - i) 0 (Nat.zero_le _) fun i hi=>?_
 have hi:i ≤ 16:=hi;by_cases hlt:i < 16
 ·have e1:IntKind.i64.wrap (4 * (i:Int)) = ((4 * i:Nat):Int):=by rw [wr_i64 (by omega)];omega
  have e2:IntKind.i64.wrap (((4 * i:Nat):Int) + 4) = ((4 * i + 4:Nat):Int):=by rw [wr_i64 (by omega)];omega
  repeat (first | (apply H.ar;(iterate 4 exact rfl);exact e1;exact rfl) | (apply H.ar;(iterate 4 exact rfl);exact e2;exact rfl) | (refine gh ?_))
  refine H.Ce (mx:=none) (lv:=4 * i) (hv:=4 * i + 4) (mv:=64) rfl rfl ⟨_,_,rfl,rfl⟩ ⟨_,_,rfl,rfl⟩ rfl (fun h=>by cases h) (by omega) (by omega) (by decide) rfl ?_;rw [slP_ne (by omega),show 4 * i + 4 - 4 * i = 4 by omega];refine gZ ?_
  refine H.loop (ι:=Nat) (fun k=>[(23,.int .i64 (k:Int)),(22,.int .i64 ((4:Nat):Int)),(21,.slice (some ⟨nb,0 + 4 * i * 1,none⟩) 4 (64 - 4 * i)),(3,.int .i64 (i:Int)),(11,.int .i64 (i:Int)),(10,.int .i64 ((16:Nat):Int)),(0,.pointer (some ⟨nb,0,none⟩)),(2,.pointer (some ⟨wb,0,none⟩))]) (fun _=>f)
   (fun k=>row wb 293 (wPart S i (accW bs i k))::row nb 248 (bytesV bs)::F) (fun k=>k ≤ 4) (fun k=>4 - k) 0 (Nat.zero_le _) ⟨rfl,rfl,rfl,rfl,rfl,rfl,rfl,rfl,trivial⟩ rfl (by rw [show accW bs i 0 = 0 from rfl,wPart_zero hS (by omega)]) fun k hk=>?_
  have hk:k ≤ 4:=hk;by_cases hk4:k < 4
  ·have rdc:∀ A A',At A (row nb 248 (bytesV bs)) A' (row nb 248 (bytesV bs))→Rd1 f A nb (0 + 4 * i * 1 + k * 1) (.int .u8 ((bs.getD (4 * i + k) 0).toNat:Nat)):=fun A A' h=>by
    rw [show 0 + 4 * i * 1 + k * 1 = 0 + (4 * i + k) by omega];exact Rd1.of (Rd.ofRow h) (zbz (by omega))
   have hset:=wPart_set hS (i:=i) (by omega) (accW bs i k) (accW bs i (k + 1));have hget:=wPart_get hS (i:=i) (by omega) (accW bs i k)
   have hacc:accW bs i (k + 1) = accW bs i k <<< (UInt32.ofNat 8) ||| (bs.getD (4 * i + k) 0).toUInt32:=rfl;rw [hacc] at hset
   show H _ _ _ ((23,.int .i64 (k:Int))::_) _ (row wb _ (wPart S i (accW bs i k))::_) _;obtain ⟨v,hv⟩:∃ v,accW bs i k = v:=⟨_,rfl⟩;rw [hv] at hset hget hacc ⊢;refine gI ?_;refine H.Ak (i:=k) rfl rfl rfl rfl hk4 rfl ?_;skip;refine H.Ab rfl rfl rfl (rdc _ _ (by repeat constructor)) rfl ?_;refine gL ?_;refine H.Am (i:=i) rfl rfl rfl rfl (by omega) rfl ?_;refine H.Ab rfl rfl rfl (.of (Rd.ofRow (by repeat constructor)) (by rw [Nat.mul_one];exact hget)) rfl ?_;refine H.Bq (op:=.shl) rfl rfl rfl (u32_shl8 _) (by decide) rfl rfl ?_;repeat (first | (refine H.Bl rfl rfl (u32_ofByte _) rfl ?_) | (refine gh ?_))
   refine H.Bg (op:=.or) rfl rfl rfl (u32_or _ _) rfl rfl ?_;refine H.Am (i:=i) rfl rfl rfl rfl (by omega) rfl ?_;refine H.Az (v:=w32 _) (ls':=wPart S i (v <<< (UInt32.ofNat 8) ||| (bs.getD (4 * i + k) 0).toUInt32)) rfl rfl rfl rfl (by repeat constructor) (by rw [Nat.mul_one,Nat.zero_add];exact hset) ?_;refine gX ?_;exact H.Ax (k + 1) (by show k + 1 ≤ 4;omega) (by show 4 - (k + 1) < 4 - k;omega) ⟨rfl,rfl,rfl,rfl,rfl,rfl,rfl,rfl,trivial⟩ rfl (by show _ = row wb _ (wPart S i (accW bs i (k + 1)))::_;rw [hacc])
  ·have hk44:k = 4:=by omega
   subst hk44;refine gQ ?_;exact H.Ax (i + 1) (by show i + 1 ≤ 16;omega) (by show 16 - (i + 1) < 16 - i;omega) ⟨rfl,rfl,rfl,rfl,trivial⟩ rfl (by rw [← hlo i hlt,wPart_full hS (by omega)])
 ·have hi16:i = 16:=by omega
  subst hi16;refine gV ?_
  refine H.lo (ι:=Nat) (fun j=>[(6,.int .i64 ((j + 16:Nat):Int)),(2,.pointer (some ⟨wb,0,none⟩))]) (fun _=>f)
   (fun j=>row wb 293 (wRow S (j + 16))::row nb 248 (bytesV bs)::F) (fun j=>j ≤ 48) (fun j=>48 - j) 0 (Nat.zero_le _) fun j hj=>?_
  have hj:j ≤ 48:=hj;by_cases hlt:j < 48
  ·have hw:=hhi j hlt;have hset:=wRow_set hS (n:=j + 16) (by omega)
   rw [hw] at hset;have hg:∀ k,k < j + 16→(wRow S (j + 16))[k * 1]? = some (w32 (S.getD k 0)):=fun k hk=>by rw [Nat.mul_one];exact wRow_get hS hk (by omega)
   refine gI ?_;refine H.dq ?_;repeat (first | (apply HQ.Am (i:=j + 1);(iterate 3 exact rfl);omega;omega;exact rfl) | (apply HQ.Am (i:=j + 14);(iterate 3 exact rfl);omega;omega;exact rfl) | (apply HQ.Ab;(iterate 3 exact rfl);exact .of (Rd.ofRow (by repeat constructor)) (hg _ (by omega));exact rfl) | (refine gi ?_))
   refine gA ?_;refine H.dc [0,1,2,3,4,5,6,7,8,9,10,11,12,13,14,15,16,17,18,19,20,21,22,23,24,25,26,27,28] (S:=[_]) rfl ?_;refine HB.qu [0,1,2,3,4,5,7,10,11,14,15,16,17,19,21,24,25] 13 ?_;repeat (first | (apply HQ.Am (i:=j);(iterate 3 exact rfl);omega;omega;exact rfl) | (apply HQ.Am (i:=j + 9);(iterate 3 exact rfl);omega;omega;exact rfl) | (apply HQ.Ab;(iterate 3 exact rfl);exact .of (Rd.ofRow (by repeat constructor)) (hg _ (by omega));exact rfl) | (refine gi ?_) | (apply HQ.Bq;(iterate 3 exact rfl);(first | with_reducible exact u32_shr3 _ | with_reducible exact u32_shr10 _);decide;(iterate 2 exact rfl)))
   refine qdg ?_;refine HB.ev 6 ?_;refine H.Ag rfl rfl rfl (sturn_fn f _ (n:=7) (by decide) (by decide)) ?_;refine qcX ?_;refine HB.ev 8 ?_;refine H.Ag rfl rfl rfl (sturn_fn f _ (n:=18) (by decide) (by decide)) ?_;refine qcX ?_;refine HB.qu [9,12,13,18] 7 ?_;refine qdR ?_;refine HB.ev 20 ?_;refine H.Ag rfl rfl rfl (sturn_fn f _ (n:=17) (by decide) (by decide)) ?_;refine qcX ?_;refine HB.ev 22 ?_;refine H.Ag rfl rfl rfl (sturn_fn f _ (n:=19) (by decide) (by decide)) ?_;refine qcX ?_;refine HB.qu [23,26,27,28] 1 ?_;repeat (first | (refine gi ?_) | (apply HQ.Bg;(iterate 3 exact rfl);(with_reducible exact zbm _ _);(iterate 2 exact rfl)) | (apply HQ.Am (i:=j + 16);(iterate 3 exact rfl);exact rfl;omega;exact rfl))
   refine qdv ?_;refine HB.ev 29 ?_;refine qgt ?_;exact H.Ax (j + 1) (by show j + 1 ≤ 48;omega) (by show 48 - (j + 1) < 48 - j;omega) ⟨by show some _ = some (Value.int .i64 ((j + 1 + 16:Nat):Int));rw [show j + 1 + 16 = j + 16 + 1 by omega],rfl,trivial⟩ rfl (by show _ = row wb _ (wRow S (j + 1 + 16))::_;rw [show j + 1 + 16 = j + 16 + 1 by omega];rfl)
  ·have hj48:j = 48:=by omega
   subst hj48
   have hfull:wRow S (48 + 16) = S.map w32:=by
    unfold wRow;rw [show 48 + 16 = (S.map w32).length by rw [List.length_map,hS],List.take_length,List.length_map,hS];show S.map w32 ++ z64.drop 64 = _;rw [List.drop_eq_nil_of_le (by rw [z64_len];exact Nat.le_refl _),List.append_nil]
   show H _ _ _ _ _ (row wb _ (wRow S (48 + 16))::_) _;rw [hfull];have hl:(S.map w32).length = 64:=by rw [List.length_map,hS]
   refine gV ?_;refine H.Ae (ls:=S.map w32) rfl rfl rfl (Rd.ofRow (by repeat constructor)) hl rfl ?_;refine H.Af (ls:=S.map w32) (vs:=S.map w32) (ls':=S.map w32) rfl rfl rfl (fun v hv=>by obtain ⟨x,_,rfl⟩:=List.mem_map.1 hv;rfl) hl (by unfold splice;rw [List.take_zero,List.nil_append,Nat.zero_add,List.drop_length,List.append_nil]) (by omega) (by repeat constructor) ?_;refine gZ ?_;exact H.Aw rfl rfl rfl (Rd.ofRow (by repeat constructor)) hl (fun _ s=>s.drop (.here _ _)) ⟨rfl,rfl,rfl⟩
end
def TabAt (f:Frag):Prop:=IntsAt f 0 .u32 (Sha.k.map fun x=>((x.toNat:Nat):Int))
variable {f:Frag} {A:List HP}
theorem tab_rd (h:TabAt f) {i:Nat} (hi:i < 64):Rd1 f A 0 (0 + i * 1) (w32 (Sha.k.getD i 0)):=by
 have e:(Sha.k.map fun x=>((x.toNat:Nat):Int))[i]? = some (((Sha.k.getD i 0).toNat:Nat):Int):=by
  have hl:i < Sha.k.length:=hi;rw [List.getElem?_map,List.getElem?_eq_getElem hl,List.getD_eq_getElem?_getD,List.getElem?_eq_getElem hl]
  rfl
 rw [show 0 + i * 1 = i by omega];exact h.rd e
theorem S8.comm (v s:Sha.S8) {i:Nat} (h:i < 8):(v.add s).get i = s.get i + v.get i:=by
 rw [Sha.S8.add_get v s h];apply UInt32.toBitVec_inj.1;simp only [UInt32.toBitVec_add];exact BitVec.add_comm _ _
def addRow2 (v s:Sha.S8) (n:Nat):List Value:=(v.add s).vals.take n ++ s.vals.drop n
theorem addRow2_set (v s:Sha.S8) {i:Nat} (h:i < 8):SetV (addRow2 v s i) i (w32 (s.get i + v.get i)) (addRow2 v s (i + 1)):=by
 rw [← S8.comm v s h];exact fill_set (Sha.S8.get_vals _ h) rfl
theorem addRow2_get (v s:Sha.S8) {i:Nat} (h:i < 8):(addRow2 v s i)[i]? = some (w32 (s.get i)):=fill_get2 (Nat.le_refl _) rfl (Sha.S8.get_vals s h)
section
variable (f:Frag) (F:List HP)
theorem sblock_fn (htab:TabAt f) {s:Sha.S8} (hb:bs.length = 64):Fn Tryz.prog 266 [.agg s.vals.toArray,.agg (bytesV bs).toArray] f F (Ret (.agg (Sha.block s bs).vals.toArray) f F):=by
 have hbl:(bytesV bs).length = 64:=by rw [zad,hb]
 have hwords:=fun nb G=>swords_fn f G (nb:=nb) hb;have hS:=Sha.sched_len bs
 unfold Sha.block;generalize Sha.sched bs = S at hwords hS ⊢;have hgS:∀ k,k < 64→(S.map w32)[k]? = some (w32 (S.getD k 0)):=fun k hk=>map_get w32 (by omega) 0;refine Fn.e2 Tryz.func266 Tryz.ntmps266 fun base=>?_
 refine gA ?_;refine H.box (ls:=s.vals) rfl rfl rfl rfl fun sb=>?_;refine H.box (ls:=bytesV bs) rfl rfl rfl rfl fun nb=>?_;refine qgH fun ob=>?_;refine gA ?_;refine H.dq ?_;repeat (first | (refine gi ?_) | (apply HQ.index_arrT;(iterate 3 exact rfl);decide;exact rfl))
 refine gA ?_;refine H.pf (x:=row nb _ _) ?_;refine H.Ag rfl rfl rfl (hwords nb _) ?_;refine gZ ?_
 refine H.lo (ι:=Nat) (fun i=>[(36,.int .i64 (i:Int)),(35,.agg (S.map w32).toArray),(5,w32 (Sha.rounds S s i).a),(6,w32 (Sha.rounds S s i).b),(7,w32 (Sha.rounds S s i).c),(8,w32 (Sha.rounds S s i).d),(9,w32 (Sha.rounds S s i).e),(10,w32 (Sha.rounds S s i).f),(11,w32 (Sha.rounds S s i).g),(12,w32 (Sha.rounds S s i).h),(2,.pointer (some ⟨sb,0,none⟩)),(4,.pointer (some ⟨ob,0,none⟩))]) (fun _=>f)
  (fun _=>row nb 248 (bytesV bs)::row ob 246 (List.replicate 8 (.int .u32 0))::row sb 246 s.vals::F) (fun i=>i ≤ 64) (fun i=>64 - i) 0 (Nat.zero_le _) fun i hi=>?_
 have hi:i ≤ 64:=hi;by_cases hlt:i < 64
 ·have hr:Sha.rounds S s (i + 1) = Sha.round (Sha.k.getD i 0) (S.getD i 0) (Sha.rounds S s i):=rfl;have hgs:=hgS i hlt
  have hgk:=fun A=>tab_rd htab (A:=A) hlt;generalize Sha.k.getD i 0 = kk at hr hgk
  generalize S.getD i 0 = ww at hr hgs;generalize S.map w32 = SL at hgs hwords ⊢;show H _ _ _ [_,_,(5,w32 (Sha.rounds S s i).a),(6,w32 (Sha.rounds S s i).b),(7,w32 (Sha.rounds S s i).c),(8,w32 (Sha.rounds S s i).d),(9,w32 (Sha.rounds S s i).e),(10,w32 (Sha.rounds S s i).f),(11,w32 (Sha.rounds S s i).g),(12,w32 (Sha.rounds S s i).h),_,_] _ _ _;generalize Sha.rounds S s i = v at hr ⊢;repeat (first | (refine gh ?_) | (apply H.indexV (i:=i);(iterate 4 exact rfl);exact hlt;exact rfl;exact hgs;exact rfl))
  refine H.db (S:=[]) rfl ?_;refine HB.qu [0,1,3,6,10,11,12,13,14,15,16,17,19,20,21,23] 10 ?_;repeat (first | (apply HQ.Am (i:=i);(iterate 3 exact rfl);exact rfl;exact hlt;exact rfl) | (apply HQ.Ab;(iterate 3 exact rfl);exact hgk _;exact rfl) | (refine gi ?_) | (apply HQ.Bg;(iterate 3 exact rfl);(first | with_reducible exact zbm _ _ | with_reducible exact u32_and _ _);(iterate 2 exact rfl)) | (apply HQ.flip;(iterate 2 exact rfl);exact u32_not _;(iterate 2 exact rfl)))
  refine qdg ?_;refine HB.ev 2 ?_;refine H.Ag rfl rfl rfl (sturn_fn f _ (n:=6) (by decide) (by decide)) ?_;refine qcX ?_;refine HB.ev 4 ?_;refine H.Ag rfl rfl rfl (sturn_fn f _ (n:=11) (by decide) (by decide)) ?_;refine qcX ?_;refine HB.qu [5] 7 ?_;refine qfF ?_;refine HB.ev 7 ?_;refine H.Ag rfl rfl rfl (sturn_fn f _ (n:=25) (by decide) (by decide)) ?_;refine qcX ?_;refine HB.qu [8,9,18,22,24,25] 0 ?_;refine qdR ?_;refine HB.dn ?_;refine gL ?_;refine H.Ag rfl rfl rfl (sturn_fn f _ (n:=2) (by decide) (by decide)) ?_;refine gL ?_;refine H.Ag rfl rfl rfl (sturn_fn f _ (n:=13) (by decide) (by decide)) ?_;refine qht ?_;refine gL ?_;refine H.Ag rfl rfl rfl (sturn_fn f _ (n:=22) (by decide) (by decide)) ?_;refine qht ?_;refine gL ?_;refine H.Bg (op:=.and) rfl rfl rfl (u32_and _ _) rfl rfl ?_;refine gL ?_;refine H.Bg (op:=.and) rfl rfl rfl (u32_and _ _) rfl rfl ?_;refine qht ?_;refine gL ?_;refine H.Bg (op:=.and) rfl rfl rfl (u32_and _ _) rfl rfl ?_;refine qht ?_;refine gX ?_;exact H.Ax (i + 1) (by show i + 1 ≤ 64;omega) (by show 64 - (i + 1) < 64 - i;omega) ⟨rfl,rfl,by rw [hr];rfl,by rw [hr];rfl,by rw [hr];rfl,by rw [hr];rfl,by rw [hr];rfl,by rw [hr];rfl,by rw [hr];rfl,by rw [hr];rfl,rfl,rfl,trivial⟩ rfl rfl
 ·have hi64:i = 64:=by omega
  subst hi64;show H _ _ _ [_,_,(5,w32 (Sha.rounds S s 64).a),(6,w32 (Sha.rounds S s 64).b),(7,w32 (Sha.rounds S s 64).c),(8,w32 (Sha.rounds S s 64).d),(9,w32 (Sha.rounds S s 64).e),(10,w32 (Sha.rounds S s 64).f),(11,w32 (Sha.rounds S s 64).g),(12,w32 (Sha.rounds S s 64).h),_,_] _ _ _;generalize Sha.rounds S s 64 = v;refine gV ?_;refine H.buildA (out:=v.vals) rfl rfl rfl rfl rfl ?_;refine gZ ?_;refine H.pd (x:=row nb _ _) ?_;refine H.pf (x:=row sb _ _) ?_
  refine H.lo (ι:=Nat) (fun i=>[(107,.int .i64 (i:Int)),(106,.agg v.vals.toArray),(2,.pointer (some ⟨sb,0,none⟩)),(4,.pointer (some ⟨ob,0,none⟩))]) (fun _=>f)
   (fun i=>row sb 246 (addRow2 v s i)::row ob 246 (List.replicate 8 (.int .u32 0))::F) (fun i=>i ≤ 8) (fun i=>8 - i) 0 (Nat.zero_le _) fun i hi=>?_
  have hi:i ≤ 8:=hi;by_cases hlt:i < 8
  ·have hset:=addRow2_set v s hlt;have hg:=addRow2_get v s hlt
   have hg2:=Sha.S8.get_vals v hlt;show H _ _ _ _ _ (row sb _ (addRow2 v s i)::_) _
   repeat (first | (refine gh ?_) | (apply H.indexV (i:=i);(iterate 4 exact rfl);exact hlt;exact rfl;exact hg2;exact rfl))
   refine H.Am (i:=i) rfl rfl rfl rfl hlt rfl ?_;refine H.Ab rfl rfl rfl (.of (Rd.ofRow (by repeat constructor)) (by rw [Nat.mul_one];exact hg)) rfl ?_;refine gX ?_;refine H.Am (i:=i) rfl rfl rfl rfl hlt rfl ?_;refine H.Az (v:=w32 _) (ls':=addRow2 v s (i + 1)) rfl rfl rfl rfl (by repeat constructor) (by rw [Nat.mul_one,Nat.zero_add];exact hset) ?_;refine gX ?_;exact qbR
  ·have hi8:i = 8:=by omega
   subst hi8;refine qeX ?_;refine H.pd (x:=row sb _ _) ?_;exact qae
end
/-! ### Lists of structs -/
variable {l':List Value} {c:Nat} {T:TypeId} {g:Frag} {p:Option Addr} {P:Program}
section
variable {α:Type} {vals:α→List Value} {sz:Nat}
theorem zbt (hv:∀ x,(vals x).length = sz):∀ xs:List α,(xs.flatMap vals).length = xs.length * sz
 | []=>by simp
 | x::xs=>by rw [List.flatMap_cons,List.length_append,hv,zbt hv xs,List.length_cons,Nat.add_mul];omega
theorem flat_split (xs:List α) {i:Nat} {x:α} (h:xs[i]? = some x):xs.flatMap vals = (xs.take i).flatMap vals ++ vals x ++ (xs.drop (i + 1)).flatMap vals:=by
 have hi:i < xs.length:=by
  exact qcK
 have e:xs = xs.take i ++ x::xs.drop (i + 1):=by
  have h2:xs[i] = x:=by rw [List.getElem?_eq_getElem hi] at h;exact Option.some.inj h
  rw [← h2,List.getElem_cons_drop,List.take_append_drop]
 conv=>lhs;rw [e]
 simp
theorem flat_get (hv:∀ x,(vals x).length = sz) {xs:List α} {i:Nat} {x:α} (h:xs[i]? = some x) {j:Nat} (hj:j < sz):(xs.flatMap vals)[i * sz + j]? = (vals x)[j]?:=by
 have hi:i < xs.length:=by
  exact qcK
 have hl:((xs.take i).flatMap vals).length = i * sz:=by rw [zbt hv,List.length_take,Nat.min_eq_left (by omega)]
 rw [flat_split xs h,List.append_assoc,List.getElem?_append_right (by omega),hl,show i * sz + j - i * sz = j by omega,List.getElem?_append_left (by rw [hv];exact hj)]
theorem SetV.app' {l:List Value} {i:Nat} (h:SetV l i v l') (post:List Value):SetV (l ++ post) i v (l' ++ post):=by
 induction h with
 | here x v t=>exact .here _ _ _
 | there x h ih=>exact .there _ ih
theorem SetV.mid' {l:List Value} {i:Nat} (h:SetV l i v l') (pre post:List Value):SetV (pre ++ l ++ post) (pre.length + i) v (pre ++ l' ++ post):=by
 rw [List.append_assoc,List.append_assoc]
 induction pre with
 | nil=>rw [List.length_nil,Nat.zero_add];exact h.app' post
 | cons p pre ih =>
  exact qcR
theorem Rd.slcElem {xs:List α} (hv:∀ x,(vals x).length = sz) (h0:0 < sz) (h:At A (slc (some ⟨b,0,none⟩) n c T sz (xs.flatMap vals)) A' (slc (some ⟨b,0,none⟩) n c T sz (xs.flatMap vals)))
  {i:Nat} {x:α} (hx:xs[i]? = some x):Rd f A b (i * sz) (vals x):=by
 have hi:i < xs.length:=by
  exact qcH
 have hl:((xs.take i).flatMap vals).length = i * sz:=by rw [zbt hv,List.length_take,Nat.min_eq_left (by omega)]
 intro base w s;obtain ⟨h1,h2,h3⟩:=s.slc_at h;rw [zbt hv] at h1;rcases h3 with ⟨rfl,rfl⟩ | ⟨b',sp,e,_,_,hw⟩
 ·rw [Nat.zero_mul] at h1;rcases Nat.mul_eq_zero.1 h1 with h | h <;> omega
 ·cases e
  refine ⟨_,_,_,hw,fun j hj=>?_⟩;rw [hv] at hj
  have:=flat_get hv hx hj;simp only [List.getElem?_toArray]
  rw [List.getElem?_append_left ?_,this];rcases Nat.lt_or_ge (i * sz + j) (xs.flatMap vals).length with h | h
  ·exact h
  ·rw [List.getElem?_eq_none h] at this;rw [List.getElem?_eq_getElem (by rw [hv];exact hj)] at this;cases this
theorem Le.right (h:Dj f g):Le g (Proofs.YtminmjlfmolfeaaGreatDoor.un f g):=fun k o hk=>by
 rcases h k with e | e
 ·simp [Proofs.YtminmjlfmolfeaaGreatDoor.un,e,hk]
 ·rw [e] at hk;cases hk
theorem ListAt.mono (h:Le f g) {xs:List α} (hl:ListAt f p sz vals xs):ListAt g p sz vals xs:=fun i x hx=>by
 obtain ⟨b,off,cs,T,fr,h1,h2,h3⟩:=hl i x hx
 exact ⟨b,off,cs,T,fr,h1,h _ _ h2,h3⟩
theorem ListAt.nil (f:Frag) (p:Option Addr):ListAt f p sz vals ([]:List α):=fun i x h=>by simp at h
theorem zbs (hv:∀ x,(vals x).length = sz) {xs:List α} (h:slc p xs.length c T sz (xs.flatMap vals) g):ListAt g p sz vals xs:=fun i x hx=>by
 obtain ⟨_,_,h3⟩:=h
 have hi:i < xs.length:=by
  exact qcH
 rcases h3 with ⟨h0,_,_⟩ | ⟨b,sp,rfl,h4,h5,rfl⟩
 ·omega
 ·refine ⟨b,0,(xs.flatMap vals ++ sp).toArray,T,(0,0),rfl,by simp [sing],fun j hj=>?_⟩
  have hj':j < sz:=by rw [← hv x];exact hj
  have:=flat_get hv hx hj'
  rw [Nat.zero_add]
  simp only [List.getElem?_toArray]
  rw [List.getElem?_append_left ?_,this]
  rcases Nat.lt_or_ge (i * sz + j) (xs.flatMap vals).length with h | h
  ·exact h
  ·rw [List.getElem?_eq_none h] at this
   rw [List.getElem?_eq_getElem hj] at this
   cases this
theorem ListAt.src (hv:∀ x,(vals x).length = sz) (h0:0 < sz) {xs:List α} (h:ListAt f p sz vals xs):Src P f A (.slice p xs.length c) sz xs.length (xs.flatMap vals):=by
 cases xs with
 | nil =>
  refine ⟨fun w=>rfl,fun base w s=>?_,by simp⟩
  cases p with
  | none=>exact run_firstCells_none w sz 0 0 c
  | some a=>exact run_firstCells_some w sz 0 a 0 c [] (by simp) (by simp)
 | cons x0 r =>
  obtain ⟨b,off,cs,T,fr,rfl,hf,_⟩:=h 0 x0 rfl;refine Src.slice (Rd.imm hf fun i hi=>?_) (zbt hv _);rw [zbt hv] at hi;have hq:i / sz < (x0::r).length:=(Nat.div_lt_iff_lt_mul h0).2 hi;obtain ⟨b2,off2,cs2,T2,fr2,e2,hf2,h3⟩:=h (i / sz) _ (List.getElem?_eq_getElem hq)
  cases e2
  rw [hf] at hf2;cases hf2
  have hm:i % sz < sz:=Nat.mod_lt _ h0;have h4:=h3 (i % sz) (by rw [hv];exact hm)
  have h5:=flat_get hv (List.getElem?_eq_getElem hq) hm;have h6:i / sz * sz + i % sz = i:=by rw [Nat.mul_comm];exact Nat.div_add_mod i sz
  rw [h6] at h5;rw [Nat.add_assoc,h6] at h4;rw [h4,h5]
end
/-! ### Parts of an owned slice -/
/-! ### Results: a struct in a cell of its own, and a value -/
variable {fn:Func} {ty:TypeId} {off:Nat}
theorem results_cell_tmp {t u:Tmp} {tmps:Array Value} {x:Value} (h:fn.results = #[.cell t ty,.tmp u]) (hp:tmps.getD t undef = .pointer (some ⟨b,off,none⟩)) (hx:tmps.getD u undef = x)
  (hl:(loadVar ty ⟨b,off,none⟩).run P w = .ok v w):(results fn tmps).run P w = .ok (.tuple #[v,x]) w:=by
 have hp':tmps[t]?.getD undef = .pointer (some ⟨b,off,none⟩):=by simpa using hp
 have hx':tmps[u]?.getD undef = x:=by simpa using hx
 simp only [results,h];simp [Sem.run_bind,asAddr,hp',hx',hl]
variable {base:World} {L:Env}
theorem H.retCT {t u:Nat} {x:Value} {dd:TypeDesc} {ls:List Value} [hu:Und P ty dd] [hs:Siz P ty m] (hr:fn.results = #[.cell t ty,.tmp u]) (hv:look? L t = some (.pointer (some ⟨b,off,none⟩))) (hx:look? L u = some x) (ha:aggD dd = true)
  (hrd:Rd f A b off ls) (hm:ls.length = m) (hA:∀ w,Sat base w f A→Sat base w f A') (h:R (.tuple #[.agg ls.toArray,x]) f A') (hmk:mk? L = none:=by exact rfl):H P base n L f A (.out .ret (.fn (FnPost P fn base R))):=.mk fun a w hf s=>by
 show bodyPost P fn (fun e w'=>∃ v f' A',e = .returned v ∧ R v f' A' ∧ Sat base w' f' A') .ret a w
 refine bodyPost_ret (v:=.tuple #[.agg ls.toArray,x]) ?_ (hf.bare hmk) ⟨_,f,A',rfl,h,hA w s⟩
 have h1:=hf.get t _ hv
 have h1':=hf.get u _ hx
 have h2:a.tmps.getD t undef = .pointer (some ⟨b,off,none⟩):=by simp [Array.getD_eq_getD_getElem?,h1]
 have h2':a.tmps.getD u undef = x:=by simp [Array.getD_eq_getD_getElem?,h1']
 have h3:=run_loadAtN (P:=P) hu ha hs (hrd base w s) hm
 unfold Instr.loadAt Instr.sureAddr at h3
 exact results_cell_tmp hr h2 h2' (by simpa using h3)
/-! ### 'clear' of a part of a row -/
/-! ### What several things are owned together -/
def pack {ι:Type} (φ:ι→Prop) (B:ι→List HP):HP:=fun x=>∃ i,φ i ∧ stars (B i) x
theorem pack_fold {φ:ι→Prop} {B:ι→List HP} (i:ι) (h:φ i):∀ x,stars (B i ++ A) x→stars (pack φ B::A) x:=
 fold_stars fun x hx=>⟨i,h,hx⟩
variable {K:Kont}
theorem H.unpack {φ:ι→Prop} {B:ι→List HP} (k:∀ i,φ i→H P base n L f (B i ++ A) K):H P base n L f (pack φ B::A) K:=
 H.unfold (ι:={ i // φ i }) (B:=fun i=>B i.1) (fun h ⟨i,hi,hx⟩=>⟨⟨i,hi⟩,hx⟩) fun i=>k i.1 i.2
theorem Fn.unpack {φ:ι→Prop} {B:ι→List HP} (k:∀ i,φ i→Fn P fid args f (B i ++ A) R):Fn P fid args f (pack φ B::A) R:=
 Fn.unfold (ι:={ i // φ i }) (B:=fun i=>B i.1) (fun h ⟨i,hi,hx⟩=>⟨⟨i,hi⟩,hx⟩) fun i=>k i.1 i.2
def b32 (t:Nat→UInt8):List Value:=[.int .u8 (t 0).toNat,.int .u8 (t 1).toNat,.int .u8 (t 2).toNat,.int .u8 (t 3).toNat,.int .u8 (t 4).toNat,.int .u8 (t 5).toNat,.int .u8 (t 6).toNat,.int .u8 (t 7).toNat,.int .u8 (t 8).toNat,.int .u8 (t 9).toNat,.int .u8 (t 10).toNat,.int .u8 (t 11).toNat,.int .u8 (t 12).toNat,.int .u8 (t 13).toNat,.int .u8 (t 14).toNat,.int .u8 (t 15).toNat,.int .u8 (t 16).toNat,.int .u8 (t 17).toNat,.int .u8 (t 18).toNat,.int .u8 (t 19).toNat,.int .u8 (t 20).toNat,.int .u8 (t 21).toNat,.int .u8 (t 22).toNat,.int .u8 (t 23).toNat,.int .u8 (t 24).toNat,.int .u8 (t 25).toNat,.int .u8 (t 26).toNat,.int .u8 (t 27).toNat,.int .u8 (t 28).toNat,.int .u8 (t 29).toNat,.int .u8 (t 30).toNat,.int .u8 (t 31).toNat]
def v11 (d:Nat→Int):List Value:=[.int .u64 (d 0),.int .u64 (d 1),.int .u64 (d 2),.int .u64 (d 3),.int .u64 (d 4),.int .u64 (d 5),.int .u64 (d 6),.int .u64 (d 7),.int .u64 (d 8),.int .u64 (d 9),.int .u64 (d 10)]
structure Req where
 client:Int
 time:Int
 kind:UInt8
 key:ByteArray
 val:ByteArray
 old:ByteArray
 to:ByteArray
 amount:Int
 tag:Nat→UInt8
def Req.vals (r:Req):List Value:=[.int .i64 r.client,.int .u64 r.time,.int .u8 (r.kind.toNat:Nat),.string r.key,.string r.val,.string r.old,.string r.to,.int .u64 r.amount] ++ b32 r.tag
def Req.zero:Req:=⟨0,0,0,.empty,.empty,.empty,.empty,0,fun _=>0⟩
structure Bod where
 kind:UInt8
 view:Int
 k:Int
 req:Req
 q:List (Int × Int)
 dig:Nat→UInt8
def Bod.vals (x:Bod) (p:Option Addr) (c:Nat):List Value:=[.int .u8 (x.kind.toNat:Nat),.int .u64 x.view,.int .u64 x.k] ++ x.req.vals ++ [.slice p x.q.length c] ++ b32 x.dig
structure Msg where
 origin:Int
 number:Int
 deps:Nat→Int
 body:Bod
 tag:Nat→UInt8
def Msg.vals (m:Msg) (p:Option Addr) (c:Nat):List Value:=[.int .i64 m.origin,.int .u64 m.number] ++ v11 m.deps ++ m.body.vals p c ++ b32 m.tag
def pairV (p:Int × Int):List Value:=[.int .i64 p.1,.int .u64 p.2]
def QAt (f:Frag) (p:Option Addr) (q:List (Int × Int)):Prop:=∀ i x,q[i]? = some x→∃ b off cs T fr,p = some ⟨b,off,none⟩ ∧ f b = some (.cells cs T fr) ∧ ∀ j,j < (pairV x).length→cs[off + i * 2 + j]? = (pairV x)[j]?
theorem QAt.nil (f:Frag) (p:Option Addr):QAt f p []:=fun i x h=>by simp at h
variable {l:List UInt8}
section
variable (f:Frag) (A:List HP) (x:Bod) (q:Option Addr) (qc:Nat)
theorem view1_fn (hs:Src Tryz.prog f A (.slice p l.length c) 1 l.length (bytesV l)) (hn:p = none→l = []) (hl:l.length ≤ 10000000000) :
  Fn Tryz.prog 241 [.slice p l.length c,.agg (x.vals q qc).toArray] f A (BytesR (l ++ be 8 x.view) f A):=by
 refine Fn.e2 Tryz.func241 Tryz.ntmps241 fun base=>?_;refine qdK fun xb=>?_;refine gH ?_;refine H.Aq rfl rfl rfl (word_fn f _ hs.cons hn hl) fun p1 c1=>?_;refine gZ ?_;refine H.Ac (.there _ (.here _ _)) ?_;exact H.r1 ⟨p1,c1,rfl,rfl,rfl⟩
theorem view3_fn:Fn Tryz.prog 243 [.agg (x.vals q qc).toArray] f A (Ret (.bool (decide (1 ≤ x.view))) f A):=by
 refine Fn.e1 Tryz.func243 Tryz.ntmps243 fun base=>?_;refine qdK fun xb=>?_;refine gP ?_;exact qaR
theorem k_fn:Fn Tryz.prog 195 [.agg (x.vals q qc).toArray] f A (Ret (.bool (decide (1 ≤ x.k ∧ x.k ≤ 4611686018427387904))) f A):=by
 by_cases h1:1 ≤ x.k
 ·refine Fn.e1 Tryz.func195 Tryz.ntmps195 fun base=>?_;refine qdK fun xb=>?_;refine gS ?_;exact qcT
 ·refine Fn.e1 Tryz.func195 Tryz.ntmps195 fun base=>?_;refine qdK fun xb=>?_;refine gQ ?_;exact qcT
def Req.asked (r:Req):Prop:=1 ≤ r.client ∧ r.client ≤ 8 ∧ 1 ≤ r.time ∧ r.time ≤ 4611686018427387904 ∧ (r.key.size ≤ 32 ∧ r.to.size ≤ 32) ∧ (r.val.size ≤ 128 ∧ r.old.size ≤ 128)
instance (r:Req):Decidable r.asked:=by unfold Req.asked;infer_instance
theorem asked_fn (r:Req):Fn Tryz.prog 183 [.agg r.vals.toArray] f A (Ret (.bool (decide r.asked)) f A):=by
 by_cases h1:1 ≤ r.client
 ·skip;by_cases h2:r.client ≤ 8
  ·skip;by_cases h3:1 ≤ r.time
   ·skip;by_cases h4:r.time ≤ 4611686018427387904
    ·skip;by_cases h5:r.key.size ≤ 32 ∧ r.to.size ≤ 32
     ·skip;by_cases h6:r.val.size ≤ 128 ∧ r.old.size ≤ 128
      ·skip;refine qgi fun base=>?_;refine qdG fun xb=>?_;refine qeD ?_;exact H.Ad rfl rfl (fun _ h=>h) ⟨by rw [decide_eq_true (show r.asked from ⟨h1,h2,h3,h4,h5,h6⟩),decide_eq_true (by split <;> omega)],rfl,rfl⟩
      ·skip;refine qgi fun base=>?_;refine qdG fun xb=>?_;refine qeD ?_;exact H.Ad rfl rfl (fun _ h=>h) ⟨by rw [decide_eq_false (show ¬ r.asked from fun h=>h6 h.2.2.2.2.2),decide_eq_false (by split <;> omega)],rfl,rfl⟩
     ·skip;refine qgi fun base=>?_;refine qdG fun xb=>?_;refine gg ?_;refine H.max2 (z:=if (r.key.size:Int) < r.to.size then (r.to.size:Int) else r.key.size) rfl rfl rfl rfl rfl ?_;refine gY ?_;refine qdx ?_;exact H.Ad rfl rfl (fun _ h=>h) ⟨by rw [decide_eq_false (fun h=>h5 h.2.2.2.2.1)],rfl,rfl⟩
    ·skip;refine qgi fun base=>?_;refine qdG fun xb=>?_;refine gg ?_;refine qdx ?_;exact H.Ad rfl rfl (fun _ h=>h) ⟨by rw [decide_eq_false (fun h=>h4 h.2.2.2.1)],rfl,rfl⟩
   ·skip;refine qgi fun base=>?_;refine qdG fun xb=>?_;refine gg ?_;refine qdx ?_;exact H.Ad rfl rfl (fun _ h=>h) ⟨by rw [decide_eq_false (fun h=>h3 h.2.2.1)],rfl,rfl⟩
  ·skip;refine qgi fun base=>?_;refine qdG fun xb=>?_;refine gg ?_;refine qdx ?_;exact H.Ad rfl rfl (fun _ h=>h) ⟨by rw [decide_eq_false (fun h=>h2 h.2.1)],rfl,rfl⟩
 ·skip;refine qgi fun base=>?_;refine qdG fun xb=>?_;refine gQ ?_;refine qdx ?_;exact H.Ad rfl rfl (fun _ h=>h) ⟨by rw [decide_eq_false (fun h=>h1 h.1)],rfl,rfl⟩
def quo:Int→List (Int × Int)→Bool
 | _,[]=>true
 | was,p::r=>if p.1 ≤ was ∨ 11 < p.1 ∨ p.2 < 1 ∨ 65536 < p.2 then false else quo p.1 r
theorem quorum_fn {l:List (Int × Int)} (hq:QAt f p l) (hl:l.length ≤ 1000000000000) :
  Fn Tryz.prog 202 [.slice p l.length c] f A (Ret (.bool (quo 0 l && decide (0 < l.length))) f A):=by
 refine Fn.e1 Tryz.func202 Tryz.ntmps202 fun base=>?_;refine gZ ?_;refine H.lo (ι:=Nat × Int) (fun i=>[(8,.int .i64 (i.1:Int)),(7,.int .i64 (l.length:Nat)),(3,.int .i64 i.2),(0,.slice p l.length c),(6,.slice p l.length c)]) (fun _=>f) (fun _=>A) (fun i=>i.1 ≤ l.length ∧ quo 0 l = quo i.2 (l.drop i.1)) (fun i=>l.length - i.1) (0,0) ⟨Nat.zero_le _,rfl⟩ fun i hi=>?_;obtain ⟨i,w⟩:=i;obtain ⟨hi,hw⟩:i ≤ l.length ∧ quo 0 l = quo w (l.drop i):=hi;show H _ _ _ [(8,.int .i64 (i:Int)),_,(3,.int .i64 w),_,_] _ _ _;rw [hw];refine gM ?_;by_cases hlt:i < l.length
 ·have hx:l[i]? = some l[i]:=List.getElem?_eq_getElem hlt;have hd:l.drop i = l[i]::l.drop (i + 1):=List.drop_eq_getElem_cons hlt
  generalize l[i] = x at hx hd;obtain ⟨b,off,cs,T,fr,rfl,hfb,hcs⟩:=hq i x hx;have rd:∀ A,Rd f A b (off + i * 2) (pairV x):=fun A=>Rd.imm hfb hcs;clear hcs hfb
  have hquo:quo w (l.drop i) = if x.1 ≤ w ∨ 11 < x.1 ∨ x.2 < 1 ∨ 65536 < x.2 then false else quo x.1 (l.drop (i + 1)):=by rw [hd];rfl
  refine gI ?_;refine H.Ak rfl rfl rfl rfl hlt rfl ?_;refine H.Ae (ls:=pairV x) rfl rfl rfl (rd _) rfl rfl ?_;refine H.Ah rfl rfl rfl fun xb=>?_;refine H.Af (ls:=[.int .i64 0,.int .u64 0]) (vs:=pairV x) (ls':=pairV x) rfl rfl rfl (zaa rfl) rfl rfl (Nat.le_refl 2) (by repeat constructor) ?_;rw [hquo];by_cases h1:x.1 ≤ w
  ·rw [if_pos (.inl h1)];clear hquo hw;refine gY ?_;exact qaR
  ·by_cases h2 : 11 < x.1
   ·rw [if_pos (.inr (.inl h2))];clear hquo hw;refine gg ?_;exact qaR
   ·by_cases h3 : x.2 < 1
    ·rw [if_pos (.inr (.inr (.inl h3)))];clear hquo hw;refine gg ?_;exact qaR
    ·by_cases h4:65536 < x.2
     ·rw [if_pos (.inr (.inr (.inr h4)))];clear hquo hw;refine gQ ?_;exact qaR
     ·have hno:¬ (x.1 ≤ w ∨ 11 < x.1 ∨ x.2 < 1 ∨ 65536 < x.2):=by omega
      rw [if_neg hno];rw [if_neg hno] at hquo;refine gY ?_;refine qdx ?_;exact H.ag (i + 1,x.1) ⟨by show i + 1 ≤ l.length;omega,by first | rfl | exact hw.trans hquo⟩ (by show l.length - (i + 1) < l.length - i;omega)
 ·have:i = l.length:=by omega
  subst this;rw [List.drop_length];refine gF ?_;exact H.Ad rfl rfl (fun _ h=>h) ⟨by simp [quo],rfl,rfl⟩
end
def Req.head (r:Req):List UInt8:=[UInt8.ofNat (r.client % 256).toNat,r.kind]
def Req.bytes (r:Req):List UInt8:=r.head ++ be 8 r.time ++ be 8 r.amount ++ textB r.key ++ textB r.val ++ textB r.old ++ textB r.to
def Req.texts (r:Req):List ByteArray:=[r.key,r.val,r.old,r.to]
theorem u8_wrap (z:Int):IntKind.u8.wrap z = ((UInt8.ofNat (z % 256).toNat).toNat:Int):=by
 have h:IntKind.u8.wrap z = z % 256:=by simp [IntKind.wrap,IntKind.signed,IntKind.bits]
 rw [h];have h1:0 ≤ z % 256:=Int.emod_nonneg _ (by decide);have h2:z % 256 < 256:=Int.emod_lt_of_pos _ (by decide)
 generalize z % 256 = y at h1 h2;exact qcu
section
variable (f:Frag) (A:List HP)
theorem request_fn (r:Req) (ha:r.asked) (hl:l.length ≤ 1000000000) :
  Fn Tryz.prog 187 [.slice p l.length c,.agg r.vals.toArray] f (slc p l.length c 5 1 (bytesV l)::A) (BytesR (l ++ r.bytes) f A):=by
 refine Fn.e2 Tryz.func187 Tryz.ntmps187 fun base=>?_;refine qdG fun xb=>?_;refine gT ?_;rw [u8_wrap];refine qdN fun tb=>?_;refine qgG fun p2 c2=>?_;refine gL ?_;refine qdx ?_;have e0:(l ++ r.head).length = l.length + 2:=by rw [List.length_append];rfl
 have e1:bytesV (l ++ r.head) = bytesV l ++ bytesV r.head:=zal _ _;rw [show (2:Nat) = 2 from rfl]
 generalize hl1:l ++ r.head = l1 at e0 e1;show H _ _ _ _ _ (row _ _ _::slc p2 (l.length + 2) c2 _ _ (bytesV l ++ bytesV r.head)::A) _;rw [← e0,← e1];refine H.draw (qt 3 0 ++ qt 3 4 ++ [(3,true),(7,true)] ++ qt 1 8) (by kernel_rfl) (by decide +kernel) (by repeat (first | exact zac | refine zab ?_ | refine zak ?_ | refine zap ?_)) (S:=[_]) rfl ?_;refine gR ?_;refine HQ.event ?_;refine H.Ay (.there _ (.here _ _ _)) (by omega) fun b2 hp=>?_;subst hp;refine qgQ fun p3 c3=>?_;refine gA ?_;refine qeN ?_;refine H.Ay (.here _ _ _) (by rw [List.length_append];omega) fun b3 hp=>?_;subst hp;refine qdp ?_;refine H.back (A:=[_]) rfl ?_;refine HQ.event ?_;refine H.Aq rfl rfl rfl (word_fn (l:=l1 ++ be 8 r.time) f _ (Src.slcS (.there _ (.here _ _ _)) (by rw [zad];exact (Nat.mul_one _).symm)) (fun h=>by cases h) (by rw [List.length_append,be_len];omega)) fun p4 c4=>?_;refine gA ?_;refine qeN ?_;refine qdp ?_;refine H.back (A:=[_]) rfl ?_;refine gW ?_;refine gH ?_;refine qdN fun sb=>?_;refine gZ ?_
 have hsz:∀ (i:Nat) (s:ByteArray),r.texts[i]? = some s→s.size ≤ 128:=by
  obtain ⟨_,_,_,_,⟨k1,k2⟩,k3,k4⟩:=ha;intro i s hs
  have:=List.mem_of_getElem? hs;simp only [Req.texts,List.mem_cons,List.not_mem_nil,or_false] at this
  rcases this with rfl | rfl | rfl | rfl <;> omega
 generalize hl2:l1 ++ be 8 r.time ++ be 8 r.amount = l2;have e2:l2.length = l1.length + 16:=by rw [← hl2,List.length_append,List.length_append,be_len,be_len]
 refine H.loop (ι:=Nat × Option Addr × Nat) (fun i=>[(38,.int .i64 (i.1:Int)),(37,.int .i64 4),(36,.slice (some ⟨sb,0,none⟩) 4 4),(0,.slice i.2.1 (l2 ++ (r.texts.take i.1).flatMap textB).length i.2.2)]) (fun _=>f)
  (fun i=>row sb 9 [.string r.key,.string r.val,.string r.old,.string r.to]::row xb 44 r.vals::slc i.2.1 (l2 ++ (r.texts.take i.1).flatMap textB).length i.2.2 5 1 (bytesV (l2 ++ (r.texts.take i.1).flatMap textB))::A)
  (fun i=>i.1 ≤ 4 ∧ (l2 ++ (r.texts.take i.1).flatMap textB).length ≤ l2.length + 200 * i.1) (fun i=>4 - i.1) (0,p4,c4) ?_ ?_ rfl ?_ fun i hi=>?_
 ·exact ⟨Nat.zero_le _,by simp⟩
 ·refine ⟨rfl,rfl,rfl,?_,trivial⟩;show some (Value.slice p4 l2.length c4) = some (Value.slice p4 (l2 ++ []).length c4);rw [List.append_nil]
 ·show _ = _::_::slc p4 (l2 ++ []).length c4 _ 1 (bytesV (l2 ++ []))::A;rw [List.append_nil];rfl
 ·obtain ⟨i,p',c'⟩:=i;obtain ⟨hi,hlen⟩:i ≤ 4 ∧ (l2 ++ (r.texts.take i).flatMap textB).length ≤ l2.length + 200 * i:=hi;show H _ _ _ [(38,.int .i64 (i:Int)),_,_,(0,.slice p' (l2 ++ (r.texts.take i).flatMap textB).length c')] _ (_::_::slc p' (l2 ++ (r.texts.take i).flatMap textB).length c' _ 1 (bytesV (l2 ++ (r.texts.take i).flatMap textB))::A) _;generalize hacc:l2 ++ (r.texts.take i).flatMap textB = acc at hlen;have hpos:l2.length ≤ acc.length:=by rw [← hacc,List.length_append];omega
  refine gM ?_;by_cases hlt:i < 4
  ·obtain ⟨s,hs⟩:∃ s,r.texts[i]? = some s:=⟨r.texts[i]'hlt,List.getElem?_eq_getElem hlt⟩
   have hv:([.string r.key,.string r.val,.string r.old,.string r.to]:List Value)[i]? = some (.string s):=by
    have:([.string r.key,.string r.val,.string r.old,.string r.to]:List Value) = r.texts.map Value.string:=rfl;rw [this,List.getElem?_map,hs];rfl
   have hs128:=hsz i s hs
   have e3:l2 ++ (r.texts.take (i + 1)).flatMap textB = acc ++ textB s:=by
    rw [List.take_add_one,hs,← hacc];simp
   refine H.Ay (.there _ (.there _ (.here _ _ _))) (by omega) fun b' hp=>?_;subst hp;refine gI ?_;refine H.index1 rfl rfl rfl rfl hlt rfl ?_;refine H.Ab rfl rfl rfl (.of (Rd.ofRow (by repeat constructor)) hv) rfl ?_;refine gL ?_;refine H.Aq rfl rfl rfl (text_fn (l:=acc) f _ (Src.slcS (.there _ (.there _ (.here _ _ _))) (by rw [zad];exact (Nat.mul_one _).symm)) (fun h=>by cases h) (by omega) (by omega)) fun p5 c5=>?_;refine gJ ?_;refine H.Ac (.there _ (.there _ (.there _ (.here _ _)))) ?_;refine qeg ?_;have hts:(textB s).length ≤ 200:=by unfold textB;rw [List.length_append,be_len,zbn];omega
   refine H.Ax (i + 1,p5,c5) ⟨by show i + 1 ≤ 4;omega,?_⟩ (by show 4 - (i + 1) < 4 - i;omega) ⟨rfl,rfl,rfl,?_,trivial⟩ rfl ?_
   ·show (l2 ++ (r.texts.take (i + 1)).flatMap textB).length ≤ l2.length + 200 * (i + 1);rw [e3,List.length_append];omega
   ·show some _ = some (Value.slice p5 (l2 ++ (r.texts.take (i + 1)).flatMap textB).length c5);rw [e3]
   ·show _ = _::_::slc p5 (l2 ++ (r.texts.take (i + 1)).flatMap textB).length c5 _ 1 (bytesV (l2 ++ (r.texts.take (i + 1)).flatMap textB))::A;rw [e3]
  ·have:i = 4:=by omega
   subst this;refine gX ?_;refine qdx ?_;refine qdx ?_;have e4:acc = l ++ r.bytes:=by rw [← hacc,← hl2,← hl1];simp [Req.bytes,Req.texts]
   subst e4;exact H.r1 ⟨p',c',rfl,rfl,rfl⟩
end
section
variable (f:Frag) (A:List HP)
theorem rrequest_fn (r:Req) (ha:r.asked) (hl:l.length ≤ 1000000000) :
  Fn Tryz.prog 61 [.slice p l.length c,.agg r.vals.toArray] f (slc p l.length c 5 1 (bytesV l)::A) (BytesR (l ++ r.bytes) f A):=by
 refine Fn.e2 Tryz.func61 Tryz.ntmps61 fun base=>?_;refine qdG fun xb=>?_;refine gT ?_;rw [u8_wrap];refine qdN fun tb=>?_;refine qgG fun p2 c2=>?_;refine gL ?_;refine qdx ?_;have e0:(l ++ r.head).length = l.length + 2:=by rw [List.length_append];rfl
 have e1:bytesV (l ++ r.head) = bytesV l ++ bytesV r.head:=zal _ _;rw [show (2:Nat) = 2 from rfl]
 generalize hl1:l ++ r.head = l1 at e0 e1;show H _ _ _ _ _ (row _ _ _::slc p2 (l.length + 2) c2 _ _ (bytesV l ++ bytesV r.head)::A) _;rw [← e0,← e1];refine H.draw (qt 3 0 ++ qt 3 4 ++ [(3,true),(7,true)] ++ qt 1 8) (by kernel_rfl) (by decide +kernel) (by repeat (first | exact zac | refine zab ?_ | refine zak ?_ | refine zap ?_)) (S:=[_]) rfl ?_;refine gR ?_;refine HQ.event ?_;refine H.Ay (.there _ (.here _ _ _)) (by omega) fun b2 hp=>?_;subst hp;refine H.Aq rfl rfl rfl (zbr (l:=l1) f _ (Src.slcS (.there _ (.here _ _ _)) (by rw [zad];exact (Nat.mul_one _).symm)) (by omega)) fun p3 c3=>?_;refine gA ?_;refine qeN ?_;refine H.Ay (.here _ _ _) (by rw [List.length_append];omega) fun b3 hp=>?_;subst hp;refine qdp ?_;refine H.back (A:=[_]) rfl ?_;refine HQ.event ?_;refine H.Aq rfl rfl rfl (zbr (l:=l1 ++ be 8 r.time) f _ (Src.slcS (.there _ (.here _ _ _)) (by rw [zad];exact (Nat.mul_one _).symm)) (by rw [List.length_append,be_len];omega)) fun p4 c4=>?_;refine gA ?_;refine qeN ?_;refine qdp ?_;refine H.back (A:=[_]) rfl ?_;refine gW ?_;refine gH ?_;obtain ⟨_,_,_,_,⟨k1,k2⟩,k3,k4⟩:=ha;generalize hl2:l1 ++ be 8 r.time ++ be 8 r.amount = l2;have e2:l2.length = l1.length + 16:=by rw [← hl2,List.length_append,List.length_append,be_len,be_len]
 refine H.Aq rfl rfl rfl (rtext_fn (l:=l2) f _ (Src.slcS (.there _ (.here _ _ _)) (by rw [zad];exact (Nat.mul_one _).symm)) (by omega) (by omega)) fun p5 c5=>?_;generalize hm0:l2 ++ textB r.key = m0;have em0:m0.length ≤ l2.length + 200:=by rw [← hm0,List.length_append];unfold textB;rw [List.length_append,be_len,zbn];omega
 refine gT ?_;refine qeN ?_;refine qdp ?_;skip;refine H.Aq rfl rfl rfl (rtext_fn (l:=m0) f _ (Src.slcS (.there _ (.here _ _ _)) (by rw [zad];exact (Nat.mul_one _).symm)) (by omega) (by omega)) fun p6 c6=>?_;generalize hm1:m0 ++ textB r.val = m1;have em1:m1.length ≤ m0.length + 200:=by rw [← hm1,List.length_append];unfold textB;rw [List.length_append,be_len,zbn];omega
 refine gT ?_;refine qeN ?_;refine qdp ?_;skip;refine H.Aq rfl rfl rfl (rtext_fn (l:=m1) f _ (Src.slcS (.there _ (.here _ _ _)) (by rw [zad];exact (Nat.mul_one _).symm)) (by omega) (by omega)) fun p7 c7=>?_;generalize hm2:m1 ++ textB r.old = m2;have em2:m2.length ≤ m1.length + 200:=by rw [← hm2,List.length_append];unfold textB;rw [List.length_append,be_len,zbn];omega
 refine gT ?_;refine qeN ?_;refine qdp ?_;skip;refine H.Aq rfl rfl rfl (rtext_fn (l:=m2) f _ (Src.slcS (.there _ (.here _ _ _)) (by rw [zad];exact (Nat.mul_one _).symm)) (by omega) (by omega)) fun p8 c8=>?_;generalize hm3:m2 ++ textB r.to = m3;have em3:m3.length ≤ m2.length + 200:=by rw [← hm3,List.length_append];unfold textB;rw [List.length_append,be_len,zbn];omega
 refine gV ?_;refine qeN ?_;refine qdp ?_;skip;refine qdx ?_;have e9:m3 = l ++ r.bytes:=by rw [← hm3,← hm2,← hm1,← hm0,← hl2,← hl1];simp [Req.bytes]
 subst e9;exact H.r1 ⟨p8,c8,rfl,rfl,rfl⟩
end
def baOf (l:List UInt8):ByteArray:=⟨l.toArray⟩
theorem H.cutOpen {cb:Nat} {sp:Bool}
  (k:∀ p c,BAt f p l→l.length ≤ c→H P base n L f (row cb 290 [.slice p l.length c,.bool sp]::F) K):H P base n L f (cutH f cb l sp::F) K:=.mk fun a w hf s=>by
 obtain ⟨m,hm,hd,hw⟩:=s.mem
 obtain ⟨m1,m2,d,rfl,⟨⟨p,c⟩,hh⟩,r⟩:=hm
 obtain ⟨n1,n2,dd,rfl,⟨⟨hb,hc⟩,rfl⟩,n3,n4,d3,rfl,h4,h5⟩:=hh
 refine (k p c hb hc).out a w hf ⟨s.os,s.tape,s.output,s.size,s.imm,_,?_,hd,hw⟩
 have e5:n4 = nil0:=h5
 subst e5
 rw [nil_un,un_nil]
 rw [nil_un,un_nil] at d
 exact ⟨n3,m2,d,rfl,h4,r⟩
def Cs.hash (s:Cs):Nat→UInt8:=fun i=>(s.raw 32).getD i 0
def b32L (t:Nat→UInt8):List UInt8:=[t 0,t 1,t 2,t 3,t 4,t 5,t 6,t 7,t 8,t 9,t 10,t 11,t 12,t 13,t 14,t 15,t 16,t 17,t 18,t 19,t 20,t 21,t 22,t 23,t 24,t 25,t 26,t 27,t 28,t 29,t 30,t 31]
theorem b32_bytes (t:Nat→UInt8):b32 t = bytesV (b32L t):=rfl
theorem list32 {α:Type} {l:List α} (h:l.length = 32) (z:α):l = [l.getD 0 z,l.getD 1 z,l.getD 2 z,l.getD 3 z,l.getD 4 z,l.getD 5 z,l.getD 6 z,l.getD 7 z,l.getD 8 z,l.getD 9 z,l.getD 10 z,l.getD 11 z,l.getD 12 z,l.getD 13 z,l.getD 14 z,l.getD 15 z,l.getD 16 z,l.getD 17 z,l.getD 18 z,l.getD 19 z,l.getD 20 z,l.getD 21 z,l.getD 22 z,l.getD 23 z,l.getD 24 z,l.getD 25 z,l.getD 26 z,l.getD 27 z,l.getD 28 z,l.getD 29 z,l.getD 30 z,l.getD 31 z]:=by
 match l,h with
 | [_,_,_,_,_,_,_,_,_,_,_,_,_,_,_,_,_,_,_,_,_,_,_,_,_,_,_,_,_,_,_,_],_=>rfl
theorem b32L_get (h:l.length = 32):b32L (fun i=>l.getD i 0) = l:=(list32 h 0).symm
section
variable (f:Frag) (F:List HP) (cb:Nat) (s:Cs)
theorem text_cs {most:Nat} (hl:s.l.length ≤ 1000000000000) (hm:most ≤ 100000) :
  Fn Tryz.prog 240 [.pointer (some ⟨cb,0,none⟩),.int .i64 (most:Nat)] f (cutC f cb s::F) (Ret (.string (baOf (s.text most))) f (cutC f cb (s.textS most)::F)):=by
 have hn:=s.num2_lt;have hh:=half_cs f F cb s hl
 unfold cutC at hh ⊢;refine cutH_open fun p c hb hc=>?_
 have fin:¬ s.tok most = true→∀ x,stars (row cb 290 [.slice p s.l.length c,.bool true]::F) x→stars (cutH f cb (s.textS most).l (s.textS most).bad::F) x:=fun ht=>by
  unfold Cs.textS;rw [if_neg ht];exact zbg hb hc
 by_cases h2:s.ok 2 = true
 ·obtain ⟨hb0,hl2⟩:=(Cs.ok_iff _ _).1 h2;have hs:s.skip 2 = ⟨s.l.drop 2,false⟩:=by unfold Cs.skip;rw [if_pos h2]
  rw [hs] at hh;generalize hk:s.num 2 = k at hn hh;by_cases h3:k ≤ most
  ·by_cases h4 : k ≤ (s.l.drop 2).length
   ·have ht:s.tok most = true:=by
     rw [List.length_drop] at h4;simp [Cs.tok,h2,hk,h3];omega
    have e1:s.text most = (s.l.drop 2).take k:=by unfold Cs.text;rw [if_pos ht,hk]
    have e2:s.textS most = ⟨(s.l.drop 2).drop k,false⟩:=by unfold Cs.textS;rw [if_pos ht,hk,List.drop_drop]
    rw [e1,e2];have hlen:((s.l.drop 2).take k).length = k:=by rw [List.length_take];omega
    refine Fn.e2 Tryz.func240 Tryz.ntmps240 fun base=>?_;refine gP ?_;refine H.imp (zbg hb hc) ?_;refine H.Ag rfl rfl rfl hh ?_;refine gT ?_;refine H.cutOpen fun p2 c2 hb2 hc2=>?_;refine gY ?_;refine H.imp (zbg hb2 hc2) ?_;have hty:=take_yes f F cb h4 (by rw [List.length_drop];omega);refine H.callP rfl rfl rfl hty fun i hb3=>?_
    obtain ⟨p3,c3⟩:=i;have hb3:BAt f p3 ((s.l.drop 2).take k):=hb3;refine gT ?_
    refine H.cutOpen fun p4 c4 hb4 hc4=>?_;refine gN ?_;have hsrc:∀ A,Src Tryz.prog f A (.slice p3 ((s.l.drop 2).take k).length c3) 1 ((s.l.drop 2).take k).length (bytesV ((s.l.drop 2).take k)):=fun A=>hb3.src;have hnil:p3 = none→(s.l.drop 2).take k = []:=fun hp=>by rcases hb3 with h | ⟨b,off,cs,T,fr,h,_⟩;exact h;rw [hp] at h;cases h
    refine H.Bk (d:=41) (u:=.slice p3 ((s.l.drop 2).take k).length c3) rfl (by rw [hlen]) ?_;refine H.convBS rfl rfl (hsrc _) hnil rfl ?_;refine gZ ?_;exact H.Ad rfl rfl (zbg hb4 hc4) ⟨rfl,rfl,rfl⟩
   ·have ht:¬ s.tok most = true:=by
     rw [List.length_drop] at h4;simp [Cs.tok,h2,hk,h3];omega
    have e1:s.text most = []:=by unfold Cs.text;rw [if_neg ht]
    rw [e1];refine Fn.e2 Tryz.func240 Tryz.ntmps240 fun base=>?_;refine gP ?_;refine H.imp (zbg hb hc) ?_;refine H.Ag rfl rfl rfl hh ?_;refine gT ?_;refine H.cutOpen fun p2 c2 hb2 hc2=>?_;refine gY ?_;refine H.imp (zbg hb2 hc2) ?_;refine H.Ag rfl rfl rfl (take_no f F cb (.inr (.inr (by show ((s.l.drop 2).length:Int) < _;omega)))) ?_;refine gT ?_;refine H.cutOpen fun p4 c4 hb4 hc4=>?_;refine gP ?_;exact H.Ad rfl rfl (fin ht) ⟨rfl,rfl,rfl⟩
  ·have ht:¬ s.tok most = true:=by
    simp [Cs.tok,h2,hk,h3]
   have e1:s.text most = []:=by unfold Cs.text;rw [if_neg ht]
   rw [e1];exact qaS
 ·have ht:¬ s.tok most = true:=by simp [Cs.tok,h2]
  have e1:s.text most = []:=by unfold Cs.text;rw [if_neg ht]
  have hs:s.skip 2 = ⟨s.l,true⟩:=by unfold Cs.skip;rw [if_neg h2]
  rw [hs] at hh;rw [e1];generalize hk:s.num 2 = k at hn hh;exact qaS
theorem hash_cs (hl:s.l.length ≤ 1000000000) :
  Fn Tryz.prog 205 [.pointer (some ⟨cb,0,none⟩)] f (cutC f cb s::F) (Ret (.agg (b32 s.hash).toArray) f (cutC f cb (s.skip 32)::F)):=by
 refine Fn.e1 Tryz.func205 Tryz.ntmps205 fun base=>?_;refine gA ?_;refine H.Ah rfl rfl rfl fun hb=>?_;refine gA ?_;refine H.db (S:=[]) rfl ?_;refine HB.qu [0,1] 2 ?_;refine qdu ?_;refine gB ?_;refine qdg ?_;refine HB.ev 2 ?_;refine qdp ?_;refine H.Aq rfl rfl rfl (raw_cs f _ cb s 32 (by omega)) fun p1 c1=>?_;refine qcX ?_;refine HB.ev 3 ?_;by_cases h:s.ok 32 = true
 ·have hr:(s.raw 32).length = 32:=by
   unfold Cs.raw;rw [if_pos h,List.length_take]
   have:=((Cs.ok_iff _ _).1 h).2;omega
  have hs:Src Tryz.prog f _ (.slice p1 (s.raw 32).length c1) 1 (s.raw 32).length (bytesV (s.raw 32)):=Src.slcS (.here (cutC f cb (s.skip 32)::row hb 42 (zeros [.int .u8 0] 32)::F) _ (slc p1 (s.raw 32).length c1 5 1 (bytesV (s.raw 32)))) (by rw [zad];exact (Nat.mul_one _).symm);refine H.copy rfl rfl rfl rfl hs.len (k0:=(s.raw 32).length) (by rw [hr];rfl) hs.cells (ls':=bytesV (s.raw 32)) ?_ ?_ (zas _) (by repeat constructor) ?_
  ·unfold splice;rw [zad,hr];exact List.append_nil _
  ·rw [zad,hr];exact Nat.le_refl _
  refine qdM ?_;refine gA ?_;have e:bytesV (s.raw 32) = b32 s.hash:=by rw [b32_bytes];unfold Cs.hash;rw [b32L_get hr]
  rw [e];refine H.Ae (ls:=b32 s.hash) rfl rfl rfl (Rd.ofRow (by repeat constructor)) rfl rfl ?_;refine H.Af (ls:=b32 s.hash) (vs:=b32 s.hash) (ls':=b32 s.hash) rfl rfl rfl (zaa rfl) rfl rfl (Nat.le_refl 32) (by repeat constructor) ?_;refine qfk ?_;exact qbt
 ·have hr:s.raw 32 = []:=by unfold Cs.raw;rw [if_neg h]
  have hh:b32 s.hash = zeros [.int .u8 0] 32:=by unfold Cs.hash;rw [hr];rfl
  rw [hr,hh];refine H.copy (m:=0) (k0:=0) (cs:=[]) (ls':=zeros [.int .u8 0] 32) rfl rfl rfl rfl (fun w=>rfl) rfl (fun base w sa=>?_) rfl (by decide) (fun v hv=>by cases hv) (by repeat constructor) ?_
  ·cases p1 with
   | none=>exact run_firstCells_none w 1 0 0 c1
   | some a=>exact run_firstCells_some w 1 0 a 0 c1 [] (by simp) (by simp)
  refine qdM ?_;refine gA ?_;refine H.Ae (ls:=zeros [.int .u8 0] 32) rfl rfl rfl (Rd.ofRow (by repeat constructor)) rfl rfl ?_;refine H.Af (ls:=zeros [.int .u8 0] 32) (vs:=zeros [.int .u8 0] 32) (ls':=zeros [.int .u8 0] 32) rfl rfl rfl (zaa rfl) rfl rfl (Nat.le_refl 32) (by repeat constructor) ?_;refine qfk ?_;exact qbt
end
def Cs.byte (s:Cs):UInt8:=UInt8.ofNat (s.num 1)
theorem Cs.byte_nat (s:Cs):((s.byte.toNat:Nat):Int) = (s.num 1:Nat):=by
 have:=s.num1_lt;unfold Cs.byte;rw [UInt8.toNat_ofNat'];omega
def Cs.req (mk mv:Nat) (s:Cs):Req:=
 let c1:=s.skip 1
 let c2:=c1.skip 1
 let c3:=c2.skip 8
 let c4:=c3.skip 8
 let c5:=c4.textS mk
 let c6:=c5.textS mv
 let c7:=c6.textS mv
 let c8:=c7.textS mk
 ⟨(s.num 1:Nat),(c2.num 8:Nat),c1.byte,baOf (c4.text mk),baOf (c5.text mv),baOf (c6.text mv),baOf (c7.text mk),(c3.num 8:Nat),c8.hash⟩
def Cs.reqS (mk mv:Nat) (s:Cs):Cs:=((((((((s.skip 1).skip 1).skip 8).skip 8).textS mk).textS mv).textS mv).textS mk).skip 32
def Cs.pairs:Nat→Cs→List (Int × Int)→List (Int × Int) × Cs
 | 0,s,acc=>(acc,s)
 | n + 1,s,acc=>if s.bad then (acc,s) else Cs.pairs n ((s.skip 1).skip 8) (acc ++ [(((s.num 1:Nat):Int),(((s.skip 1).num 8:Nat):Int))])
def noTag:Nat→UInt8:=fun _=>0
def Bod.zero (kind:UInt8):Bod:=⟨kind,0,0,Req.zero,[],noTag⟩
def b8 (n:Int):UInt8:=UInt8.ofNat (n % 256).toNat
def pairB (p:Int × Int):List UInt8:=b8 p.1::be 8 p.2
def Bod.putK (x:Bod):Nat→List UInt8
 | 1=>be 8 x.view ++ x.req.bytes ++ b32L x.req.tag
 | 2=>be 8 x.view ++ be 8 x.k
 | 3=>be 8 x.view
 | 4=>be 8 x.view ++ [b8 x.q.length] ++ x.q.flatMap pairB
 | 5=>be 8 x.view
 | 6=>be 8 x.k ++ b32L x.dig
 | _=>[]
def Bod.put (x:Bod):List UInt8:=x.putK x.kind.toNat
def Cs.bodyK (mk mv:Nat) (kind:UInt8) (s:Cs):Nat→Bod × Cs
 | 1=>({ Bod.zero kind with view:=(s.num 8:Nat),req:=(s.skip 8).req mk mv },(s.skip 8).reqS mk mv)
 | 2=>({ Bod.zero kind with view:=(s.num 8:Nat),k:=((s.skip 8).num 8:Nat) },(s.skip 8).skip 8)
 | 3=>({ Bod.zero kind with view:=(s.num 8:Nat) },s.skip 8)
 | 4 => let r := Cs.pairs ((s.skip 8).num 1) ((s.skip 8).skip 1) []
  ({ Bod.zero kind with view:=(s.num 8:Nat),q:=r.1 },r.2)
 | 5=>({ Bod.zero kind with view:=(s.num 8:Nat) },s.skip 8)
 | 6=>({ Bod.zero kind with k:=(s.num 8:Nat),dig:=(s.skip 8).hash },(s.skip 8).skip 32)
 | _=>(Bod.zero kind,s)
def Bod.ownK (x:Bod):Nat→Bod
 | 1=>{ Bod.zero x.kind with view:=x.view,req:=x.req }
 | 2=>{ Bod.zero x.kind with view:=x.view,k:=x.k }
 | 3=>{ Bod.zero x.kind with view:=x.view }
 | 4=>{ Bod.zero x.kind with view:=x.view,q:=x.q }
 | 5=>{ Bod.zero x.kind with view:=x.view }
 | 6=>{ Bod.zero x.kind with k:=x.k,dig:=x.dig }
 | _=>Bod.zero x.kind
def Bod.own (x:Bod):Bod:=x.ownK x.kind.toNat
def Bod.mayK (x:Bod):Nat→Bool
 | 1=>decide x.req.asked
 | 2=>decide (1 ≤ x.k ∧ x.k ≤ 4611686018427387904)
 | 3=>decide (1 ≤ x.view)
 | 4=>decide (1 ≤ x.view) && (quo 0 x.q && decide (0 < x.q.length))
 | 5=>decide (1 ≤ x.view)
 | 6=>decide (1 ≤ x.k ∧ x.k ≤ 4611686018427387904)
 | _=>false
theorem SetV.app {l:List Value} {i:Nat} (h:SetV l i v l') (post:List Value):SetV (l ++ post) i v (l' ++ post):=by
 induction h with
 | here x v t=>exact .here _ _ _
 | there x h ih=>exact .there _ ih
theorem SetV.mid {l:List Value} {i:Nat} (h:SetV l i v l') (pre post:List Value):SetV (pre ++ l ++ post) (pre.length + i) v (pre ++ l' ++ post):=by
 rw [List.append_assoc,List.append_assoc]
 induction pre with
 | nil=>rw [List.length_nil,Nat.zero_add];exact h.app post
 | cons p pre ih =>
  exact qcR
theorem splice_mid (pre l post:List Value) (i:Nat) (vs:List Value) (h:i + vs.length ≤ l.length):splice (pre ++ l ++ post) (pre.length + i) vs = pre ++ splice l i vs ++ post:=by
 unfold splice
 have e1:(pre ++ l ++ post).take (pre.length + i) = pre ++ l.take i:=by
  rw [List.append_assoc,List.take_length_add_append,List.take_append_of_le_length (by omega)]
 have e2:(pre ++ l ++ post).drop (pre.length + i + vs.length) = l.drop (i + vs.length) ++ post:=by
  rw [Nat.add_assoc,List.append_assoc,List.drop_length_add_append,List.drop_append_of_le_length h]
 rw [e1,e2];simp only [List.append_assoc]
def bodAt (xb:Nat) (T:TypeId) (pre post:List Value) (x:Bod) (qp:Option Addr) (qc:Nat):HP:=row xb T (pre ++ x.vals qp qc ++ post)
theorem Bod.vals_len (x:Bod) (qp:Option Addr) (qc:Nat):(x.vals qp qc).length = 76:=rfl
section
variable (f:Frag) (F:List HP) (cb:Nat) (s:Cs) (xb:Nat) (T:TypeId) (pre post:List Value)
theorem getReq_cs (hl:s.l.length ≤ 1000000000) :
  Fn Tryz.prog 191 [.pointer (some ⟨cb,0,none⟩)] f (cutC f cb s::F) (Ret (.agg (s.req 32 128).vals.toArray) f (cutC f cb (s.reqS 32 128)::F)):=by
 unfold Cs.req Cs.reqS;dsimp only;have a1:=s.skip_len 1;have n1:=s.num1_lt
 refine Fn.e1 Tryz.func191 Tryz.ntmps191 fun base=>?_;refine H.seq (H.Bf ?_);refine qep fun rb=>?_;refine gL ?_;refine qdp ?_;refine H.Ag rfl rfl rfl (byte_cs f _ cb s (by omega)) ?_;refine gX ?_;generalize hs1:s.skip 1 = s1 at a1 ⊢;have a2:=s1.skip_len 1;refine H.Ag rfl rfl rfl (byte_cs f _ cb s1 (by omega)) ?_
 rw [← Cs.byte_nat s1];generalize hs2:s1.skip 1 = s2 at a2 ⊢;have a3:=s2.skip_len 8;refine gT ?_
 refine H.Ag rfl rfl rfl (word_cs f _ cb s2 (by omega)) ?_;generalize hs3:s2.skip 8 = s3 at a3 ⊢;have a4:=s3.skip_len 8;refine gL ?_
 refine H.Ag rfl rfl rfl (word_cs f _ cb s3 (by omega)) ?_;generalize hs4:s3.skip 8 = s4 at a4 ⊢;have a5:=s4.textS_len 32;refine gT ?_
 refine H.Ag rfl rfl rfl (text_cs f _ cb s4 (most:=32) (by omega) (by decide)) ?_;generalize hs5:s4.textS 32 = s5 at a5 ⊢;have a6:=s5.textS_len 128;refine gL ?_
 refine H.Ag rfl rfl rfl (text_cs f _ cb s5 (most:=128) (by omega) (by decide)) ?_;generalize hs6:s5.textS 128 = s6 at a6 ⊢;have a7:=s6.textS_len 128;refine gT ?_
 refine H.Ag rfl rfl rfl (text_cs f _ cb s6 (most:=128) (by omega) (by decide)) ?_;generalize hs7:s6.textS 128 = s7 at a7 ⊢;have a8:=s7.textS_len 32;refine gL ?_
 refine H.Ag rfl rfl rfl (text_cs f _ cb s7 (most:=32) (by omega) (by decide)) ?_;generalize hs8:s7.textS 32 = s8 at a8 ⊢;refine gT ?_;refine H.Ag rfl rfl rfl (hash_cs f _ cb s8 (by omega)) ?_;refine gK ?_;generalize hr:(⟨(s.num 1:Nat),(s2.num 8:Nat),s1.byte,baOf (s4.text 32),baOf (s5.text 128),baOf (s6.text 128),baOf (s7.text 32),(s3.num 8:Nat),s8.hash⟩:Req) = r;refine H.Af (vs:=b32 s8.hash) (ls':=r.vals) rfl rfl rfl (zaa rfl) rfl ?_ ?_ (by repeat constructor) ?_
 ·subst hr;rfl
 ·exact (show 8 + 32 ≤ 40 by decide)
 refine gA ?_;refine qfC ?_;refine H.Af (ls:=r.vals) (vs:=r.vals) (ls':=r.vals) rfl rfl rfl (zaa rfl) rfl rfl (Nat.le_refl 40) (by repeat constructor) ?_;refine gZ ?_;exact qbt
theorem get_view (hl:s.l.length ≤ 1000000000) (x:Bod) (qp:Option Addr) (qc:Nat) :
  Fn Tryz.prog 242 [.pointer (some ⟨cb,0,none⟩),.pointer (some ⟨xb,pre.length,none⟩)] f (cutC f cb s::bodAt xb T pre post x qp qc::F)
   (Ret (.tuple #[]) f (cutC f cb (s.skip 8)::bodAt xb T pre post { x with view:=(s.num 8:Nat) } qp qc::F)):=by
 refine Fn.e2 Tryz.func242 Tryz.ntmps242 fun base=>?_;repeat (first | ((apply H.Ap);(iterate 3 exact rfl)) | (apply H.Bf))
 refine H.Ag rfl rfl rfl (word_cs f _ cb s (by omega)) ?_;repeat (first | ((apply H.Bc);(iterate 3 exact rfl)) | (apply H.Bj;(iterate 3 exact rfl);exact inferInstance;exact rfl) | (apply H.Az;(iterate 4 exact rfl);(repeat (first | exact .here _ _ _ | apply At.there))))
 ·exact qbe
 refine gA ?_;exact qaW
theorem get_commit (hl:s.l.length ≤ 1000000000) (x:Bod) (qp:Option Addr) (qc:Nat) :
  Fn Tryz.prog 194 [.pointer (some ⟨cb,0,none⟩),.pointer (some ⟨xb,pre.length,none⟩)] f (cutC f cb s::bodAt xb T pre post x qp qc::F)
   (Ret (.tuple #[]) f (cutC f cb ((s.skip 8).skip 8)::bodAt xb T pre post { x with view:=(s.num 8:Nat),k:=((s.skip 8).num 8:Nat) } qp qc::F)):=by
 have a1:=s.skip_len 8;refine Fn.e2 Tryz.func194 Tryz.ntmps194 fun base=>?_
 refine qfG ?_;refine H.Ag rfl rfl rfl (word_cs f _ cb (s.skip 8) (by omega)) ?_;repeat (first | ((apply H.Bc);(iterate 3 exact rfl)) | (apply H.Bj;(iterate 3 exact rfl);exact inferInstance;exact rfl) | (apply H.Az;(iterate 4 exact rfl);(repeat (first | exact .here _ _ _ | apply At.there))))
 ·exact qbe
 repeat (first | ((apply H.Bc);(iterate 3 exact rfl)) | (apply H.Bj;(iterate 3 exact rfl);exact inferInstance;exact rfl) | (apply H.Az;(iterate 4 exact rfl);(repeat (first | exact .here _ _ _ | apply At.there))))
 ·exact SetV.mid (l:=({ x with view:=(s.num 8:Nat) }:Bod).vals qp qc) (l':=({ x with view:=(s.num 8:Nat),k:=((s.skip 8).num 8:Nat) }:Bod).vals qp qc) (i:=2) (by repeat (first | exact .here _ _ _ | apply SetV.there)) pre post
 refine gA ?_;exact qaW
theorem get_check (hl:s.l.length ≤ 1000000000) (x:Bod) (qp:Option Addr) (qc:Nat) :
  Fn Tryz.prog 204 [.pointer (some ⟨cb,0,none⟩),.pointer (some ⟨xb,pre.length,none⟩)] f (cutC f cb s::bodAt xb T pre post x qp qc::F)
   (Ret (.tuple #[]) f (cutC f cb ((s.skip 8).skip 32)::bodAt xb T pre post { x with k:=(s.num 8:Nat),dig:=(s.skip 8).hash } qp qc::F)):=by
 have a1:=s.skip_len 8;refine Fn.e2 Tryz.func204 Tryz.ntmps204 fun base=>?_
 refine qfG ?_;refine H.Ag rfl rfl rfl (hash_cs f _ cb (s.skip 8) (by omega)) ?_;repeat (first | ((apply H.Bc);(iterate 3 exact rfl)) | (apply H.Bj;(iterate 3 exact rfl);exact inferInstance;exact rfl) | (apply H.Az;(iterate 4 exact rfl);(repeat (first | exact .here _ _ _ | apply At.there))))
 ·exact SetV.mid (l:=x.vals qp qc) (l':=({ x with k:=(s.num 8:Nat) }:Bod).vals qp qc) (i:=2) (by repeat (first | exact .here _ _ _ | apply SetV.there)) pre post
 refine gT ?_;refine H.Af (vs:=b32 (s.skip 8).hash) (ls':=pre ++ ({ x with k:=(s.num 8:Nat),dig:=(s.skip 8).hash }:Bod).vals qp qc ++ post) rfl rfl rfl (zaa rfl) rfl ?_ ?_ (.there _ (.here _ _ _)) ?_
 ·exact splice_mid pre (({ x with k:=(s.num 8:Nat) }:Bod).vals qp qc) post 44 _ (Nat.le_refl 76)
 ·rw [List.length_append,List.length_append,Bod.vals_len];show pre.length + 44 + 32 ≤ _;omega
 refine gA ?_;exact qaW
theorem get_prepare (hl:s.l.length ≤ 1000000000) (x:Bod) (qp:Option Addr) (qc:Nat) :
  Fn Tryz.prog 189 [.pointer (some ⟨cb,0,none⟩),.pointer (some ⟨xb,pre.length,none⟩)] f (cutC f cb s::bodAt xb T pre post x qp qc::F)
   (Ret (.tuple #[]) f (cutC f cb ((s.skip 8).reqS 32 128)::bodAt xb T pre post { x with view:=(s.num 8:Nat),req:=(s.skip 8).req 32 128 } qp qc::F)):=by
 have a1:=s.skip_len 8;refine Fn.e2 Tryz.func189 Tryz.ntmps189 fun base=>?_
 refine qfG ?_;refine H.Ag rfl rfl rfl (getReq_cs f _ cb (s.skip 8) (by omega)) ?_;generalize (s.skip 8).req 32 128 = r;repeat (first | ((apply H.Bc);(iterate 3 exact rfl)) | (apply H.Bj;(iterate 3 exact rfl);exact inferInstance;exact rfl) | (apply H.Az;(iterate 4 exact rfl);(repeat (first | exact .here _ _ _ | apply At.there))))
 ·exact qbe
 refine gT ?_;refine H.Af (vs:=r.vals) (ls':=pre ++ ({ x with view:=(s.num 8:Nat),req:=r }:Bod).vals qp qc ++ post) rfl rfl rfl (zaa rfl) rfl ?_ ?_ (.there _ (.here _ _ _)) ?_
 ·exact splice_mid pre (({ x with view:=(s.num 8:Nat) }:Bod).vals qp qc) post 3 _ (show 3 + 40 ≤ 76 by decide)
 ·rw [List.length_append,List.length_append,Bod.vals_len];show pre.length + 3 + 40 ≤ _;omega
 refine gA ?_;exact qaW
end
end Go.Proofs.YtminmjlfmolfeaaGreatDoor
