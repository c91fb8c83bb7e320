/- The row TopQuiet: what is given of the program, and what the row's condition says. -/
import Derived.Test.YtdpgpmbebbaoiaaGreatDoorZ14
import Derived.Test.YtdpgpmbebbaoiaaGreatDoorRows
import Derived.Test.YtdpgpmbebbaoiaaGreatDoorCards
import Derived.Test.YtdpgpmbebbaoiaaGreatDoorTie
set_option linter.unusedSectionVars false
set_option linter.unusedSimpArgs false
set_option linter.unusedVariables false
namespace Go.Proofs.YtdpgpmbebbaoiaaGreatDoor
open Go Go.ChangeShapes Go.WideShapes Go.RowKit Go.Deep
theorem and_t{a b:Bool}(ha:a=true)(hb:b=true):(a&&b)=true:=by rw[ha,hb];rfl
theorem Tryz.own:ownKnob Tryz.prog.godebug=none:=by kernel_rfl
theorem Tryz.laidOut:laidOutB Tryz.prog=true:=by kernel_rfl
abbrev laidL : List (String × DataW Unit) := [("math/bits.deBruijn32tab", Rows.laid_math_bits_deBruijn32tab), ("math/bits.deBruijn64tab", Rows.laid_math_bits_deBruijn64tab), ("internal/strconv.uint64pow10", Rows.laid_internal_strconv_uint64pow10), ("ratchet/sha.table", Rows.laid_ratchet_sha_table), ("strconv.ErrRange", Rows.laid_strconv_ErrRange), ("strconv.ErrSyntax", Rows.laid_strconv_ErrSyntax)]
theorem door_met(os:Os)(args:Array Value):laidMetH Tryz.prog laidL ((World.doorLaid Tryz.prog 400 os).forCall (fun _ _=>0) ⟨#[],args,[]⟩).memory:=
 laidMetH_of_parts3 (fuel:=8) (laidMet_of_run' 8 (by kernel_rfl) (by kernel_rfl)) (by kernel_rfl) (by kernel_rfl)
theorem laidMet_tail{P:Program}{x:String×DataW Unit}{l:List (String×DataW Unit)}{w:World}(h:laidMet P (x::l) w):laidMet P l w:=by
 obtain⟨n,d⟩:=x
 obtain⟨ps,⟨g,t,cs,fuel,p,q,_,_,_,_,hq,rfl⟩,hn,hc⟩:=h
 exact⟨q,hq,(List.nodup_append.1 hn).2.1,fun b off hm=>hc b off (List.mem_append_right _ hm)⟩
theorem laidMet_head{P:Program}{x:String×DataW Unit}{l:List (String×DataW Unit)}{w:World}(h:laidMet P (x::l) w):laidMet P [x] w:=by
 obtain⟨n,d⟩:=x
 obtain⟨ps,⟨g,t,cs,fuel,p,q,h1,h2,h3,h4,hq,rfl⟩,hn,hc⟩:=h
 exact⟨MemPlace.row ⟨g,0,none⟩ cs.size++p,⟨g,t,cs,fuel,p,[],h1,h2,h3,h4,rfl,(List.append_nil _).symm⟩,(List.nodup_append.1 hn).1,fun b off hm=>hc b off (List.mem_append_left _ hm)⟩
theorem tab_eq:(Rows.laid_ratchet_sha_table:DataW Unit)= .agg ((Sha.k.map fun x=>((x.toNat:Nat):Int)).map fun z=>.lit (.int .u32 z)):=by kernel_rfl
theorem tab_of{W:World}(h:laidMetH Tryz.prog laidL W):TabAt (memOf W):=by
 rw[MakeChecks.laidMetH_plain _ _ _ rfl]at h
 have h1 : laidMet Tryz.prog [("ratchet/sha.table", Rows.laid_ratchet_sha_table)] W := laidMet_head (laidMet_tail (laidMet_tail (laidMet_tail h)))
 have h2 : laidMetH Tryz.prog [("ratchet/sha.table", .agg ((Sha.k.map fun x => ((x.toNat : Nat) : Int)).map fun z => .lit (.int .u32 z)))] W := by
  rw[MakeChecks.laidMetH_plain _ _ _ rfl,←tab_eq];exact h1
 exact laid_ints h2 (by kernel_rfl) (by kernel_rfl) (t:=532) (e:=449) Tryz.underlying532 Tryz.underlying449 (by kernel_rfl)
end Go.Proofs.YtdpgpmbebbaoiaaGreatDoor
