/- Parts of the proof, one behind the other, each under its own heading. No conditions. -/
import Derived.Test.YtcdpnloeheaclaaDoorZ06
import Derived.Test.YtcdpnloeheaclaaDoorRows
import Derived.Test.YtcdpnloeheaclaaDoorCards
import Derived.Test.YtcdpnloeheaclaaDoorTie
import Derived.SevenTiedAt
import Derived.LaidByTextLater
/- Layer 21: the program's checks: their data; New and Take. -/
namespace Go.Proofs.YtcdpnloeheaclaaDoor
set_option linter.unusedSectionVars false
set_option linter.unusedSimpArgs false
set_option linter.unusedVariables false
open Go
abbrev D32 := { l : List UInt8 // l.length = 32 }
def dV (d : D32) : List Value := bytesV d.1
def dZ : D32 := ⟨List.replicate 32 0, rfl⟩
def dOf (t : Nat → UInt8) : D32 := ⟨b32L t, rfl⟩
theorem dV_len (d : D32) : (dV d).length = 32 := by unfold dV; rw [bytesV_len]; exact d.2
theorem dV_one (d : D32) : ∀ v ∈ dV d, one v = true := bytesV_one d.1
theorem eqC_bytes : ∀ a b : List UInt8, eqC (bytesV a) (bytesV b) = decide (a = b)
  | [], [] => rfl
  | [], _ :: _ => rfl
  | _ :: _, [] => rfl
  | x :: a, y :: b => by
    show (eqv (.int .u8 (x.toNat : Nat)) (.int .u8 (y.toNat : Nat)) && eqC (bytesV a) (bytesV b)) = _
    rw [eqC_bytes a b]
    have e : eqv (.int .u8 (x.toNat : Nat)) (.int .u8 (y.toNat : Nat)) = decide (x = y) := by
      show (((x.toNat : Nat) : Int) == ((y.toNat : Nat) : Int)) = _
      by_cases h : x = y
      · subst h; simp
      · have : ¬ ((x.toNat : Nat) : Int) = ((y.toNat : Nat) : Int) := fun h2 => h (UInt8.toNat_inj.1 (by omega))
        rw [decide_eq_false h]
        simpa using this
    rw [e]
    by_cases h1 : x = y <;> by_cases h2 : a = b <;> simp [h1, h2]
theorem dV_plain : ∀ l : List UInt8, plnC (bytesV l) = true
  | [] => rfl
  | _ :: l => dV_plain l
def encN (k : Int × Int) : Value := .agg ([.int .i64 k.1, .int .u64 k.2] : List Value).toArray
def encD (d : D32) : Value := .agg (dV d).toArray
instance keyN : KeyT Tryd.prog 62 encN := keyT_agg (cellsK := fun k : Int × Int => [.int .i64 k.1, .int .u64 k.2]) (D := 4) (by kernel_rfl) (fun k => by kernel_rfl) (by decide) (fun a b => by
    obtain ⟨a1, a2⟩ := a
    obtain ⟨b1, b2⟩ := b
    show (a1 == b1 && (a2 == b2 && true)) = _
    by_cases h1 : a1 = b1 <;> by_cases h2 : a2 = b2 <;> simp [h1, h2]) (fun k => rfl)
theorem dV_shp (d : D32) : shp Tryd.prog 4 29 (dV d) = true := by
  unfold dV
  rw [← b32L_get d.2]
  generalize (fun i => d.1.getD i 0) = t
  kernel_rfl
instance keyD : KeyT Tryd.prog 29 encD := keyT_agg (cellsK := dV) (D := 4) (by kernel_rfl) dV_shp (by decide) (fun a b => by
    unfold dV
    rw [eqC_bytes]
    by_cases h : a.1 = b.1
    · rw [decide_eq_true h, decide_eq_true (Subtype.ext h)]
    · rw [decide_eq_false h, decide_eq_false (fun e => h (by rw [e]))]) (fun d => dV_plain d.1)
/-- The checks that were taken. -/
abbrev CM := List ((Int × Int) × D32)
def mpV (M : CM) : List ((Int × Int) × Value) := M.map fun e => (e.1, encD e.2)
def tld : CM → Int × Int → Option D32
  | [], _ => none
  | (k', d) :: r, k => if k = k' then some d else tld r k
theorem getKV_mpV : ∀ (M : CM) (k : Int × Int), getKV (mpV M) k = (tld M k).map encD
  | [], _ => rfl
  | (k', d) :: r, k => by
    show (if k = k' then some (encD d) else getKV (mpV r) k) = (if k = k' then some d else tld r k).map encD
    rw [getKV_mpV r k]
    split <;> rfl
theorem putKV_mpV : ∀ (M : CM) (k : Int × Int) (d : D32), tld M k = none → putKV (mpV M) k (encD d) = mpV (M ++ [(k, d)])
  | [], _, _, _ => rfl
  | (k', u) :: r, k, d, h => by
    have h1 : ¬ k = k' := fun e => by
      have : tld ((k', u) :: r) k = some u := if_pos e
      rw [this] at h; cases h
    have h2 : tld r k = none := by
      have : tld ((k', u) :: r) k = tld r k := if_neg h1
      rw [this] at h; exact h
    show (if k = k' then _ else (k', encD u) :: putKV (mpV r) k (encD d)) = _
    rw [if_neg h1, putKV_mpV r k d h2]
    rfl
theorem tld_snoc (M : CM) (k j : Int × Int) (d : D32) : tld (M ++ [(k, d)]) j = (tld M j).or (if j = k then some d else none) := by
  induction M with
  | nil => show (if j = k then some d else none) = _; simp [tld]
  | cons e r ih =>
    show (if j = e.1 then some e.2 else tld (r ++ [(k, d)]) j) = (if j = e.1 then some e.2 else tld r j).or _
    rw [ih]
    split <;> simp
theorem tld_mem : ∀ {M : CM} {k : Int × Int} {d : D32}, tld M k = some d → (k, d) ∈ M
  | (k', u) :: r, k, d, h => by
    by_cases e : k = k'
    · have : tld ((k', u) :: r) k = some u := if_pos e
      rw [this] at h
      cases h
      rw [e]
      exact List.mem_cons_self
    · have : tld ((k', u) :: r) k = tld r k := if_neg e
      rw [this] at h
      exact List.mem_cons_of_mem _ (tld_mem h)
def chkRow (n : Nat) (mb : Nat) : List Value := [.int .i64 (n : Nat), .map (some mb)]
/-- The checks of n replicas, at cb. -/
def chkH (cb n : Nat) (M : CM) : HP := pack (fun _ : Nat => True) (fun mb => [row cb 60 (chkRow n mb), mp mb encN (mpV M)])
theorem chkH_fold {cb n mb : Nat} {M : CM} {F : List HP} : ∀ x, stars (row cb 60 (chkRow n mb) :: mp mb encN (mpV M) :: F) x → stars (chkH cb n M :: F) x :=
  pack_fold (ι := Nat) (B := fun mb => [row cb 60 (chkRow n mb), mp mb encN (mpV M)]) mb trivial
def CM.take (M : CM) (n : Nat) (m : Msg) : Bool × CM :=
  if m.may = true ∧ m.origin ≤ (n : Int) ∧ (m.body.kind.toNat : Int) = 6 ∧ tld M (m.origin, m.body.k) = none then (true, M ++ [((m.origin, m.body.k), dOf m.body.dig)]) else (false, M)
theorem mv_dig {f : Frag} {A A' : List HP} {mb : Nat} {T : TypeId} {x : MV} (h : At A (row mb T x.vals) A' (row mb T x.vals)) : Rd f A mb (0 + 13 + 44) (bytesV (b32L x.m.body.dig)) := by
  have h1 := Rd.ofRow (f := f) h
  unfold MV.vals Msg.vals Bod.vals at h1
  rw [← b32_bytes]
  have h2 := Rd.sub (f := f) (A := A) (b := mb) (off := 0) (k := 57) (pre := [.int .i64 x.m.origin, .int .u64 x.m.number] ++ v11 x.m.deps ++ ([.int .u8 (x.m.body.kind.toNat : Nat), .int .u64 x.m.body.view, .int .u64 x.m.body.k] ++ x.m.body.req.vals ++ [.slice x.qp x.m.body.q.length x.qc])) (l := b32 x.m.body.dig) (post := b32 x.m.tag) (by simpa only [List.append_assoc] using h1) rfl
  exact h2
section
variable (f : Frag) (F : List HP)
theorem cnew_fn {n : Nat} (h3 : 3 ≤ n) (h11 : n ≤ 11) (hodd : n % 2 = 1) : Fn Tryd.prog 7 [.int .i64 (n : Nat)] f F (RetE (fun cb => .tuple #[.pointer (some ⟨cb, 0, none⟩), .int .i64 0]) f (fun cb => chkH cb n [] :: F)) := by
  have hr : ((n : Nat) : Int).tmod 2 = 1 := by rw [show (2 : Int) = ((2 : Nat) : Int) from rfl, tmod64, hodd]; rfl
  refine Fn.enter Tryd.func7 rfl Tryd.ntmps7 rfl (L := [(0, _)]) ⟨rfl, trivial⟩ fun base => ?_
  repeat (first | ((first | apply H.move | apply H.assign); (iterate 3 exact rfl)) | (first | apply H.seq | apply H.region | apply H.nil | apply H.then_normal) | ((apply H.cmp); (iterate 5 exact rfl)) | ((apply H.pickF); (iterate 4 exact rfl)) | (apply H.cond_false; exact rfl) | (apply H.skip) | (apply H.gno; (iterate 3 exact rfl); (omega)) | (refine H.rem rfl rfl rfl (by decide) hr rfl ?_))
  refine H.makeMap encN rfl rfl fun mb => ?_
  repeat (((apply H.build); (iterate 5 exact rfl)))
  refine H.box (ls := chkRow n mb) rfl rfl rfl rfl fun cb => ?_
  repeat (first | ((apply H.assign); (iterate 3 exact rfl)) | (first | apply H.nil | apply H.then_normal) | (apply H.ret))
  refine H.imp (chkH_fold (M := [])) ?_
  exact H.ret2 rfl rfl rfl (fun _ h => h) ⟨cb, rfl, rfl, rfl⟩
theorem cnew_no : Fn Tryd.prog 7 [.int .i64 1] f F (Ret (.tuple #[.pointer none, .int .i64 1]) f F) := by
  refine Fn.enter Tryd.func7 rfl Tryd.ntmps7 rfl (L := [(0, _)]) ⟨rfl, trivial⟩ fun base => ?_
  repeat (first | ((first | apply H.move | apply H.assign); (iterate 3 exact rfl)) | (first | apply H.seq | apply H.region | apply H.nil | apply H.then_normal) | ((apply H.cmp); (iterate 5 exact rfl)) | (apply H.pass; (iterate 2 exact rfl)) | (apply H.pickT; (iterate 4 exact rfl)) | (apply H.cond_true; exact rfl) | (first | apply H.ret | apply H.then_ret))
  exact H.ret2 rfl rfl rfl (fun _ h => h) ⟨rfl, rfl, rfl⟩
theorem ctake_nil {x : MV} : Fn Tryd.prog 8 [.pointer none, .agg x.vals.toArray] f F (Ret (.bool false) f F) := by
  refine Fn.enter Tryd.func8 rfl Tryd.ntmps8 rfl (L := [(0, _), (1, _)]) ⟨rfl, rfl, trivial⟩ fun base => ?_
  repeat ((first | apply H.seq | apply H.region))
  refine H.box (ls := x.vals) rfl rfl rfl rfl fun mb => ?_
  repeat (first | ((apply H.assign); (iterate 3 exact rfl)) | (first | apply H.seq | apply H.nil | apply H.then_normal))
  refine H.drawB (by kernel_rfl) (by decide +kernel) (by first | exact blind_fn | exact blind_seq blind_fn | exact blind_seq (blind_seq blind_fn) | (repeat (first | exact blind_fn | refine blind_seq ?_ | refine blind_block ?_ | refine blind_loop ?_))) (S := [_]) rfl ?_
  refine HB.quiet [(0, false), (1, false), (2, false), (3, false)] 18 (by kernel_rfl) ?_
  repeat (first | ((apply HQ.move); (iterate 3 exact rfl)) | (apply HQ.pass; (iterate 2 exact rfl)) | ((apply HQ.ptrNil); (iterate 5 exact rfl)))
  refine HQ.more rfl ?_
  refine HB.ev1 (i := 4) (by kernel_rfl) rfl ?_
  repeat (first | (apply H.nil) | (apply H.pass; (iterate 2 exact rfl)))
  refine H.on0 rfl ?_
  refine HB.quiet [(5, false), (6, false), (7, false), (8, false), (9, false), (10, false), (11, false), (12, false), (13, false), (14, false), (15, false), (16, false), (17, false), (18, false), (19, false), (20, false), (21, false)] 0 (by kernel_rfl) ?_
  repeat (first | ((first | apply HQ.move | apply HQ.nilCheck); (iterate 3 exact rfl)) | (apply HQ.pass; (iterate 2 exact rfl)) | (apply HQ.pickT; (iterate 4 exact rfl)))
  refine HQ.more rfl ?_
  refine HB.done (by kernel_rfl) ?_
  repeat (first | ((apply H.assign); (iterate 3 exact rfl)) | (first | apply H.seq | apply H.region | apply H.nil | apply H.then_normal) | (apply H.cond_true; exact rfl) | (first | apply H.ret | apply H.then_ret))
  refine H.drop (.here _ _) ?_
  exact H.ret1 rfl rfl (fun _ h => h) ⟨rfl, rfl, rfl⟩
set_option maxRecDepth 20000 in
set_option maxHeartbeats 1600000 in
theorem ctake_fn {cb n : Nat} {M : CM} {x : MV} (hx : x.Good f) : Fn Tryd.prog 8 [.pointer (some ⟨cb, 0, none⟩), .agg x.vals.toArray] f (chkH cb n M :: F) (Ret (.bool (M.take n x.m).1) f (chkH cb n (M.take n x.m).2 :: F)) := by
  refine Fn.unpack fun mb _ => ?_
  have hmay := fun G => mmay_fn f G hx
  cases hm : x.m.may with
  | false =>
    rw [hm] at hmay
    have hno : M.take n x.m = (false, M) := if_neg (fun h => by rw [hm] at h; cases h.1)
    rw [hno]
    clear hm
    refine Fn.enter Tryd.func8 rfl Tryd.ntmps8 rfl (L := [(0, _), (1, _)]) ⟨rfl, rfl, trivial⟩ fun base => ?_
    show H _ _ _ _ _ (row cb _ (chkRow n mb) :: mp mb encN (mpV M) :: F) _
    repeat ((first | apply H.seq | apply H.region))
    refine H.box (ls := x.vals) rfl rfl rfl rfl fun xb => ?_
    repeat (first | ((apply H.assign); (iterate 3 exact rfl)) | (first | apply H.seq | apply H.nil | apply H.then_normal))
    refine H.drawB (by kernel_rfl) (by decide +kernel) (by first | exact blind_fn | exact blind_seq blind_fn | exact blind_seq (blind_seq blind_fn) | (repeat (first | exact blind_fn | refine blind_seq ?_ | refine blind_block ?_ | refine blind_loop ?_))) (S := [_, _]) rfl ?_
    refine HB.quiet [(0, false), (1, false), (2, false), (3, false)] 18 (by kernel_rfl) ?_
    repeat (first | (refine HQ.loadN (ls := x.vals) rfl rfl rfl (Rd.ofRow (by repeat (first | exact .here _ _ _ | apply At.there))) rfl rfl ?_) | ((apply HQ.move); (iterate 3 exact rfl)) | ((apply HQ.ptrNil); (iterate 5 exact rfl)))
    refine HQ.more rfl ?_
    refine HB.ev1 (i := 4) (by kernel_rfl) rfl ?_
    refine H.callR rfl rfl rfl (hmay _) ?_
    repeat ((apply H.nil))
    refine H.on0 rfl ?_
    refine HB.quiet [(5, false), (6, false), (7, false), (8, false), (9, false), (10, false), (11, false), (12, false), (13, false), (14, false), (15, false), (16, false), (17, false), (18, false), (19, false), (20, false), (21, false)] 0 (by kernel_rfl) ?_
    repeat (first | (refine HQ.not (c := true) rfl rfl rfl rfl ?_) | ((first | apply HQ.move | apply HQ.nilCheck); (iterate 3 exact rfl)) | (apply HQ.pass; (iterate 2 exact rfl)) | (apply HQ.pickT; (iterate 4 exact rfl)) | ((apply HQ.pickF); (iterate 4 exact rfl)))
    refine HQ.more rfl ?_
    refine HB.done (by kernel_rfl) ?_
    repeat (first | ((apply H.assign); (iterate 3 exact rfl)) | (first | apply H.seq | apply H.region | apply H.nil | apply H.then_normal) | (apply H.cond_true; exact rfl) | (first | apply H.ret | apply H.then_ret))
    refine H.drop (x := row xb _ _) (by repeat (first | exact .here _ _ | apply Pull.there)) ?_
    refine H.imp chkH_fold ?_
    exact H.ret1 rfl rfl (fun _ h => h) ⟨rfl, rfl, rfl⟩
  | true =>
    rw [hm] at hmay
    by_cases h1 : x.m.origin ≤ (n : Int)
    · by_cases h2 : (x.m.body.kind.toNat : Int) = 6
      · cases ht : tld M (x.m.origin, x.m.body.k) with
        | some d =>
          have hno : M.take n x.m = (false, M) := if_neg (fun h => by rw [ht] at h; cases h.2.2.2)
          rw [hno]
          clear hm hno
          have hget : getKV (mpV M) (x.m.origin, x.m.body.k) = some (encD d) := by rw [getKV_mpV, ht]; rfl
          have hg1 : (getKV (mpV M) (x.m.origin, x.m.body.k)).getD (encD dZ) = encD d := by rw [hget]; rfl
          have hg2 : (getKV (mpV M) (x.m.origin, x.m.body.k)).isSome = true := by rw [hget]; rfl
          clear hget ht
          refine Fn.enter Tryd.func8 rfl Tryd.ntmps8 rfl (L := [(0, _), (1, _)]) ⟨rfl, rfl, trivial⟩ fun base => ?_
          show H _ _ _ _ _ (row cb _ (chkRow n mb) :: mp mb encN (mpV M) :: F) _
          repeat ((first | apply H.seq | apply H.region))
          refine H.box (ls := x.vals) rfl rfl rfl rfl fun xb => ?_
          repeat (first | ((apply H.assign); (iterate 3 exact rfl)) | (first | apply H.seq | apply H.nil | apply H.then_normal))
          refine H.drawB (by kernel_rfl) (by decide +kernel) (by first | exact blind_fn | exact blind_seq blind_fn | exact blind_seq (blind_seq blind_fn) | (repeat (first | exact blind_fn | refine blind_seq ?_ | refine blind_block ?_ | refine blind_loop ?_))) (S := [_, _]) rfl ?_
          refine HB.quiet [(0, false), (1, false), (2, false), (3, false)] 18 (by kernel_rfl) ?_
          repeat (first | (refine HQ.loadN (ls := x.vals) rfl rfl rfl (Rd.ofRow (by repeat (first | exact .here _ _ _ | apply At.there))) rfl rfl ?_) | ((apply HQ.move); (iterate 3 exact rfl)) | ((apply HQ.ptrNil); (iterate 5 exact rfl)))
          refine HQ.more rfl ?_
          refine HB.ev1 (i := 4) (by kernel_rfl) rfl ?_
          refine H.callR rfl rfl rfl (hmay _) ?_
          repeat ((apply H.nil))
          refine H.on0 rfl ?_
          refine HB.quiet [(5, false), (6, false), (7, false), (8, false), (9, false), (10, false), (11, false), (12, false), (13, false), (14, false), (15, false), (16, false), (17, false), (18, false), (19, false), (20, false), (21, false)] 0 (by kernel_rfl) ?_
          repeat (first | (refine HQ.not (c := false) rfl rfl rfl rfl ?_) | ((first | apply HQ.move | apply HQ.nilCheck); (iterate 3 exact rfl)) | (apply HQ.fieldAddr; (iterate 3 exact rfl); exact inferInstance; exact rfl) | (apply HQ.load1; (iterate 3 exact rfl); apply Rd1.ofRow; (repeat (first | exact .here _ _ _ | apply At.there)); (iterate 2 exact rfl)) | ((apply HQ.cmp); (iterate 5 exact rfl)) | ((apply HQ.pickF); (iterate 4 exact rfl)) | (apply HQ.gno; (iterate 3 exact rfl); (omega)))
          refine HQ.more rfl ?_
          refine HB.done (by kernel_rfl) ?_
          repeat (first | (apply H.fieldAddr; (iterate 3 exact rfl); exact inferInstance; exact rfl) | (apply H.load1; (iterate 3 exact rfl); apply Rd1.ofRow; (repeat (exact .here _ _ _)); (iterate 2 exact rfl)) | (first | apply H.seq | apply H.region | apply H.then_normal) | ((apply H.build); (iterate 5 exact rfl)) | (apply H.skip) | (apply H.cond_no; exact rfl; (omega)))
          refine H.alloc (ls := [.int .i64 0, .int .u64 0]) rfl rfl rfl fun kb => ?_
          refine H.storeN (ls := [.int .i64 0, .int .u64 0]) (vs := [.int .i64 x.m.origin, .int .u64 x.m.body.k]) (ls' := [.int .i64 x.m.origin, .int .u64 x.m.body.k]) rfl rfl rfl (allOne_mem rfl) rfl rfl (Nat.le_refl 2) (by repeat (first | exact .here _ _ _ | apply At.there)) ?_
          repeat ((first | apply H.seq | apply H.nil | apply H.then_normal))
          refine H.drawB (by kernel_rfl) (by decide +kernel) (by first | exact blind_fn | exact blind_seq blind_fn | exact blind_seq (blind_seq blind_fn) | (repeat (first | exact blind_fn | refine blind_seq ?_ | refine blind_block ?_ | refine blind_loop ?_))) (S := [_, _, _, _]) rfl ?_
          refine HB.quiet [(0, false), (1, false), (2, false), (3, false), (4, false), (5, false), (6, false), (7, false), (8, false)] 3 (by kernel_rfl) ?_
          repeat (first | (refine HQ.loadN (ls := [.int .i64 x.m.origin, .int .u64 x.m.body.k]) rfl rfl rfl (Rd.ofRow (by repeat (first | exact .here _ _ _ | apply At.there))) rfl rfl ?_) | ((first | apply HQ.move | apply HQ.nilCheck); (iterate 3 exact rfl)) | (apply HQ.fieldAddr; (iterate 3 exact rfl); exact inferInstance; exact rfl) | (apply HQ.load1; (iterate 3 exact rfl); apply Rd1.ofRow; (repeat (first | exact .here _ _ _ | apply At.there)); (iterate 2 exact rfl)) | ((apply HQ.extract); (iterate 4 exact rfl)) | (refine HQ.lookup2 (k := (x.m.origin, x.m.body.k)) rfl rfl rfl (by repeat (first | exact .here _ _ _ | apply At.there)) rfl hg1 hg2 rfl ?_))
          refine HQ.more rfl ?_
          refine HB.ev1 (i := 9) (by kernel_rfl) rfl ?_
          refine H.alloc (ls := dV dZ) rfl rfl rfl fun db => ?_
          repeat ((apply H.nil))
          refine H.front (x := mp _ _ _) (by repeat (first | exact .here _ _ | apply Pull.there)) ?_
          refine H.front (x := row cb _ _) (by repeat (first | exact .here _ _ | apply Pull.there)) ?_
          refine H.front (x := row xb _ _) (by repeat (first | exact .here _ _ | apply Pull.there)) ?_
          refine H.front (x := row kb _ _) (by repeat (first | exact .here _ _ | apply Pull.there)) ?_
          refine H.on0 rfl ?_
          refine HB.ev1 (i := 10) (by kernel_rfl) rfl ?_
          refine H.storeN (ls := dV dZ) (vs := dV d) (ls' := dV d) rfl rfl rfl (dV_one _) (dV_len _) (splice_all (by first | rw [dV_len, dV_len] | rfl)) (by first | (rw [dV_len, dV_len]; decide) | exact Nat.le_refl 32) (by repeat (first | exact .here _ _ _ | apply At.there)) ?_
          repeat ((apply H.nil))
          refine H.on0 rfl ?_
          refine HB.quiet [(11, false)] 0 (by kernel_rfl) ?_
          repeat (((apply HQ.assign); (iterate 3 exact rfl)))
          refine HQ.more rfl ?_
          refine HB.done (by kernel_rfl) ?_
          repeat (first | ((first | apply H.move | apply H.assign); (iterate 3 exact rfl)) | (first | apply H.seq | apply H.region | apply H.nil | apply H.then_normal) | (apply H.cond_true; exact rfl) | (first | apply H.ret | apply H.then_ret))
          refine H.drop (x := row db _ _) (by repeat (first | exact .here _ _ | apply Pull.there)) ?_
          refine H.drop (x := row kb _ _) (by repeat (first | exact .here _ _ | apply Pull.there)) ?_
          refine H.drop (x := row xb _ _) (by repeat (first | exact .here _ _ | apply Pull.there)) ?_
          refine H.imp chkH_fold ?_
          exact H.ret1 rfl rfl (fun _ h => h) ⟨rfl, rfl, rfl⟩
        | none =>
          have hyes : M.take n x.m = (true, M ++ [((x.m.origin, x.m.body.k), dOf x.m.body.dig)]) := if_pos ⟨hm, h1, h2, ht⟩
          rw [hyes]
          clear hm hyes
          have hget : getKV (mpV M) (x.m.origin, x.m.body.k) = none := by rw [getKV_mpV, ht]; rfl
          have hput := putKV_mpV M (x.m.origin, x.m.body.k) (dOf x.m.body.dig) ht
          have hg1 : (getKV (mpV M) (x.m.origin, x.m.body.k)).getD (encD dZ) = encD dZ := by rw [hget]; rfl
          have hg2 : (getKV (mpV M) (x.m.origin, x.m.body.k)).isSome = false := by rw [hget]; rfl
          clear hget ht
          refine Fn.enter Tryd.func8 rfl Tryd.ntmps8 rfl (L := [(0, _), (1, _)]) ⟨rfl, rfl, trivial⟩ fun base => ?_
          show H _ _ _ _ _ (row cb _ (chkRow n mb) :: mp mb encN (mpV M) :: F) _
          repeat ((first | apply H.seq | apply H.region))
          refine H.box (ls := x.vals) rfl rfl rfl rfl fun xb => ?_
          repeat (first | ((apply H.assign); (iterate 3 exact rfl)) | (first | apply H.seq | apply H.nil | apply H.then_normal))
          refine H.drawB (by kernel_rfl) (by decide +kernel) (by first | exact blind_fn | exact blind_seq blind_fn | exact blind_seq (blind_seq blind_fn) | (repeat (first | exact blind_fn | refine blind_seq ?_ | refine blind_block ?_ | refine blind_loop ?_))) (S := [_, _]) rfl ?_
          refine HB.quiet [(0, false), (1, false), (2, false), (3, false)] 18 (by kernel_rfl) ?_
          repeat (first | (refine HQ.loadN (ls := x.vals) rfl rfl rfl (Rd.ofRow (by repeat (first | exact .here _ _ _ | apply At.there))) rfl rfl ?_) | ((apply HQ.move); (iterate 3 exact rfl)) | ((apply HQ.ptrNil); (iterate 5 exact rfl)))
          refine HQ.more rfl ?_
          refine HB.ev1 (i := 4) (by kernel_rfl) rfl ?_
          refine H.callR rfl rfl rfl (hmay _) ?_
          repeat ((apply H.nil))
          refine H.on0 rfl ?_
          refine HB.quiet [(5, false), (6, false), (7, false), (8, false), (9, false), (10, false), (11, false), (12, false), (13, false), (14, false), (15, false), (16, false), (17, false), (18, false), (19, false), (20, false), (21, false)] 0 (by kernel_rfl) ?_
          repeat (first | (refine HQ.not (c := false) rfl rfl rfl rfl ?_) | ((first | apply HQ.move | apply HQ.nilCheck); (iterate 3 exact rfl)) | (apply HQ.fieldAddr; (iterate 3 exact rfl); exact inferInstance; exact rfl) | (apply HQ.load1; (iterate 3 exact rfl); apply Rd1.ofRow; (repeat (first | exact .here _ _ _ | apply At.there)); (iterate 2 exact rfl)) | ((apply HQ.cmp); (iterate 5 exact rfl)) | ((apply HQ.pickF); (iterate 4 exact rfl)) | (apply HQ.gno; (iterate 3 exact rfl); (omega)))
          refine HQ.more rfl ?_
          refine HB.done (by kernel_rfl) ?_
          repeat (first | (apply H.fieldAddr; (iterate 3 exact rfl); exact inferInstance; exact rfl) | (apply H.load1; (iterate 3 exact rfl); apply Rd1.ofRow; (repeat (exact .here _ _ _)); (iterate 2 exact rfl)) | (first | apply H.seq | apply H.region | apply H.then_normal) | ((apply H.build); (iterate 5 exact rfl)) | (apply H.skip) | (apply H.cond_no; exact rfl; (omega)))
          refine H.alloc (ls := [.int .i64 0, .int .u64 0]) rfl rfl rfl fun kb => ?_
          refine H.storeN (ls := [.int .i64 0, .int .u64 0]) (vs := [.int .i64 x.m.origin, .int .u64 x.m.body.k]) (ls' := [.int .i64 x.m.origin, .int .u64 x.m.body.k]) rfl rfl rfl (allOne_mem rfl) rfl rfl (Nat.le_refl 2) (by repeat (first | exact .here _ _ _ | apply At.there)) ?_
          repeat ((first | apply H.seq | apply H.nil | apply H.then_normal))
          refine H.drawB (by kernel_rfl) (by decide +kernel) (by first | exact blind_fn | exact blind_seq blind_fn | exact blind_seq (blind_seq blind_fn) | (repeat (first | exact blind_fn | refine blind_seq ?_ | refine blind_block ?_ | refine blind_loop ?_))) (S := [_, _, _, _]) rfl ?_
          refine HB.quiet [(0, false), (1, false), (2, false), (3, false), (4, false), (5, false), (6, false), (7, false), (8, false)] 3 (by kernel_rfl) ?_
          repeat (first | (refine HQ.loadN (ls := [.int .i64 x.m.origin, .int .u64 x.m.body.k]) rfl rfl rfl (Rd.ofRow (by repeat (first | exact .here _ _ _ | apply At.there))) rfl rfl ?_) | ((first | apply HQ.move | apply HQ.nilCheck); (iterate 3 exact rfl)) | (apply HQ.fieldAddr; (iterate 3 exact rfl); exact inferInstance; exact rfl) | (apply HQ.load1; (iterate 3 exact rfl); apply Rd1.ofRow; (repeat (first | exact .here _ _ _ | apply At.there)); (iterate 2 exact rfl)) | ((apply HQ.extract); (iterate 4 exact rfl)) | (refine HQ.lookup2 (k := (x.m.origin, x.m.body.k)) rfl rfl rfl (by repeat (first | exact .here _ _ _ | apply At.there)) rfl hg1 hg2 rfl ?_))
          refine HQ.more rfl ?_
          refine HB.ev1 (i := 9) (by kernel_rfl) rfl ?_
          refine H.alloc (ls := dV dZ) rfl rfl rfl fun db => ?_
          repeat ((apply H.nil))
          refine H.front (x := mp _ _ _) (by repeat (first | exact .here _ _ | apply Pull.there)) ?_
          refine H.front (x := row cb _ _) (by repeat (first | exact .here _ _ | apply Pull.there)) ?_
          refine H.front (x := row xb _ _) (by repeat (first | exact .here _ _ | apply Pull.there)) ?_
          refine H.front (x := row kb _ _) (by repeat (first | exact .here _ _ | apply Pull.there)) ?_
          refine H.on0 rfl ?_
          refine HB.ev1 (i := 10) (by kernel_rfl) rfl ?_
          refine H.storeN (ls := dV dZ) (vs := dV dZ) (ls' := dV dZ) rfl rfl rfl (dV_one _) (dV_len _) (splice_all (by first | rw [dV_len, dV_len] | rfl)) (by first | (rw [dV_len, dV_len]; decide) | exact Nat.le_refl 32) (by repeat (first | exact .here _ _ _ | apply At.there)) ?_
          repeat ((apply H.nil))
          refine H.on0 rfl ?_
          refine HB.quiet [(11, false)] 0 (by kernel_rfl) ?_
          repeat (((apply HQ.assign); (iterate 3 exact rfl)))
          refine HQ.more rfl ?_
          refine HB.done (by kernel_rfl) ?_
          repeat (first | ((apply H.move); (iterate 3 exact rfl)) | (first | apply H.seq | apply H.region | apply H.nil | apply H.then_normal) | (apply H.cond_false; exact rfl) | (apply H.skip))
          refine H.drop (x := row db _ _) (by repeat (first | exact .here _ _ | apply Pull.there)) ?_
          refine H.drawC [0, 1, 2, 3, 4, 5, 6, 7] (by kernel_rfl) (by decide +kernel) (by first | exact blind_fn | exact blind_seq blind_fn | exact blind_seq (blind_seq blind_fn) | (repeat (first | exact blind_fn | refine blind_seq ?_ | refine blind_block ?_ | refine blind_loop ?_))) (S := [_, _, _, _]) rfl ?_
          refine HB.quiet [(0, false), (1, false), (2, false), (3, false), (4, false), (5, false), (6, false), (7, false)] 1 (by kernel_rfl) ?_
          repeat (first | (refine HQ.loadN (ls := [.int .i64 x.m.origin, .int .u64 x.m.body.k]) rfl rfl rfl (Rd.ofRow (by repeat (first | exact .here _ _ _ | apply At.there))) rfl rfl ?_) | (refine HQ.loadN (ls := bytesV (b32L x.m.body.dig)) rfl rfl rfl (mv_dig (by repeat (first | exact .here _ _ _ | apply At.there))) rfl rfl ?_) | ((first | apply HQ.move | apply HQ.nilCheck); (iterate 3 exact rfl)) | (apply HQ.fieldAddr; (iterate 3 exact rfl); exact inferInstance; exact rfl) | (apply HQ.load1; (iterate 3 exact rfl); apply Rd1.ofRow; (repeat (first | exact .here _ _ _ | apply At.there)); (iterate 2 exact rfl)))
          refine HQ.more rfl ?_
          refine HB.next [] (by kernel_rfl) (S' := []) rfl ?_
          refine HB.ev1 (i := 8) (by kernel_rfl) rfl ?_
          refine H.mapUpdate (k := (x.m.origin, x.m.body.k)) (v := encD (dOf x.m.body.dig)) rfl rfl rfl rfl (by repeat (first | exact .here _ _ _ | apply At.there)) rfl ?_
          rw [hput]
          repeat ((apply H.nil))
          refine H.on0 rfl ?_
          refine HB.done (by kernel_rfl) ?_
          repeat (first | ((apply H.assign); (iterate 3 exact rfl)) | (first | apply H.seq | apply H.region | apply H.nil | apply H.then_normal) | (apply H.ret))
          refine H.drop (x := row kb _ _) (by repeat (first | exact .here _ _ | apply Pull.there)) ?_
          refine H.drop (x := row xb _ _) (by repeat (first | exact .here _ _ | apply Pull.there)) ?_
          refine H.imp chkH_fold ?_
          exact H.ret1 rfl rfl (fun _ h => h) ⟨rfl, rfl, rfl⟩
      · have hno : M.take n x.m = (false, M) := if_neg (fun h => h2 h.2.2.1)
        rw [hno]
        clear hm hno
        refine Fn.enter Tryd.func8 rfl Tryd.ntmps8 rfl (L := [(0, _), (1, _)]) ⟨rfl, rfl, trivial⟩ fun base => ?_
        show H _ _ _ _ _ (row cb _ (chkRow n mb) :: mp mb encN (mpV M) :: F) _
        repeat ((first | apply H.seq | apply H.region))
        refine H.box (ls := x.vals) rfl rfl rfl rfl fun xb => ?_
        repeat (first | ((apply H.assign); (iterate 3 exact rfl)) | (first | apply H.seq | apply H.nil | apply H.then_normal))
        refine H.drawB (by kernel_rfl) (by decide +kernel) (by first | exact blind_fn | exact blind_seq blind_fn | exact blind_seq (blind_seq blind_fn) | (repeat (first | exact blind_fn | refine blind_seq ?_ | refine blind_block ?_ | refine blind_loop ?_))) (S := [_, _]) rfl ?_
        refine HB.quiet [(0, false), (1, false), (2, false), (3, false)] 18 (by kernel_rfl) ?_
        repeat (first | (refine HQ.loadN (ls := x.vals) rfl rfl rfl (Rd.ofRow (by repeat (first | exact .here _ _ _ | apply At.there))) rfl rfl ?_) | ((apply HQ.move); (iterate 3 exact rfl)) | ((apply HQ.ptrNil); (iterate 5 exact rfl)))
        refine HQ.more rfl ?_
        refine HB.ev1 (i := 4) (by kernel_rfl) rfl ?_
        refine H.callR rfl rfl rfl (hmay _) ?_
        repeat ((apply H.nil))
        refine H.on0 rfl ?_
        refine HB.quiet [(5, false), (6, false), (7, false), (8, false), (9, false), (10, false), (11, false), (12, false), (13, false), (14, false), (15, false), (16, false), (17, false), (18, false), (19, false), (20, false), (21, false)] 0 (by kernel_rfl) ?_
        repeat (first | (refine HQ.not (c := false) rfl rfl rfl rfl ?_) | ((first | apply HQ.move | apply HQ.nilCheck); (iterate 3 exact rfl)) | (apply HQ.fieldAddr; (iterate 3 exact rfl); exact inferInstance; exact rfl) | (apply HQ.load1; (iterate 3 exact rfl); apply Rd1.ofRow; (repeat (first | exact .here _ _ _ | apply At.there)); (iterate 2 exact rfl)) | ((apply HQ.cmp); (iterate 5 exact rfl)) | ((apply HQ.pickF); (iterate 4 exact rfl)) | (apply HQ.gno; (iterate 3 exact rfl); (omega)))
        refine HQ.more rfl ?_
        refine HB.done (by kernel_rfl) ?_
        repeat (first | ((apply H.assign); (iterate 3 exact rfl)) | (first | apply H.seq | apply H.region | apply H.nil | apply H.then_normal) | (first | apply H.ret | apply H.then_ret) | (apply H.cond_yes; exact rfl; (assumption)))
        refine H.drop (x := row xb _ _) (by repeat (first | exact .here _ _ | apply Pull.there)) ?_
        refine H.imp chkH_fold ?_
        exact H.ret1 rfl rfl (fun _ h => h) ⟨rfl, rfl, rfl⟩
    · have hno : M.take n x.m = (false, M) := if_neg (fun h => h1 h.2.1)
      rw [hno]
      clear hm hno
      refine Fn.enter Tryd.func8 rfl Tryd.ntmps8 rfl (L := [(0, _), (1, _)]) ⟨rfl, rfl, trivial⟩ fun base => ?_
      show H _ _ _ _ _ (row cb _ (chkRow n mb) :: mp mb encN (mpV M) :: F) _
      repeat ((first | apply H.seq | apply H.region))
      refine H.box (ls := x.vals) rfl rfl rfl rfl fun xb => ?_
      repeat (first | ((apply H.assign); (iterate 3 exact rfl)) | (first | apply H.seq | apply H.nil | apply H.then_normal))
      refine H.drawB (by kernel_rfl) (by decide +kernel) (by first | exact blind_fn | exact blind_seq blind_fn | exact blind_seq (blind_seq blind_fn) | (repeat (first | exact blind_fn | refine blind_seq ?_ | refine blind_block ?_ | refine blind_loop ?_))) (S := [_, _]) rfl ?_
      refine HB.quiet [(0, false), (1, false), (2, false), (3, false)] 18 (by kernel_rfl) ?_
      repeat (first | (refine HQ.loadN (ls := x.vals) rfl rfl rfl (Rd.ofRow (by repeat (first | exact .here _ _ _ | apply At.there))) rfl rfl ?_) | ((apply HQ.move); (iterate 3 exact rfl)) | ((apply HQ.ptrNil); (iterate 5 exact rfl)))
      refine HQ.more rfl ?_
      refine HB.ev1 (i := 4) (by kernel_rfl) rfl ?_
      refine H.callR rfl rfl rfl (hmay _) ?_
      repeat ((apply H.nil))
      refine H.on0 rfl ?_
      refine HB.quiet [(5, false), (6, false), (7, false), (8, false), (9, false), (10, false), (11, false), (12, false), (13, false), (14, false), (15, false), (16, false), (17, false), (18, false), (19, false), (20, false), (21, false)] 0 (by kernel_rfl) ?_
      repeat (first | (refine HQ.not (c := false) rfl rfl rfl rfl ?_) | ((first | apply HQ.move | apply HQ.nilCheck); (iterate 3 exact rfl)) | (apply HQ.fieldAddr; (iterate 3 exact rfl); exact inferInstance; exact rfl) | (apply HQ.load1; (iterate 3 exact rfl); apply Rd1.ofRow; (repeat (first | exact .here _ _ _ | apply At.there)); (iterate 2 exact rfl)) | ((apply HQ.cmp); (iterate 5 exact rfl)) | (apply HQ.pass; (iterate 2 exact rfl)) | (apply HQ.pickT; (iterate 4 exact rfl)) | ((apply HQ.pickF); (iterate 4 exact rfl)) | (apply HQ.gyes; (iterate 3 exact rfl); (omega)))
      refine HQ.more rfl ?_
      refine HB.done (by kernel_rfl) ?_
      repeat (first | ((apply H.assign); (iterate 3 exact rfl)) | (first | apply H.seq | apply H.region | apply H.nil | apply H.then_normal) | (apply H.cond_true; exact rfl) | (first | apply H.ret | apply H.then_ret))
      refine H.drop (x := row xb _ _) (by repeat (first | exact .here _ _ | apply Pull.there)) ?_
      refine H.imp chkH_fold ?_
      exact H.ret1 rfl rfl (fun _ h => h) ⟨rfl, rfl, rfl⟩
end
end Go.Proofs.YtcdpnloeheaclaaDoor

/- Layer 21: the program's checks: Digest. -/
namespace Go.Proofs.YtcdpnloeheaclaaDoor
set_option linter.unusedSectionVars false
set_option linter.unusedSimpArgs false
set_option linter.unusedVariables false
open Go
/-- How many of the first r replicas tell d. -/
def cnt (T : Nat → Option D32) (d : D32) : Nat → Nat
  | 0 => 0
  | r + 1 => cnt T d r + (if T (r + 1) = some d then 1 else 0)
def digR (n : Nat) (T : Nat → Option D32) : Option D32 → Prop
  | some d => n / 2 < cnt T d n
  | none => ∀ d, cnt T d n ≤ n / 2
def dgV (o : Option D32) : Value := .tuple #[encD (o.getD dZ), .bool o.isSome]
theorem cnt_le (T : Nat → Option D32) (d : D32) (r : Nat) : ∀ k, cnt T d r ≤ cnt T d (r + k)
  | 0 => Nat.le_refl _
  | k + 1 => Nat.le_trans (cnt_le T d r k) (by show _ ≤ cnt T d (r + k) + _; omega)
theorem cnt_two (T : Nat → Option D32) {a b : D32} (h : a ≠ b) : ∀ r, cnt T a r + cnt T b r ≤ r
  | 0 => Nat.le_refl _
  | r + 1 => by
    have ih := cnt_two T h r
    show cnt T a r + (if T (r + 1) = some a then 1 else 0) + (cnt T b r + (if T (r + 1) = some b then 1 else 0)) ≤ r + 1
    by_cases h1 : T (r + 1) = some a
    · rw [if_pos h1, if_neg (fun h2 => h (by rw [h1] at h2; exact Option.some.inj h2))]
      omega
    · rw [if_neg h1]
      split <;> omega
theorem digR_one {n : Nat} {T : Nat → Option D32} {a b : Option D32} (ha : digR n T a) (hb : digR n T b) : a = b := by
  cases a with
  | none =>
    cases b with
    | none => rfl
    | some d => exact absurd (ha d) (by have : n / 2 < cnt T d n := hb; omega)
  | some c =>
    cases b with
    | none => exact absurd (hb c) (by have : n / 2 < cnt T c n := ha; omega)
    | some d =>
      by_cases e : c = d
      · rw [e]
      · have h1 : n / 2 < cnt T c n := ha
        have h2 : n / 2 < cnt T d n := hb
        have := cnt_two T e n
        omega
def tells (M : CM) (k : Int) : Nat → Option D32 := fun r => tld M ((r : Int), k)
section
variable (f : Frag) (F : List HP)
set_option maxRecDepth 20000 in
set_option maxHeartbeats 1600000 in
theorem cdig_core {cb n mb : Nat} {M : CM} {k : Int} {es : List ((Int × Int) × Value × Nat)} {clock : Nat} (hes : es.map kvOf = mpV M) (hn : n ≤ 11) :
    Fn Tryd.prog 10 [.pointer (some ⟨cb, 0, none⟩), .int .u64 k] f (row cb 60 (chkRow n mb) :: mpS mb encN es clock :: F) (RetP (digR n (tells M k)) dgV f (fun _ => row cb 60 (chkRow n mb) :: mpS mb encN es clock :: F)) := by
  have hhalf : IntKind.wrap .i64 (((n : Nat) : Int).tdiv 2) = ((n / 2 : Nat) : Int) := by
    rw [show (2 : Int) = ((2 : Nat) : Int) from rfl, tdiv64, wr_i64 (by omega)]
  refine Fn.enter Tryd.func10 rfl Tryd.ntmps10 rfl (L := [(0, _), (1, _)]) ⟨rfl, rfl, trivial⟩ fun base => ?_
  repeat ((first | apply H.seq | apply H.region))
  refine H.alloc (ls := dV dZ) rfl rfl rfl fun ob => ?_
  repeat (first | ((first | apply H.move | apply H.assign); (iterate 3 exact rfl)) | (first | apply H.seq | apply H.region | apply H.nil | apply H.then_normal) | ((apply H.ptrNil); (iterate 5 exact rfl)) | (apply H.cond_false; exact rfl) | (apply H.skip))
  refine H.makeMap encD rfl rfl fun vb => ?_
  repeat (first | ((apply H.assign); (iterate 3 exact rfl)) | (first | apply H.seq | apply H.region | apply H.nil | apply H.then_normal) | (apply H.block))
  refine H.loop (ι := Nat × List (D32 × Value)) (fun i => [(7, .int .i64 ((i.1 + 1 : Nat) : Int)), (6, .map (some vb)), (0, .pointer (some ⟨cb, 0, none⟩)), (1, .int .u64 k), (4, .pointer (some ⟨ob, 0, none⟩)), (5, .bool false)]) (fun _ => f)
    (fun i => mp vb encD i.2 :: row ob 29 (dV dZ) :: row cb 60 (chkRow n mb) :: mpS mb encN es clock :: F)
    (fun i => i.1 ≤ n ∧ (∀ d, (getKV i.2 d).getD (.int .i64 0) = .int .i64 (cnt (tells M k) d i.1 : Nat)) ∧ ∀ d, cnt (tells M k) d i.1 ≤ n / 2) (fun i => n - i.1) (0, []) ⟨Nat.zero_le _, fun d => rfl, fun d => Nat.zero_le _⟩ ⟨rfl, rfl, rfl, rfl, rfl, rfl, trivial⟩ rfl rfl fun i hi => ?_
  obtain ⟨r, V⟩ := i
  obtain ⟨hr, hV, hle⟩ : r ≤ n ∧ (∀ d, (getKV V d).getD (.int .i64 0) = .int .i64 (cnt (tells M k) d r : Nat)) ∧ ∀ d, cnt (tells M k) d r ≤ n / 2 := hi
  show H _ _ _ ((7, .int .i64 ((r + 1 : Nat) : Int)) :: _) _ (mp vb encD V :: _) _
  by_cases hlt : r < n
  · cases hT : tells M k (r + 1) with
    | none =>
      have hget : getKV (es.map kvOf) (((r + 1 : Nat) : Int), k) = none := by rw [hes, getKV_mpV]; show (tells M k (r + 1)).map encD = none; rw [hT]; rfl
      have hg1 : (getKV (es.map kvOf) (((r + 1 : Nat) : Int), k)).getD (encD dZ) = encD dZ := by rw [hget]; rfl
      have hg2 : (getKV (es.map kvOf) (((r + 1 : Nat) : Int), k)).isSome = false := by rw [hget]; rfl
      repeat (first | ((first | apply H.move | apply H.nilCheck); (iterate 3 exact rfl)) | (apply H.fieldAddr; (iterate 3 exact rfl); exact inferInstance; exact rfl) | (apply H.load1; (iterate 3 exact rfl); apply Rd1.ofRow; (repeat (first | exact .here _ _ _ | apply At.there)); (iterate 2 exact rfl)) | (first | apply H.seq | apply H.region | apply H.nil | apply H.then_normal) | ((first | apply H.cmp | apply H.build); (iterate 5 exact rfl)) | ((apply H.extract); (iterate 4 exact rfl)) | (first | apply H.skip | apply H.block) | (apply H.cond_yes; exact rfl; (omega)) | (refine H.lookup2S (k := (((r + 1 : Nat) : Int), k)) rfl rfl rfl (by repeat (first | exact .here _ _ _ | apply At.there)) rfl hg1 hg2 rfl ?_))
      refine H.alloc (ls := dV dZ) rfl rfl rfl fun xb => ?_
      refine H.storeN (ls := dV dZ) (vs := dV dZ) (ls' := dV dZ) rfl rfl rfl (dV_one _) rfl (splice_all rfl) (Nat.le_refl 32) (by repeat (first | exact .here _ _ _ | apply At.there)) ?_
      repeat (first | (refine H.not (c := true) rfl rfl rfl rfl ?_) | ((first | apply H.move | apply H.assign); (iterate 3 exact rfl)) | (first | apply H.seq | apply H.region | apply H.nil | apply H.then_normal) | ((apply H.ar; (iterate 4 exact rfl)); (with_reducible apply wr_i64_n1; omega); exact rfl) | (apply H.cond_true; exact rfl) | (first | apply H.then_exit | apply H.exit | apply H.in_hit))
      refine H.drop (x := row xb _ _) (by repeat (first | exact .here _ _ | apply Pull.there)) ?_
      have hcn : ∀ d, cnt (tells M k) d (r + 1) = cnt (tells M k) d r := fun d => by
        show cnt (tells M k) d r + (if tells M k (r + 1) = some d then 1 else 0) = _
        rw [hT, if_neg (fun h => by cases h)]
        omega
      exact H.again (r + 1, V) ⟨by show r + 1 ≤ n; omega, fun d => by show _ = Value.int .i64 ((cnt (tells M k) d (r + 1) : Nat) : Int); rw [hcn]; exact hV d, fun d => by show cnt (tells M k) d (r + 1) ≤ n / 2; rw [hcn]; exact hle d⟩ (by show n - (r + 1) < n - r; omega) ⟨rfl, rfl, rfl, rfl, rfl, rfl, trivial⟩ rfl rfl
    | some x =>
      have hget : getKV (es.map kvOf) (((r + 1 : Nat) : Int), k) = some (encD x) := by rw [hes, getKV_mpV]; show (tells M k (r + 1)).map encD = some (encD x); rw [hT]; rfl
      have hg1 : (getKV (es.map kvOf) (((r + 1 : Nat) : Int), k)).getD (encD dZ) = encD x := by rw [hget]; rfl
      have hg2 : (getKV (es.map kvOf) (((r + 1 : Nat) : Int), k)).isSome = true := by rw [hget]; rfl
      have hcx := hV x
      obtain ⟨c, hc⟩ : ∃ c, cnt (tells M k) x r = c := ⟨_, rfl⟩
      rw [hc] at hcx
      have hcl : c ≤ n / 2 := by rw [← hc]; exact hle x
      have hV2 : ∀ d, (getKV (putKV (putKV V x (.int .i64 (c : Nat))) x (.int .i64 ((c + 1 : Nat) : Int))) d).getD (.int .i64 0) = .int .i64 ((cnt (tells M k) d r + (if d = x then 1 else 0) : Nat) : Int) := fun d => by
        by_cases e : d = x
        · subst e; rw [getKV_put_same, if_pos rfl, hc]; rfl
        · rw [getKV_put_ne _ _ _ _ e, getKV_put_ne _ _ _ _ e, hV d, if_neg e]; rfl
      have hcx2 : (getKV (putKV V x (.int .i64 (c : Nat))) x).getD (.int .i64 0) = .int .i64 (c : Nat) := by rw [getKV_put_same]; rfl
      repeat (first | ((first | apply H.move | apply H.nilCheck); (iterate 3 exact rfl)) | (apply H.fieldAddr; (iterate 3 exact rfl); exact inferInstance; exact rfl) | (apply H.load1; (iterate 3 exact rfl); apply Rd1.ofRow; (repeat (first | exact .here _ _ _ | apply At.there)); (iterate 2 exact rfl)) | (first | apply H.seq | apply H.region | apply H.nil | apply H.then_normal) | ((first | apply H.cmp | apply H.build); (iterate 5 exact rfl)) | ((apply H.extract); (iterate 4 exact rfl)) | (first | apply H.skip | apply H.block) | (apply H.cond_yes; exact rfl; (omega)) | (refine H.lookup2S (k := (((r + 1 : Nat) : Int), k)) rfl rfl rfl (by repeat (first | exact .here _ _ _ | apply At.there)) rfl hg1 hg2 rfl ?_))
      refine H.alloc (ls := dV dZ) rfl rfl rfl fun xb => ?_
      refine H.storeN (ls := dV dZ) (vs := dV x) (ls' := dV x) rfl rfl rfl (dV_one _) (dV_len _) (splice_all (by first | rw [dV_len, dV_len] | rfl)) (by first | (rw [dV_len, dV_len]; decide) | exact Nat.le_refl 32) (by repeat (first | exact .here _ _ _ | apply At.there)) ?_
      repeat (first | (refine H.not (c := false) rfl rfl rfl rfl ?_) | ((first | apply H.move | apply H.assign); (iterate 3 exact rfl)) | (first | apply H.seq | apply H.region | apply H.nil | apply H.then_normal) | (apply H.cond_false; exact rfl) | (apply H.skip))
      refine H.drawB (by kernel_rfl) (by decide +kernel) (by first | exact blind_fn | exact blind_seq blind_fn | exact blind_seq (blind_seq blind_fn) | (repeat (first | exact blind_fn | refine blind_seq ?_ | refine blind_block ?_ | refine blind_loop ?_))) (S := [_]) rfl ?_
      refine HB.quiet [(0, false), (1, false)] 5 (by kernel_rfl) ?_
      repeat (first | (refine HQ.loadN (ls := dV x) rfl rfl rfl (Rd.ofRow (by repeat (first | exact .here _ _ _ | apply At.there))) (dV_len x) rfl ?_) | ((apply HQ.move); (iterate 3 exact rfl)))
      refine HQ.more rfl ?_
      refine HB.ev2 (i := 2) (j := 4) (by kernel_rfl) rfl rfl ?_ ?_
      · refine H.lookup (k := x) rfl rfl rfl (by repeat (first | exact .here _ _ _ | apply At.there)) rfl hcx rfl ?_
        repeat ((apply H.nil))
        refine H.on0 rfl ?_
        refine HB.quiet [(3, false)] 3 (by kernel_rfl) ?_
        repeat (((apply HQ.ar; (iterate 4 exact rfl)); (with_reducible apply wr_i64_n1; omega); exact rfl))
        refine HQ.more rfl ?_
        refine HB.ev1 (i := 4) (by kernel_rfl) rfl ?_
        refine H.mapEntry (k := x) rfl rfl rfl (fun st => (by repeat (first | exact .here _ _ _ | apply At.there))) rfl rfl fun st => ?_
        rw [hcx]
        repeat ((apply H.nil))
        refine H.on0 rfl ?_
        refine HB.quiet [(5, false)] 1 (by kernel_rfl) ?_
        repeat (((apply HQ.extract); (iterate 4 exact rfl)))
        refine HQ.more rfl ?_
        refine HB.ev1 (i := 6) (by kernel_rfl) rfl ?_
        refine H.entryStore rfl rfl rfl rfl (by repeat (first | exact .here _ _ _ | apply At.there)) ?_
        repeat ((apply H.nil))
        refine H.on0 rfl ?_
        refine HB.done (by kernel_rfl) ?_
        repeat ((first | apply H.seq | apply H.then_normal))
        have hsum := hV2 x
        rw [if_pos rfl] at hsum
        have hget2 : (getKV (putKV (putKV V x (.int .i64 (c : Nat))) x (.int .i64 ((c + 1 : Nat) : Int))) x).getD (.int .i64 0) = .int .i64 ((c + 1 : Nat) : Int) := by rw [getKV_put_same]; rfl
        generalize putKV (putKV V x (.int .i64 (c : Nat))) x (.int .i64 ((c + 1 : Nat) : Int)) = V2 at hV2 hget2 ⊢
        by_cases hgt : n / 2 < c + 1
        · refine H.drawQ (by kernel_rfl) (by decide +kernel) (by first | exact blind_fn | exact blind_seq blind_fn | exact blind_seq (blind_seq blind_fn) | (repeat (first | exact blind_fn | refine blind_seq ?_ | refine blind_block ?_ | refine blind_loop ?_))) ?_
          repeat (first | (refine HQ.loadN (ls := dV x) rfl rfl rfl (Rd.ofRow (by repeat (first | exact .here _ _ _ | apply At.there))) (dV_len x) rfl ?_) | ((first | apply HQ.move | apply HQ.nilCheck); (iterate 3 exact rfl)) | (apply HQ.fieldAddr; (iterate 3 exact rfl); exact inferInstance; exact rfl) | (apply HQ.load1; (iterate 3 exact rfl); apply Rd1.ofRow; (repeat (first | exact .here _ _ _ | apply At.there)); (iterate 2 exact rfl)) | ((apply HQ.done0); exact rfl) | ((apply HQ.cmp); (iterate 5 exact rfl)) | (refine HQ.lookup (k := x) rfl rfl rfl (by repeat (first | exact .here _ _ _ | apply At.there)) rfl hget2 rfl ?_) | (refine HQ.quo rfl rfl rfl (by decide) hhalf rfl ?_))
          repeat (first | (first | apply H.seq | apply H.region | apply H.then_normal) | (apply H.cond_yes; exact rfl; (omega)))
          refine H.loadN (ls := dV x) rfl rfl rfl (Rd.ofRow (by repeat (first | exact .here _ _ _ | apply At.there))) (dV_len x) rfl ?_
          refine H.storeN (ls := dV dZ) (vs := dV x) (ls' := dV x) rfl rfl rfl (dV_one _) (dV_len _) (splice_all (by first | rw [dV_len, dV_len] | rfl)) (by first | (rw [dV_len, dV_len]; decide) | exact Nat.le_refl 32) (by repeat (first | exact .here _ _ _ | apply At.there)) ?_
          repeat (first | ((apply H.assign); (iterate 3 exact rfl)) | (first | apply H.nil | apply H.then_normal) | (first | apply H.ret | apply H.then_ret | apply H.in_ret | apply H.loop_ret))
          refine H.drop (x := row xb _ _) (by repeat (first | exact .here _ _ | apply Pull.there)) ?_
          refine H.drop (x := mp vb _ _) (by repeat (first | exact .here _ _ | apply Pull.there)) ?_
          have hres : digR n (tells M k) (some x) := by
            show n / 2 < cnt (tells M k) x n
            have h1 := cnt_le (tells M k) x (r + 1) (n - (r + 1))
            rw [show r + 1 + (n - (r + 1)) = n by omega] at h1
            have h2 : cnt (tells M k) x (r + 1) = c + 1 := by
              show cnt (tells M k) x r + (if tells M k (r + 1) = some x then 1 else 0) = c + 1
              rw [if_pos hT, hc]
            omega
          exact H.retCT rfl rfl rfl rfl (Rd.ofRow (by repeat (first | exact .here _ _ _ | apply At.there))) (dV_len x) (fun _ s => s.drop (.here _ _)) ⟨some x, hres, rfl, rfl, rfl⟩
        · refine H.drawQ (by kernel_rfl) (by decide +kernel) (by first | exact blind_fn | exact blind_seq blind_fn | exact blind_seq (blind_seq blind_fn) | (repeat (first | exact blind_fn | refine blind_seq ?_ | refine blind_block ?_ | refine blind_loop ?_))) ?_
          repeat (first | (refine HQ.loadN (ls := dV x) rfl rfl rfl (Rd.ofRow (by repeat (first | exact .here _ _ _ | apply At.there))) (dV_len x) rfl ?_) | ((first | apply HQ.move | apply HQ.nilCheck); (iterate 3 exact rfl)) | (apply HQ.fieldAddr; (iterate 3 exact rfl); exact inferInstance; exact rfl) | (apply HQ.load1; (iterate 3 exact rfl); apply Rd1.ofRow; (repeat (first | exact .here _ _ _ | apply At.there)); (iterate 2 exact rfl)) | ((apply HQ.done0); exact rfl) | ((apply HQ.cmp); (iterate 5 exact rfl)) | (refine HQ.lookup (k := x) rfl rfl rfl (by repeat (first | exact .here _ _ _ | apply At.there)) rfl hget2 rfl ?_) | (refine HQ.quo rfl rfl rfl (by decide) hhalf rfl ?_))
          repeat (first | ((first | apply H.move | apply H.assign); (iterate 3 exact rfl)) | (first | apply H.region | apply H.nil | apply H.then_normal) | ((apply H.ar; (iterate 4 exact rfl)); (with_reducible apply wr_i64_n1; omega); exact rfl) | (first | apply H.skip | apply H.in_normal) | (apply H.cond_no; exact rfl; (omega)))
          refine H.drop (x := row xb _ _) (by repeat (first | exact .here _ _ | apply Pull.there)) ?_
          exact H.again (r + 1, V2) ⟨by show r + 1 ≤ n; omega, fun d => by
              rw [hV2 d]
              show Value.int .i64 ((cnt (tells M k) d r + (if d = x then 1 else 0) : Nat) : Int) = Value.int .i64 ((cnt (tells M k) d r + (if tells M k (r + 1) = some d then 1 else 0) : Nat) : Int)
              rw [hT]
              by_cases e : d = x
              · subst e; simp
              · rw [if_neg e, if_neg (fun h => e (Option.some.inj h).symm)], fun d => by
              show cnt (tells M k) d r + (if tells M k (r + 1) = some d then 1 else 0) ≤ n / 2
              rw [hT]
              by_cases e : x = d
              · subst e; rw [if_pos rfl, hc]; omega
              · rw [if_neg (fun h => e (Option.some.inj h))]; exact hle d⟩ (by show n - (r + 1) < n - r; omega) ⟨rfl, rfl, rfl, rfl, rfl, rfl, trivial⟩ rfl rfl
      · refine H.mapEntry (k := x) rfl rfl rfl (fun st => (by repeat (first | exact .here _ _ _ | apply At.there))) rfl rfl fun st => ?_
        rw [hcx]
        repeat ((apply H.nil))
        refine H.on0 rfl ?_
        refine HB.quiet [(5, false)] 3 (by kernel_rfl) ?_
        repeat (((apply HQ.extract); (iterate 4 exact rfl)))
        refine HQ.more rfl ?_
        refine HB.ev1 (i := 2) (by kernel_rfl) rfl ?_
        refine H.lookupAt (k := x) rfl rfl rfl (by repeat (first | exact .here _ _ _ | apply At.there)) rfl hcx2 rfl ?_
        repeat ((apply H.nil))
        refine H.on0 rfl ?_
        refine HB.quiet [(3, false)] 1 (by kernel_rfl) ?_
        repeat (((apply HQ.ar; (iterate 4 exact rfl)); (with_reducible apply wr_i64_n1; omega); exact rfl))
        refine HQ.more rfl ?_
        refine HB.ev1 (i := 6) (by kernel_rfl) rfl ?_
        refine H.entryStore rfl rfl rfl rfl (by repeat (first | exact .here _ _ _ | apply At.there)) ?_
        repeat ((apply H.nil))
        refine H.on0 rfl ?_
        refine HB.done (by kernel_rfl) ?_
        repeat ((first | apply H.seq | apply H.then_normal))
        have hsum := hV2 x
        rw [if_pos rfl] at hsum
        have hget2 : (getKV (putKV (putKV V x (.int .i64 (c : Nat))) x (.int .i64 ((c + 1 : Nat) : Int))) x).getD (.int .i64 0) = .int .i64 ((c + 1 : Nat) : Int) := by rw [getKV_put_same]; rfl
        generalize putKV (putKV V x (.int .i64 (c : Nat))) x (.int .i64 ((c + 1 : Nat) : Int)) = V2 at hV2 hget2 ⊢
        by_cases hgt : n / 2 < c + 1
        · refine H.drawQ (by kernel_rfl) (by decide +kernel) (by first | exact blind_fn | exact blind_seq blind_fn | exact blind_seq (blind_seq blind_fn) | (repeat (first | exact blind_fn | refine blind_seq ?_ | refine blind_block ?_ | refine blind_loop ?_))) ?_
          repeat (first | (refine HQ.loadN (ls := dV x) rfl rfl rfl (Rd.ofRow (by repeat (first | exact .here _ _ _ | apply At.there))) (dV_len x) rfl ?_) | ((first | apply HQ.move | apply HQ.nilCheck); (iterate 3 exact rfl)) | (apply HQ.fieldAddr; (iterate 3 exact rfl); exact inferInstance; exact rfl) | (apply HQ.load1; (iterate 3 exact rfl); apply Rd1.ofRow; (repeat (first | exact .here _ _ _ | apply At.there)); (iterate 2 exact rfl)) | ((apply HQ.done0); exact rfl) | ((apply HQ.cmp); (iterate 5 exact rfl)) | (refine HQ.lookup (k := x) rfl rfl rfl (by repeat (first | exact .here _ _ _ | apply At.there)) rfl hget2 rfl ?_) | (refine HQ.quo rfl rfl rfl (by decide) hhalf rfl ?_))
          repeat (first | (first | apply H.seq | apply H.region | apply H.then_normal) | (apply H.cond_yes; exact rfl; (omega)))
          refine H.loadN (ls := dV x) rfl rfl rfl (Rd.ofRow (by repeat (first | exact .here _ _ _ | apply At.there))) (dV_len x) rfl ?_
          refine H.storeN (ls := dV dZ) (vs := dV x) (ls' := dV x) rfl rfl rfl (dV_one _) (dV_len _) (splice_all (by first | rw [dV_len, dV_len] | rfl)) (by first | (rw [dV_len, dV_len]; decide) | exact Nat.le_refl 32) (by repeat (first | exact .here _ _ _ | apply At.there)) ?_
          repeat (first | ((apply H.assign); (iterate 3 exact rfl)) | (first | apply H.nil | apply H.then_normal) | (first | apply H.ret | apply H.then_ret | apply H.in_ret | apply H.loop_ret))
          refine H.drop (x := row xb _ _) (by repeat (first | exact .here _ _ | apply Pull.there)) ?_
          refine H.drop (x := mp vb _ _) (by repeat (first | exact .here _ _ | apply Pull.there)) ?_
          have hres : digR n (tells M k) (some x) := by
            show n / 2 < cnt (tells M k) x n
            have h1 := cnt_le (tells M k) x (r + 1) (n - (r + 1))
            rw [show r + 1 + (n - (r + 1)) = n by omega] at h1
            have h2 : cnt (tells M k) x (r + 1) = c + 1 := by
              show cnt (tells M k) x r + (if tells M k (r + 1) = some x then 1 else 0) = c + 1
              rw [if_pos hT, hc]
            omega
          exact H.retCT rfl rfl rfl rfl (Rd.ofRow (by repeat (first | exact .here _ _ _ | apply At.there))) (dV_len x) (fun _ s => s.drop (.here _ _)) ⟨some x, hres, rfl, rfl, rfl⟩
        · refine H.drawQ (by kernel_rfl) (by decide +kernel) (by first | exact blind_fn | exact blind_seq blind_fn | exact blind_seq (blind_seq blind_fn) | (repeat (first | exact blind_fn | refine blind_seq ?_ | refine blind_block ?_ | refine blind_loop ?_))) ?_
          repeat (first | (refine HQ.loadN (ls := dV x) rfl rfl rfl (Rd.ofRow (by repeat (first | exact .here _ _ _ | apply At.there))) (dV_len x) rfl ?_) | ((first | apply HQ.move | apply HQ.nilCheck); (iterate 3 exact rfl)) | (apply HQ.fieldAddr; (iterate 3 exact rfl); exact inferInstance; exact rfl) | (apply HQ.load1; (iterate 3 exact rfl); apply Rd1.ofRow; (repeat (first | exact .here _ _ _ | apply At.there)); (iterate 2 exact rfl)) | ((apply HQ.done0); exact rfl) | ((apply HQ.cmp); (iterate 5 exact rfl)) | (refine HQ.lookup (k := x) rfl rfl rfl (by repeat (first | exact .here _ _ _ | apply At.there)) rfl hget2 rfl ?_) | (refine HQ.quo rfl rfl rfl (by decide) hhalf rfl ?_))
          repeat (first | ((first | apply H.move | apply H.assign); (iterate 3 exact rfl)) | (first | apply H.region | apply H.nil | apply H.then_normal) | ((apply H.ar; (iterate 4 exact rfl)); (with_reducible apply wr_i64_n1; omega); exact rfl) | (first | apply H.skip | apply H.in_normal) | (apply H.cond_no; exact rfl; (omega)))
          refine H.drop (x := row xb _ _) (by repeat (first | exact .here _ _ | apply Pull.there)) ?_
          exact H.again (r + 1, V2) ⟨by show r + 1 ≤ n; omega, fun d => by
              rw [hV2 d]
              show Value.int .i64 ((cnt (tells M k) d r + (if d = x then 1 else 0) : Nat) : Int) = Value.int .i64 ((cnt (tells M k) d r + (if tells M k (r + 1) = some d then 1 else 0) : Nat) : Int)
              rw [hT]
              by_cases e : d = x
              · subst e; simp
              · rw [if_neg e, if_neg (fun h => e (Option.some.inj h).symm)], fun d => by
              show cnt (tells M k) d r + (if tells M k (r + 1) = some d then 1 else 0) ≤ n / 2
              rw [hT]
              by_cases e : x = d
              · subst e; rw [if_pos rfl, hc]; omega
              · rw [if_neg (fun h => e (Option.some.inj h))]; exact hle d⟩ (by show n - (r + 1) < n - r; omega) ⟨rfl, rfl, rfl, rfl, rfl, rfl, trivial⟩ rfl rfl
  · have hrn : r = n := by omega
    subst hrn
    have hres : digR r (tells M k) none := hle
    repeat (first | ((first | apply H.move | apply H.nilCheck); (iterate 3 exact rfl)) | (apply H.fieldAddr; (iterate 3 exact rfl); exact inferInstance; exact rfl) | (apply H.load1; (iterate 3 exact rfl); apply Rd1.ofRow; (repeat (first | exact .here _ _ _ | apply At.there)); (iterate 2 exact rfl)) | (first | apply H.seq | apply H.region | apply H.nil | apply H.then_normal) | ((apply H.cmp); (iterate 5 exact rfl)) | (first | apply H.then_exit | apply H.exit | apply H.in_hit | apply H.loop_exit) | (apply H.cond_no; exact rfl; (omega)))
    refine H.loadN (ls := dV dZ) rfl rfl rfl (Rd.ofRow (by repeat (first | exact .here _ _ _ | apply At.there))) rfl rfl ?_
    refine H.storeN (ls := dV dZ) (vs := dV dZ) (ls' := dV dZ) rfl rfl rfl (dV_one _) rfl (splice_all rfl) (Nat.le_refl 32) (by repeat (first | exact .here _ _ _ | apply At.there)) ?_
    repeat (first | ((apply H.assign); (iterate 3 exact rfl)) | (first | apply H.nil | apply H.then_normal) | (apply H.ret))
    refine H.drop (x := mp vb _ _) (by repeat (first | exact .here _ _ | apply Pull.there)) ?_
    exact H.retCT rfl rfl rfl rfl (Rd.ofRow (by repeat (first | exact .here _ _ _ | apply At.there))) rfl (fun _ s => s.drop (.here _ _)) ⟨none, hres, rfl, rfl, rfl⟩
theorem cdig_fn {cb n : Nat} {M : CM} {k : Int} (hn : n ≤ 11) : Fn Tryd.prog 10 [.pointer (some ⟨cb, 0, none⟩), .int .u64 k] f (chkH cb n M :: F) (RetP (digR n (tells M k)) dgV f (fun _ => chkH cb n M :: F)) := by
  refine Fn.unpack fun mb _ => ?_
  show Fn _ _ _ _ (row cb _ (chkRow n mb) :: mp mb encN (mpV M) :: F) _
  refine Fn.front (.there _ (.here _ _)) ?_
  refine Fn.openMap fun es clock hes => ?_
  refine Fn.front (.there _ (.here _ _)) ?_
  refine Fn.monoA (cdig_core f F hes hn) ?_
  rintro v f' A' ⟨o, ho, rfl, rfl, rfl⟩
  refine ⟨_, ⟨o, ho, rfl, rfl, rfl⟩, fun x hx => chkH_fold x (keep_stars (fun y hy => ?_) x hx)⟩
  rw [← hes]
  exact mpS_fold y hy
theorem cdig_nil {k : Int} : Fn Tryd.prog 10 [.pointer none, .int .u64 k] f F (Ret (dgV none) f F) := by
  refine Fn.enter Tryd.func10 rfl Tryd.ntmps10 rfl (L := [(0, _), (1, _)]) ⟨rfl, rfl, trivial⟩ fun base => ?_
  repeat ((first | apply H.seq | apply H.region))
  refine H.alloc (ls := dV dZ) rfl rfl rfl fun ob => ?_
  repeat (first | ((first | apply H.move | apply H.assign); (iterate 3 exact rfl)) | (first | apply H.seq | apply H.region | apply H.nil | apply H.then_normal) | ((apply H.ptrNil); (iterate 5 exact rfl)) | (apply H.cond_true; exact rfl))
  refine H.loadN (ls := dV dZ) rfl rfl rfl (Rd.ofRow (by repeat (first | exact .here _ _ _ | apply At.there))) rfl rfl ?_
  refine H.storeN (ls := dV dZ) (vs := dV dZ) (ls' := dV dZ) rfl rfl rfl (dV_one _) rfl (splice_all rfl) (Nat.le_refl 32) (by repeat (first | exact .here _ _ _ | apply At.there)) ?_
  repeat (first | ((apply H.assign); (iterate 3 exact rfl)) | (first | apply H.nil | apply H.then_normal) | (first | apply H.ret | apply H.then_ret))
  exact H.retCT rfl rfl rfl rfl (Rd.ofRow (by repeat (first | exact .here _ _ _ | apply At.there))) rfl (fun _ s => s.drop (.here _ _)) ⟨rfl, rfl, rfl⟩
end
end Go.Proofs.YtcdpnloeheaclaaDoor

/- Layer 21: the program's checks: Stable. -/
namespace Go.Proofs.YtcdpnloeheaclaaDoor
set_option linter.unusedSectionVars false
set_option linter.unusedSimpArgs false
set_option linter.unusedVariables false
open Go
theorem results_tmp_cell {P : Program} {fn : Func} {t u : Tmp} {ty : TypeId} {tmps : Array Value} {w : World} {b off : Nat} {v x : Value} (h : fn.results = #[.tmp u, .cell t ty]) (hp : tmps.getD t undef = .pointer (some ⟨b, off, none⟩)) (hx : tmps.getD u undef = x)
    (hl : (loadVar ty ⟨b, off, none⟩).run P w = .ok v w) : (results fn tmps).run P w = .ok (.tuple #[x, v]) w := by
  have hp' : tmps[t]?.getD undef = .pointer (some ⟨b, off, none⟩) := by simpa using hp
  have hx' : tmps[u]?.getD undef = x := by simpa using hx
  simp only [results, h]
  simp [Sem.run_bind, asAddr, hp', hx', hl]
theorem H.retTC {P : Program} {base : World} {n : Nat} {L : Env} {f : Frag} {A : List HP} {fn : Func} {R : Value → Frag → List HP → Prop} {t u : Nat} {x : Value} {ty : TypeId} {dd : TypeDesc} {m b off : Nat} {ls : List Value} {A' : List HP} [hu : Und P ty dd] [hs : Siz P ty m] (hr : fn.results = #[.tmp u, .cell t ty]) (hv : look? L t = some (.pointer (some ⟨b, off, none⟩))) (hx : look? L u = some x) (ha : aggD dd = true)
    (hrd : Rd f A b off ls) (hm : ls.length = m) (hA : ∀ w, Sat base w f A → Sat base w f A') (h : R (.tuple #[x, .agg ls.toArray]) f A') : H P base n L f A (.out .ret (.fn (FnPost P fn base R))) := .mk fun a w hf s => by
  show bodyPost P fn (fun e w' => ∃ v f' A', e = .returned v ∧ R v f' A' ∧ Sat base w' f' A') .ret a w
  refine bodyPost_ret (v := .tuple #[x, .agg ls.toArray]) ?_ hf.defers ⟨_, f, A', rfl, h, hA w s⟩
  have h1 := hf.get t _ hv
  have h1' := hf.get u _ hx
  have h2 : a.tmps.getD t undef = .pointer (some ⟨b, off, none⟩) := by simp [Array.getD_eq_getD_getElem?, h1]
  have h2' : a.tmps.getD u undef = x := by simp [Array.getD_eq_getD_getElem?, h1']
  have h3 := run_loadAtN (P := P) hu ha hs (hrd base w s) hm
  unfold Instr.loadAt Instr.sureAddr at h3
  exact results_tmp_cell hr h2 h2' (by simpa using h3)
def stR (n : Nat) (M : CM) (r : Int × D32) : Prop := (r = (0, dZ) ∨ (0 < r.1 ∧ digR n (tells M r.1) (some r.2))) ∧ ∀ k d, 0 < k → digR n (tells M k) (some d) → k ≤ r.1
def stV (r : Int × D32) : Value := .tuple #[.int .u64 r.1, encD r.2]
theorem cnt_pos {T : Nat → Option D32} {d : D32} : ∀ {r : Nat}, 0 < cnt T d r → ∃ i, T i = some d
  | 0, h => absurd h (Nat.lt_irrefl _)
  | r + 1, h => by
    by_cases e : T (r + 1) = some d
    · exact ⟨_, e⟩
    · have h : 0 < cnt T d r + (if T (r + 1) = some d then 1 else 0) := h
      rw [if_neg e] at h
      exact cnt_pos h
theorem mem_keys {M : CM} {es : List ((Int × Int) × Value × Nat)} (hes : es.map kvOf = mpV M) {k : Int × Int} {d : D32} (h : (k, d) ∈ M) : ∃ e ∈ es, e.1 = k := by
  have h1 : (k, encD d) ∈ mpV M := List.mem_map.2 ⟨_, h, rfl⟩
  rw [← hes] at h1
  obtain ⟨e, he, h2⟩ := List.mem_map.1 h1
  exact ⟨e, he, congrArg (·.1) h2⟩
def unseen (es : List ((Int × Int) × Value × Nat)) (seen : List (Int × Int)) : Nat := (es.filter fun e => !seen.contains e.1).length
theorem unseen_lt {es : List ((Int × Int) × Value × Nat)} {seen : List (Int × Int)} {e : (Int × Int) × Value × Nat} (he : e ∈ es) (hn : e.1 ∉ seen) : unseen es (e.1 :: seen) < unseen es seen := by
  unfold unseen
  refine filter_lt (fun x : (Int × Int) × Value × Nat => !seen.contains x.1) (fun x => !(e.1 :: seen).contains x.1) (fun x hx => ?_) e ?_ ?_ es he
  · simp only [Bool.not_eq_true', List.contains_eq_mem, decide_eq_false_iff_not, List.mem_cons, not_or] at hx ⊢
    exact hx.2
  · simpa using hn
  · simp
section
variable (f : Frag) (F : List HP)
set_option maxRecDepth 20000 in
set_option maxHeartbeats 1600000 in
theorem cst_core {cb n mb : Nat} {M : CM} {es : List ((Int × Int) × Value × Nat)} {clock : Nat} (hes : es.map kvOf = mpV M) (hn : n ≤ 11) :
    Fn Tryd.prog 11 [.pointer (some ⟨cb, 0, none⟩)] f (row cb 60 (chkRow n mb) :: mpS mb encN es clock :: F) (RetP (stR n M) stV f (fun _ => row cb 60 (chkRow n mb) :: mpS mb encN es clock :: F)) := by
  refine Fn.enter Tryd.func11 rfl Tryd.ntmps11 rfl (L := [(0, _)]) ⟨rfl, trivial⟩ fun base => ?_
  repeat (first | ((apply H.assign); (iterate 3 exact rfl)) | (first | apply H.seq | apply H.region))
  refine H.alloc (ls := dV dZ) rfl rfl rfl fun ob => ?_
  repeat (first | ((first | apply H.move | apply H.nilCheck); (iterate 3 exact rfl)) | (apply H.fieldAddr; (iterate 3 exact rfl); exact inferInstance; exact rfl) | (apply H.load1; (iterate 3 exact rfl); apply Rd1.ofRow; (repeat (first | exact .here _ _ _ | apply At.there)); (iterate 2 exact rfl)) | (first | apply H.seq | apply H.region | apply H.nil | apply H.then_normal) | ((apply H.ptrNil); (iterate 5 exact rfl)) | (apply H.cond_false; exact rfl) | (apply H.skip))
  refine H.range rfl rfl (by repeat (first | exact .here _ _ _ | apply At.there)) rfl fun rb => ?_
  repeat (first | (first | apply H.nil | apply H.then_normal) | (apply H.block))
  refine H.loop (ι := List (Int × Int) × Int × D32) (fun i => [(14, .pointer (some ⟨rb, 0, none⟩)), (0, .pointer (some ⟨cb, 0, none⟩)), (2, .int .u64 i.2.1), (3, .pointer (some ⟨ob, 0, none⟩))]) (fun _ => f)
    (fun i => itr rb mb es clock i.1 :: row ob 29 (dV i.2.2) :: row cb 60 (chkRow n mb) :: mpS mb encN es clock :: F)
    (fun i => ((i.2 = (0, dZ)) ∨ (0 < i.2.1 ∧ digR n (tells M i.2.1) (some i.2.2))) ∧ ∀ key ∈ i.1, ∀ d', digR n (tells M key.2) (some d') → key.2 ≤ i.2.1) (fun i => unseen es i.1) ([], 0, dZ) ⟨.inl rfl, fun key hk => by cases hk⟩ ⟨rfl, rfl, rfl, rfl, trivial⟩ rfl rfl fun i hi => ?_
  obtain ⟨seen, k, d⟩ := i
  obtain ⟨hkd0, hall0⟩ : (((k, d) : Int × D32) = (0, dZ) ∨ (0 < k ∧ digR n (tells M k) (some d))) ∧ ∀ key ∈ seen, ∀ d', digR n (tells M key.2) (some d') → key.2 ≤ k := hi
  show H _ _ _ [_, _, (2, .int .u64 k), _] _ (itr rb mb es clock seen :: row ob _ (dV d) :: _) _
  repeat ((first | apply H.seq | apply H.region))
  refine H.next rfl rfl (by repeat (first | exact .here _ _ _ | apply At.there)) (by repeat (first | exact .here _ _ _ | apply At.there)) (fun _ => (by repeat (first | exact .here _ _ _ | apply At.there))) rfl (fun hend => ?_) (fun e he hns => ?_)
  · have hres : stR n M (k, d) := ⟨hkd0, fun k' d' h0 hd' => by
      have h1 : n / 2 < cnt (tells M k') d' n := hd'
      obtain ⟨r, hr⟩ := cnt_pos (show 0 < cnt (tells M k') d' n by omega)
      obtain ⟨e, he, hk⟩ := mem_keys hes (tld_mem hr)
      have h2 := hend e he
      rw [hk] at h2
      exact hall0 _ h2 d' hd'⟩
    repeat (first | (first | apply H.seq | apply H.nil | apply H.then_normal) | ((apply H.extract); (iterate 4 exact rfl)) | (apply H.cond_false; exact rfl) | (first | apply H.then_exit | apply H.exit | apply H.in_hit | apply H.loop_exit))
    refine H.drop (x := itr _ _ _ _ _) (by repeat (first | exact .here _ _ | apply Pull.there)) ?_
    refine H.drawB (by kernel_rfl) (by decide +kernel) (by first | exact blind_fn | exact blind_seq blind_fn | exact blind_seq (blind_seq blind_fn) | (repeat (first | exact blind_fn | refine blind_seq ?_ | refine blind_block ?_ | refine blind_loop ?_))) (S := [_]) rfl ?_
    refine HB.quiet [(0, false), (1, false), (2, false)] 1 (by kernel_rfl) ?_
    repeat (first | (refine HQ.loadN (ls := dV d) rfl rfl rfl (Rd.ofRow (by repeat (first | exact .here _ _ _ | apply At.there))) (dV_len d) rfl ?_) | ((first | apply HQ.move | apply HQ.assign); (iterate 3 exact rfl)))
    refine HQ.more rfl ?_
    refine HB.ev1 (i := 3) (by kernel_rfl) rfl ?_
    refine H.storeN (ls := dV d) (vs := dV d) (ls' := dV d) rfl rfl rfl (dV_one _) (dV_len _) (splice_all rfl) (by rw [dV_len]; decide) (by repeat (first | exact .here _ _ _ | apply At.there)) ?_
    repeat ((apply H.nil))
    refine H.on0 rfl ?_
    refine HB.done (by kernel_rfl) ?_
    repeat (first | (apply H.then_normal) | (apply H.ret))
    exact H.retTC rfl rfl rfl rfl (Rd.ofRow (by repeat (first | exact .here _ _ _ | apply At.there))) (dV_len d) (fun _ s => s.drop (.here _ _)) ⟨(k, d), hres, rfl, rfl, rfl⟩
  · skip
    repeat (first | (first | apply H.seq | apply H.region | apply H.nil | apply H.then_normal) | ((apply H.extract); (iterate 4 exact rfl)) | (apply H.cond_true; exact rfl) | (first | apply H.skip | apply H.block))
    refine H.entry rfl rfl (by repeat (first | exact .here _ _ _ | apply At.there)) (by repeat (first | exact .here _ _ _ | apply At.there)) he rfl ?_
    repeat (((apply H.extract); (iterate 4 exact rfl)))
    refine H.alloc (ls := [.int .i64 0, .int .u64 0]) rfl rfl rfl fun kb => ?_
    refine H.storeN (ls := [.int .i64 0, .int .u64 0]) (vs := [.int .i64 e.1.1, .int .u64 e.1.2]) (ls' := [.int .i64 e.1.1, .int .u64 e.1.2]) rfl rfl rfl (allOne_mem rfl) rfl rfl (Nat.le_refl 2) (by repeat (first | exact .here _ _ _ | apply At.there)) ?_
    repeat (first | ((apply H.move); (iterate 3 exact rfl)) | (apply H.fieldAddr; (iterate 3 exact rfl); exact inferInstance; exact rfl) | (apply H.load1; (iterate 3 exact rfl); apply Rd1.ofRow; (repeat (exact .here _ _ _)); (iterate 2 exact rfl)) | (first | apply H.seq | apply H.region | apply H.nil | apply H.then_normal))
    refine H.front (x := mpS _ _ _ _) (by repeat (first | exact .here _ _ | apply Pull.there)) ?_
    refine H.front (x := row cb _ _) (by repeat (first | exact .here _ _ | apply Pull.there)) ?_
    refine H.callP rfl rfl rfl (cdig_core f _ hes hn) fun o ho => ?_
    repeat (first | ((apply H.move); (iterate 3 exact rfl)) | ((apply H.extract); (iterate 4 exact rfl)))
    refine H.alloc (ls := dV dZ) rfl rfl rfl fun yb => ?_
    refine H.storeN (ls := dV dZ) (vs := dV (o.getD dZ)) (ls' := dV (o.getD dZ)) rfl rfl rfl (dV_one _) (dV_len _) (splice_all (by rw [dV_len, dV_len])) (by rw [dV_len, dV_len]; decide) (by repeat (first | exact .here _ _ _ | apply At.there)) ?_
    refine H.front (x := mpS _ _ _ _) (by repeat (first | exact .here _ _ | apply Pull.there)) ?_
    refine H.front (x := row cb _ _) (by repeat (first | exact .here _ _ | apply Pull.there)) ?_
    refine H.front (x := row ob _ _) (by repeat (first | exact .here _ _ | apply Pull.there)) ?_
    refine H.front (x := itr _ _ _ _ _) (by repeat (first | exact .here _ _ | apply Pull.there)) ?_
    cases o with
    | none =>
      have hnew : ∀ d', digR n (tells M e.1.2) (some d') → e.1.2 ≤ k := fun d' hd' => by cases digR_one ho hd'
      repeat (first | ((first | apply H.move | apply H.assign); (iterate 3 exact rfl)) | (first | apply H.seq | apply H.region | apply H.nil | apply H.then_normal) | (apply H.pass; (iterate 2 exact rfl)) | ((apply H.pickF); (iterate 4 exact rfl)) | (apply H.cond_false; exact rfl) | (first | apply H.skip | apply H.in_normal))
      refine H.drop (x := row kb _ _) (by repeat (first | exact .here _ _ | apply Pull.there)) ?_
      refine H.drop (x := row yb _ _) (by repeat (first | exact .here _ _ | apply Pull.there)) ?_
      have hkd := hkd0
      have hall := hall0
      generalize k = kk at hkd hall hnew ⊢
      generalize d = dd at hkd ⊢
      exact H.again (e.1 :: seen, kk, dd) ⟨hkd, by
          intro key hkey d' hd'
          rcases List.mem_cons.1 hkey with h | h
          · rw [h] at hd' ⊢
            exact hnew d' hd'
          · exact hall key h d' hd'⟩ (unseen_lt he hns) ⟨rfl, rfl, rfl, rfl, trivial⟩ rfl rfl
    | some x =>
      by_cases hgt : k < e.1.2
      · have hk0 : 0 ≤ k := by
          rcases hkd0 with h | h
          · cases h; exact Int.le_refl _
          · omega
        have hnew : ∀ d', digR n (tells M e.1.2) (some d') → e.1.2 ≤ e.1.2 := fun _ _ => Int.le_refl _
        have hkd : ((e.1.2, x) : Int × D32) = (0, dZ) ∨ (0 < e.1.2 ∧ digR n (tells M e.1.2) (some x)) := .inr ⟨by omega, ho⟩
        have hall : ∀ key ∈ seen, ∀ d', digR n (tells M key.2) (some d') → key.2 ≤ e.1.2 := fun key hk d' hd' => by
          have := hall0 key hk d' hd'
          omega
        repeat (first | ((first | apply H.move | apply H.assign); (iterate 3 exact rfl)) | (apply H.fieldAddr; (iterate 3 exact rfl); exact inferInstance; exact rfl) | (apply H.load1; (iterate 3 exact rfl); apply Rd1.ofRow; (repeat (first | exact .here _ _ _ | apply At.there)); (iterate 2 exact rfl)) | (first | apply H.seq | apply H.region | apply H.nil | apply H.then_normal) | ((apply H.cmp); (iterate 5 exact rfl)) | (apply H.pickT; (iterate 4 exact rfl)) | (apply H.cond_yes; exact rfl; (assumption)))
        refine H.front (x := row kb _ _) (by repeat (first | exact .here _ _ | apply Pull.there)) ?_
        refine H.front (x := row yb _ _) (by repeat (first | exact .here _ _ | apply Pull.there)) ?_
        refine H.drawB (by kernel_rfl) (by decide +kernel) (by first | exact blind_fn | exact blind_seq blind_fn | exact blind_seq (blind_seq blind_fn) | (repeat (first | exact blind_fn | refine blind_seq ?_ | refine blind_block ?_ | refine blind_loop ?_))) (S := [_, _]) rfl ?_
        refine HB.quiet [(0, false), (1, false), (2, false), (3, false)] 1 (by kernel_rfl) ?_
        repeat (first | (refine HQ.loadN (ls := dV x) rfl rfl rfl (Rd.ofRow (by repeat (first | exact .here _ _ _ | apply At.there))) (dV_len x) rfl ?_) | ((apply HQ.assign); (iterate 3 exact rfl)) | (apply HQ.fieldAddr; (iterate 3 exact rfl); exact inferInstance; exact rfl) | (apply HQ.load1; (iterate 3 exact rfl); apply Rd1.ofRow; (repeat (first | exact .here _ _ _ | apply At.there)); (iterate 2 exact rfl)))
        refine HQ.more rfl ?_
        refine HB.ev1 (i := 4) (by kernel_rfl) rfl ?_
        refine H.storeN (ls := dV d) (vs := dV x) (ls' := dV x) rfl rfl rfl (dV_one _) (dV_len _) (splice_all (by rw [dV_len, dV_len])) (by rw [dV_len, dV_len]; decide) (by repeat (first | exact .here _ _ _ | apply At.there)) ?_
        repeat ((apply H.nil))
        refine H.on0 rfl ?_
        refine HB.done (by kernel_rfl) ?_
        repeat ((apply H.in_normal))
        refine H.drop (x := row kb _ _) (by repeat (first | exact .here _ _ | apply Pull.there)) ?_
        refine H.drop (x := row yb _ _) (by repeat (first | exact .here _ _ | apply Pull.there)) ?_
        clear hkd0 hall0 hk0 hgt
        obtain ⟨kk, hkk⟩ : ∃ kk, e.1.2 = kk := ⟨_, rfl⟩
        rw [hkk] at hkd hall ⊢
        generalize x = dd at hkd ⊢
        have hnew : ∀ d', digR n (tells M e.1.2) (some d') → e.1.2 ≤ kk := fun _ _ => by rw [hkk]; exact Int.le_refl _
        exact H.again (e.1 :: seen, kk, dd) ⟨hkd, by
            intro key hkey d' hd'
            rcases List.mem_cons.1 hkey with h | h
            · rw [h] at hd' ⊢
              exact hnew d' hd'
            · exact hall key h d' hd'⟩ (unseen_lt he hns) ⟨rfl, rfl, rfl, rfl, trivial⟩ rfl rfl
      · have hnew : ∀ d', digR n (tells M e.1.2) (some d') → e.1.2 ≤ k := fun _ _ => by omega
        repeat (first | ((first | apply H.move | apply H.assign); (iterate 3 exact rfl)) | (apply H.fieldAddr; (iterate 3 exact rfl); exact inferInstance; exact rfl) | (apply H.load1; (iterate 3 exact rfl); apply Rd1.ofRow; (repeat (first | exact .here _ _ _ | apply At.there)); (iterate 2 exact rfl)) | (first | apply H.seq | apply H.region | apply H.nil | apply H.then_normal) | ((apply H.cmp); (iterate 5 exact rfl)) | (apply H.pickT; (iterate 4 exact rfl)) | (first | apply H.skip | apply H.in_normal) | (apply H.cond_no; exact rfl; (assumption)))
        refine H.drop (x := row kb _ _) (by repeat (first | exact .here _ _ | apply Pull.there)) ?_
        refine H.drop (x := row yb _ _) (by repeat (first | exact .here _ _ | apply Pull.there)) ?_
        have hkd := hkd0
        have hall := hall0
        clear hkd0 hall0 hgt
        generalize k = kk at hkd hall hnew ⊢
        generalize d = dd at hkd ⊢
        exact H.again (e.1 :: seen, kk, dd) ⟨hkd, by
            intro key hkey d' hd'
            rcases List.mem_cons.1 hkey with h | h
            · rw [h] at hd' ⊢
              exact hnew d' hd'
            · exact hall key h d' hd'⟩ (unseen_lt he hns) ⟨rfl, rfl, rfl, rfl, trivial⟩ rfl rfl
theorem cst_fn {cb n : Nat} {M : CM} (hn : n ≤ 11) : Fn Tryd.prog 11 [.pointer (some ⟨cb, 0, none⟩)] f (chkH cb n M :: F) (RetP (stR n M) stV f (fun _ => chkH cb n M :: F)) := by
  refine Fn.unpack fun mb _ => ?_
  show Fn _ _ _ _ (row cb _ (chkRow n mb) :: mp mb encN (mpV M) :: F) _
  refine Fn.front (.there _ (.here _ _)) ?_
  refine Fn.openMap fun es clock hes => ?_
  refine Fn.front (.there _ (.here _ _)) ?_
  refine Fn.monoA (cst_core f F hes hn) ?_
  rintro v f' A' ⟨o, ho, rfl, rfl, rfl⟩
  refine ⟨_, ⟨o, ho, rfl, rfl, rfl⟩, fun x hx => chkH_fold x (keep_stars (fun y hy => ?_) x hx)⟩
  rw [← hes]
  exact mpS_fold y hy
theorem cst_nil : Fn Tryd.prog 11 [.pointer none] f F (Ret (stV (0, dZ)) f F) := by
  refine Fn.enter Tryd.func11 rfl Tryd.ntmps11 rfl (L := [(0, _)]) ⟨rfl, trivial⟩ fun base => ?_
  repeat (first | ((apply H.assign); (iterate 3 exact rfl)) | (first | apply H.seq | apply H.region))
  refine H.alloc (ls := dV dZ) rfl rfl rfl fun ob => ?_
  repeat (first | ((apply H.move); (iterate 3 exact rfl)) | (first | apply H.seq | apply H.region | apply H.nil | apply H.then_normal) | ((apply H.ptrNil); (iterate 5 exact rfl)) | (apply H.cond_true; exact rfl))
  refine H.drawB (by kernel_rfl) (by decide +kernel) (by first | exact blind_fn | exact blind_seq blind_fn | exact blind_seq (blind_seq blind_fn) | (repeat (first | exact blind_fn | refine blind_seq ?_ | refine blind_block ?_ | refine blind_loop ?_))) (S := [_]) rfl ?_
  refine HB.quiet [(0, false), (1, false)] 1 (by kernel_rfl) ?_
  repeat (first | (refine HQ.loadN (ls := dV dZ) rfl rfl rfl (Rd.ofRow (by repeat (first | exact .here _ _ _ | apply At.there))) rfl rfl ?_) | ((apply HQ.assign); (iterate 3 exact rfl)))
  refine HQ.more rfl ?_
  refine HB.ev1 (i := 2) (by kernel_rfl) rfl ?_
  refine H.storeN (ls := dV dZ) (vs := dV dZ) (ls' := dV dZ) rfl rfl rfl (dV_one _) rfl (splice_all rfl) (Nat.le_refl 32) (by repeat (first | exact .here _ _ _ | apply At.there)) ?_
  repeat ((apply H.nil))
  refine H.on0 rfl ?_
  refine HB.done (by kernel_rfl) ?_
  repeat (first | (apply H.then_normal) | (first | apply H.ret | apply H.then_ret))
  exact H.retTC rfl rfl rfl rfl (Rd.ofRow (by repeat (first | exact .here _ _ _ | apply At.there))) rfl (fun _ s => s.drop (.here _ _)) ⟨rfl, rfl, rfl⟩
end
end Go.Proofs.YtcdpnloeheaclaaDoor

/- Layer 21: the program's checks: Right; a check of a replica; the example. -/
namespace Go.Proofs.YtcdpnloeheaclaaDoor
set_option linter.unusedSectionVars false
set_option linter.unusedSimpArgs false
set_option linter.unusedVariables false
open Go
theorem rowM_bat {f g : Frag} {b : Nat} {T : TypeId} {l : List UInt8} (h : rowM b T (bytesV l) g) (hd : Dj f g) : BAt (un f g) (some ⟨b, 0, none⟩) l := by
  have hg : g = sing b (.cells (bytesV l).toArray T ((bytesV l).length, (bytesV l).length + 1)) := h
  refine .inr ⟨b, 0, (bytesV l).toArray, T, ((bytesV l).length, (bytesV l).length + 1), rfl, ?_, fun i hi => by simp⟩
  have : f b = none := by
    rcases hd b with h | h
    · exact h
    · rw [hg] at h
      simp [sing] at h
  unfold un
  rw [this, hg]
  simp [sing]
theorem mv_one (x : MV) : ∀ v ∈ x.vals, one v = true := allOne_mem rfl
def oneM0 (o k : Int) (t : Nat → UInt8) : Msg := ⟨o, 1, fun _ => 0, { Bod.zero 6 with k := k, dig := t }, noTag⟩
def oneMV (o k : Int) (t : Nat → UInt8) : MV := ⟨(oneM0 o k t).signed, none, 0⟩
theorem signed_may (m : Msg) : m.signed.may = m.may := by
  unfold Msg.signed
  split
  · rfl
  · rfl
theorem signed_f (m : Msg) : m.signed.origin = m.origin ∧ m.signed.body = m.body := by
  unfold Msg.signed
  split
  · exact ⟨rfl, rfl⟩
  · exact ⟨rfl, rfl⟩
theorem oneMV_good (f : Frag) {o k : Int} {t : Nat → UInt8} (hk : 0 ≤ k ∧ k ≤ 18446744073709551615) : (oneMV o k t).Good f := by
  refine ⟨?_, ?_, ?_⟩
  · show QAt f none (oneM0 o k t).signed.body.q
    rw [(signed_f _).2]
    exact QAt.nil f none
  · show (oneM0 o k t).signed.body.q.length ≤ 1000000
    rw [(signed_f _).2]
    exact Nat.zero_le _
  · show (oneM0 o k t).signed.body.Ok
    rw [(signed_f _).2]
    exact ⟨⟨Int.le_refl _, by show (0 : Int) ≤ _; decide⟩, hk, ⟨Int.le_refl _, by show (0 : Int) ≤ _; decide⟩, ⟨Int.le_refl _, by show (0 : Int) ≤ _; decide⟩⟩
section
variable (f : Frag) (F : List HP)
theorem shaSum_fn (htab : TabAt f) {p : Option Addr} {cap : Nat} {b : List UInt8} (hb : BAt f p b) (hcap : b.length ≤ cap) (hl : b.length ≤ 1000000000) : Fn Tryd.prog 16 [.slice p b.length cap] f F (Ret (.agg (b32 (Sha.sum b)).toArray) f F) := by
  refine Fn.enter Tryd.func16 rfl Tryd.ntmps16 rfl (L := [(0, _)]) ⟨rfl, trivial⟩ fun base => ?_
  repeat ((first | apply H.seq | apply H.region))
  refine H.alloc (ls := dV dZ) rfl rfl rfl fun ob => ?_
  repeat ((first | apply H.seq | apply H.region | apply H.nil | apply H.then_normal))
  refine H.callE rfl rfl rfl (snew_fn f _) fun hb' => ?_
  repeat (first | ((first | apply H.move | apply H.assign); (iterate 3 exact rfl)) | (first | apply H.seq | apply H.region | apply H.nil | apply H.then_normal))
  refine H.callR rfl rfl rfl (swrite_fn f _ htab hb hcap (by show 0 + b.length ≤ _; omega)) ?_
  repeat (first | ((apply H.move); (iterate 3 exact rfl)) | (first | apply H.seq | apply H.region | apply H.nil | apply H.then_normal))
  refine H.callR rfl rfl rfl (hsum_fn f _ htab (b := [] ++ b) (by show b.length ≤ _; exact hl)) ?_
  refine H.storeN (ls := dV dZ) (vs := b32 (Sha.sum ([] ++ b))) (ls' := b32 (Sha.sum ([] ++ b))) rfl rfl rfl (allOne_mem rfl) rfl rfl (Nat.le_refl 32) (by repeat (first | exact .here _ _ _ | apply At.there)) ?_
  repeat (first | (first | apply H.nil | apply H.then_normal) | (apply H.ret))
  refine H.drop (x := hashH _ _) (by repeat (first | exact .here _ _ | apply Pull.there)) ?_
  exact H.retD rfl rfl rfl (Rd.ofRow (by repeat (first | exact .here _ _ _ | apply At.there))) rfl (fun _ s => s.drop (.here _ _)) ⟨rfl, rfl, rfl⟩
def rightB (b : List UInt8) (o : Option D32) : Bool := decide (o = some (dOf (Sha.sum b)))
set_option maxHeartbeats 1600000 in
theorem cright_fn (htab : TabAt f) {cb n : Nat} {M : CM} {k : Int} {p : Option Addr} {cap : Nat} {b : List UInt8} (hn : n ≤ 11) (hb : BAt f p b) (hcap : b.length ≤ cap) (hl : b.length ≤ 1000000000) :
    Fn Tryd.prog 12 [.pointer (some ⟨cb, 0, none⟩), .int .u64 k, .slice p b.length cap] f (chkH cb n M :: F) (RetP (digR n (tells M k)) (fun o => .bool (rightB b o)) f (fun _ => chkH cb n M :: F)) := by
  refine Fn.enter Tryd.func12 rfl Tryd.ntmps12 rfl (L := [(0, _), (1, _), (2, _)]) ⟨rfl, rfl, rfl, trivial⟩ fun base => ?_
  repeat (first | ((first | apply H.move | apply H.assign); (iterate 3 exact rfl)) | (first | apply H.seq | apply H.region | apply H.nil | apply H.then_normal))
  refine H.callP rfl rfl rfl (cdig_fn f _ hn) fun o ho => ?_
  repeat (first | ((apply H.move); (iterate 3 exact rfl)) | ((apply H.extract); (iterate 4 exact rfl)))
  refine H.alloc (ls := dV dZ) rfl rfl rfl fun db => ?_
  refine H.storeN (ls := dV dZ) (vs := dV (o.getD dZ)) (ls' := dV (o.getD dZ)) rfl rfl rfl (dV_one _) (dV_len _) (splice_all (by rw [dV_len, dV_len])) (by rw [dV_len, dV_len]; decide) (by repeat (first | exact .here _ _ _ | apply At.there)) ?_
  cases o with
  | none =>
    repeat (first | ((apply H.assign); (iterate 3 exact rfl)) | (first | apply H.seq | apply H.nil | apply H.then_normal))
    refine H.drawB (by kernel_rfl) (by decide +kernel) (by first | exact blind_fn | exact blind_seq blind_fn | exact blind_seq (blind_seq blind_fn) | (repeat (first | exact blind_fn | refine blind_seq ?_ | refine blind_block ?_ | refine blind_loop ?_))) (S := [_]) rfl ?_
    refine HB.quiet [(0, false), (1, false), (2, false), (4, false)] 4 (by kernel_rfl) ?_
    repeat (first | ((apply HQ.move); (iterate 3 exact rfl)) | (apply HQ.pass; (iterate 2 exact rfl)))
    refine HQ.more rfl ?_
    refine HB.ev1 (i := 3) (by kernel_rfl) rfl ?_
    repeat (first | (apply H.nil) | (apply H.pass; (iterate 2 exact rfl)))
    refine H.on0 rfl ?_
    refine HB.quiet [(5, false), (6, false), (7, false)] 0 (by kernel_rfl) ?_
    repeat (first | ((apply HQ.assign); (iterate 3 exact rfl)) | (apply HQ.pass; (iterate 2 exact rfl)) | ((apply HQ.pickF); (iterate 4 exact rfl)))
    refine HQ.more rfl ?_
    refine HB.done (by kernel_rfl) ?_
    repeat (first | (apply H.then_normal) | (apply H.ret))
    refine H.drop (x := row db _ _) (by repeat (first | exact .here _ _ | apply Pull.there)) ?_
    exact H.ret1 rfl rfl (fun _ h => h) ⟨none, ho, rfl, rfl, rfl⟩
  | some d =>
    have heq : eqC (dV (dOf (Sha.sum b))) (dV d) = rightB b (some d) := by
      unfold dV rightB
      rw [eqC_bytes]
      by_cases h : (dOf (Sha.sum b)).1 = d.1
      · rw [decide_eq_true h, decide_eq_true (by rw [Subtype.ext h])]
      · rw [decide_eq_false h, decide_eq_false (fun e => h (by rw [Option.some.inj e]))]
    show H _ _ _ _ _ (row db _ (dV d) :: _) _
    repeat (first | ((apply H.assign); (iterate 3 exact rfl)) | (first | apply H.seq | apply H.nil | apply H.then_normal))
    refine H.drawB (by kernel_rfl) (by decide +kernel) (by first | exact blind_fn | exact blind_seq blind_fn | exact blind_seq (blind_seq blind_fn) | (repeat (first | exact blind_fn | refine blind_seq ?_ | refine blind_block ?_ | refine blind_loop ?_))) (S := [_]) rfl ?_
    refine HB.quiet [(0, false), (1, false), (2, false), (4, false)] 4 (by kernel_rfl) ?_
    repeat (first | (refine HQ.loadN (ls := dV d) rfl rfl rfl (Rd.ofRow (by repeat (first | exact .here _ _ _ | apply At.there))) (dV_len d) rfl ?_) | ((apply HQ.move); (iterate 3 exact rfl)))
    refine HQ.more rfl ?_
    refine HB.ev1 (i := 3) (by kernel_rfl) rfl ?_
    refine H.callR rfl rfl rfl (shaSum_fn f _ htab hb hcap hl) ?_
    repeat ((apply H.nil))
    refine H.on0 rfl ?_
    refine HB.quiet [(5, false), (6, false), (7, false)] 0 (by kernel_rfl) ?_
    refine HQ.aggEq (xs := dV (dOf (Sha.sum b))) (ys := dV d) (D := 4) rfl rfl rfl rfl (by kernel_rfl) (dV_shp _) (dV_shp _) (by kernel_rfl) (by decide) heq rfl ?_
    repeat (first | ((apply HQ.assign); (iterate 3 exact rfl)) | (apply HQ.pickT; (iterate 4 exact rfl)))
    refine HQ.more rfl ?_
    refine HB.done (by kernel_rfl) ?_
    repeat (first | (apply H.then_normal) | (apply H.ret))
    refine H.drop (x := row db _ _) (by repeat (first | exact .here _ _ | apply Pull.there)) ?_
    exact H.ret1 rfl rfl (fun _ h => h) ⟨some d, ho, rfl, rfl, rfl⟩
theorem cright_nil {k : Int} {v : Value} : Fn Tryd.prog 12 [.pointer none, .int .u64 k, v] f F (Ret (.bool false) f F) := by
  refine Fn.enter Tryd.func12 rfl Tryd.ntmps12 rfl (L := [(0, _), (1, _), (2, _)]) ⟨rfl, rfl, rfl, trivial⟩ fun base => ?_
  repeat (first | ((first | apply H.move | apply H.assign); (iterate 3 exact rfl)) | (first | apply H.seq | apply H.region | apply H.nil | apply H.then_normal))
  refine H.callR rfl rfl rfl (cdig_nil f _) ?_
  repeat (first | ((apply H.move); (iterate 3 exact rfl)) | ((apply H.extract); (iterate 4 exact rfl)))
  refine H.alloc (ls := dV dZ) rfl rfl rfl fun db => ?_
  refine H.storeN (ls := dV dZ) (vs := dV dZ) (ls' := dV dZ) rfl rfl rfl (dV_one _) rfl (splice_all rfl) (Nat.le_refl 32) (by repeat (first | exact .here _ _ _ | apply At.there)) ?_
  repeat (first | ((apply H.assign); (iterate 3 exact rfl)) | (first | apply H.seq | apply H.nil | apply H.then_normal))
  refine H.drawB (by kernel_rfl) (by decide +kernel) (by first | exact blind_fn | exact blind_seq blind_fn | exact blind_seq (blind_seq blind_fn) | (repeat (first | exact blind_fn | refine blind_seq ?_ | refine blind_block ?_ | refine blind_loop ?_))) (S := [_]) rfl ?_
  refine HB.quiet [(0, false), (1, false), (2, false), (4, false)] 4 (by kernel_rfl) ?_
  repeat (first | ((apply HQ.move); (iterate 3 exact rfl)) | (apply HQ.pass; (iterate 2 exact rfl)))
  refine HQ.more rfl ?_
  refine HB.ev1 (i := 3) (by kernel_rfl) rfl ?_
  repeat (first | (apply H.nil) | (apply H.pass; (iterate 2 exact rfl)))
  refine H.on0 rfl ?_
  refine HB.quiet [(5, false), (6, false), (7, false)] 0 (by kernel_rfl) ?_
  repeat (first | ((apply HQ.assign); (iterate 3 exact rfl)) | (apply HQ.pass; (iterate 2 exact rfl)) | ((apply HQ.pickF); (iterate 4 exact rfl)))
  refine HQ.more rfl ?_
  refine HB.done (by kernel_rfl) ?_
  repeat (first | (apply H.then_normal) | (apply H.ret))
  refine H.drop (x := row db _ _) (by repeat (first | exact .here _ _ | apply Pull.there)) ?_
  exact H.ret1 rfl rfl (fun _ h => h) ⟨rfl, rfl, rfl⟩
set_option maxHeartbeats 1600000 in
theorem one21_fn {o k : Int} {t : Nat → UInt8} : Fn Tryd.prog 9 [.int .i64 o, .int .u64 k, .agg (b32 t).toArray] f F (Ret (.agg (oneMV o k t).vals.toArray) f F) := by
  have htag := fun G => rtagged_fn f G (m := oneM0 o k t) (q := none) (qc := 0) (QAt.nil f none) (Nat.zero_le _)
  refine Fn.enter Tryd.func9 rfl Tryd.ntmps9 rfl (L := [(0, _), (1, _), (2, _)]) ⟨rfl, rfl, rfl, trivial⟩ fun base => ?_
  repeat ((first | apply H.seq | apply H.region))
  refine H.box (ls := b32 t) rfl rfl rfl rfl fun tb => ?_
  refine H.alloc (ls := (⟨⟨0, 0, fun _ => 0, Bod.zero 0, noTag⟩, none, 0⟩ : MV).vals) rfl rfl rfl fun mb => ?_
  repeat (first | (refine H.loadN (ls := b32 t) rfl rfl rfl (Rd.ofRow (by repeat (first | exact .here _ _ _ | apply At.there))) rfl rfl ?_) | (refine H.build (t := 44) (out := ({ Bod.zero 6 with k := k, dig := t } : Bod).vals none 0) rfl rfl rfl (by kernel_rfl) rfl ?_) | (refine H.build (t := 46) (out := (oneM0 o k t).vals none 0) rfl rfl rfl (by kernel_rfl) rfl ?_) | ((apply H.move); (iterate 3 exact rfl)) | (first | apply H.seq | apply H.region | apply H.nil | apply H.then_normal))
  refine H.callR rfl rfl rfl (htag _) ?_
  refine H.storeN (ls := (⟨⟨0, 0, fun _ => 0, Bod.zero 0, noTag⟩, none, 0⟩ : MV).vals) (vs := (oneMV o k t).vals) (ls' := (oneMV o k t).vals) rfl rfl rfl (mv_one _) (MV.len _) (splice_all ((MV.len _).trans (MV.len _).symm)) (by rw [MV.len, MV.len]; decide) (by repeat (first | exact .here _ _ _ | apply At.there)) ?_
  repeat (first | (first | apply H.nil | apply H.then_normal) | (apply H.ret))
  refine H.drop (x := row tb _ _) (by repeat (first | exact .here _ _ | apply Pull.there)) ?_
  exact H.retD rfl rfl rfl (Rd.ofRow (by repeat (first | exact .here _ _ _ | apply At.there))) (MV.len _) (fun _ s => s.drop (.here _ _)) ⟨rfl, rfl, rfl⟩
theorem odd_fn {z : Int} (h0 : 0 ≤ z ∧ z ≤ 255) : ∃ n : Nat, 3 ≤ n ∧ n ≤ 11 ∧ n % 2 = 1 ∧ ∀ F, Fn Tryd.prog 6 [.int .u8 z] f F (Ret (.int .i64 (n : Nat)) f F) := by
  have hz : z.tmod 5 = ((z.toNat % 5 : Nat) : Int) := by rw [← tmod64, Int.toNat_of_nonneg h0.1]; rfl
  refine ⟨3 + 2 * (z.toNat % 5), by omega, by omega, by omega, fun F => ?_⟩
  generalize hr : z.toNat % 5 = r at hz
  have hr5 : r < 5 := by rw [← hr]; omega
  have e1 : IntKind.i64.wrap (2 * (r : Int)) = ((2 * r : Nat) : Int) := by rw [wr_i64 (by omega)]; omega
  have e2 : IntKind.i64.wrap (3 + ((2 * r : Nat) : Int)) = ((3 + 2 * r : Nat) : Int) := by rw [wr_i64 (by omega)]; omega
  have e3 : IntKind.i64.wrap ((r : Nat) : Int) = (r : Int) := wr_i64 (by omega)
  refine Fn.enter Tryd.func6 rfl Tryd.ntmps6 rfl (L := [(0, _)]) ⟨rfl, trivial⟩ fun base => ?_
  repeat (first | (apply H.ar; (iterate 4 exact rfl); exact e1; exact rfl) | (apply H.ar; (iterate 4 exact rfl); exact e2; exact rfl) | ((first | apply H.move | apply H.assign); (iterate 3 exact rfl)) | (first | apply H.seq | apply H.region | apply H.nil | apply H.then_normal) | ((apply H.conv_int; (iterate 2 exact rfl)); (with_reducible apply wr_i64; omega); exact rfl) | (apply H.ret) | (refine H.rem rfl rfl rfl (by decide) hz rfl ?_))
  exact H.ret1 rfl rfl (fun _ h => h) ⟨rfl, rfl, rfl⟩
end
end Go.Proofs.YtcdpnloeheaclaaDoor

/- Layer 21: the chapter's example. -/
namespace Go.Proofs.YtcdpnloeheaclaaDoor
set_option linter.unusedSectionVars false
set_option linter.unusedSimpArgs false
set_option linter.unusedVariables false
open Go
theorem H.weaken {P : Program} {base : World} {n : Nat} {L : Env} {f g : Frag} {A : List HP} {K : Kont} (h : Le f g) (k : H P base n L f A K) : H P base n L g A K := .mk fun a w hf s => k.out a w hf (s.weak h)
theorem bod_refl {k : Int} {t : Nat → UInt8} : Bod.eqB ({ Bod.zero 6 with k := k, dig := t } : Bod) ({ Bod.zero 6 with k := k, dig := t } : Bod) = true := by
  unfold Bod.eqB
  have e1 : eqC (b32 t) (b32 t) = true := by rw [b32_bytes, eqC_bytes]; exact decide_eq_true rfl
  have e2 : eqC Req.zero.vals Req.zero.vals = true := by decide +kernel
  show (decide _ && decide _ && decide _ && eqC Req.zero.vals Req.zero.vals && decide _ && eqC (b32 t) (b32 t)) = true
  rw [e1, e2]
  simp
theorem oneM0_may {o k : Int} {t : Nat → UInt8} (ho : 1 ≤ o ∧ o ≤ 11) (hk : 1 ≤ k ∧ k ≤ 4611686018427387904) : (oneM0 o k t).may = true := by
  have h1 : (oneM0 o k t).outer := ⟨ho.1, ho.2, by show (1 : Int) ≤ 1; decide, by show (1 : Int) ≤ 65536; decide, by show (0 : Int) = 1 - 1; decide, (maxTo_le _ _ 10).2 (fun i _ => by show (0 : Int) ≤ 65536; decide)⟩
  have h2 : (oneM0 o k t).body.may = true := by
    unfold Bod.may
    have e1 : Bod.eqB (oneM0 o k t).body.own (oneM0 o k t).body = true := bod_refl
    have e2 : decide ((oneM0 o k t).body.view < 1073741824) = true := rfl
    have e3 : (oneM0 o k t).body.mayK (oneM0 o k t).body.kind.toNat = true := decide_eq_true hk
    rw [e1, e2, e3]
    rfl
  unfold Msg.may
  rw [decide_eq_true h1, h2]
  rfl
theorem take_one {M : CM} {n : Nat} {o k : Int} {t : Nat → UInt8} (ho : 1 ≤ o ∧ o ≤ 11) (hk : 1 ≤ k ∧ k ≤ 4611686018427387904) (hn : o ≤ n) : M.take n (oneMV o k t).m = if tld M (o, k) = none then (true, M ++ [((o, k), dOf t)]) else (false, M) := by
  have e1 : (oneMV o k t).m.origin = o := (signed_f _).1
  have e2 : (oneMV o k t).m.body = (oneM0 o k t).body := (signed_f _).2
  have e3 : (oneMV o k t).m.may = true := (signed_may _).trans (oneM0_may ho hk)
  unfold CM.take
  rw [e1, e2, e3]
  by_cases h : tld M (o, k) = none
  · rw [if_pos h, if_pos ⟨rfl, hn, rfl, h⟩]
    rfl
  · rw [if_neg h, if_neg (fun hh => h hh.2.2.2)]
theorem stR_one {n : Nat} {M : CM} {a b : Int × D32} (ha : stR n M a) (hb : stR n M b) : a = b := by
  obtain ⟨a1, a2⟩ := ha
  obtain ⟨b1, b2⟩ := hb
  rcases a1 with rfl | ⟨a0, ad⟩
  · rcases b1 with rfl | ⟨b0, bd⟩
    · rfl
    · have := a2 _ _ b0 bd
      have : b.1 ≤ 0 := this
      omega
  · rcases b1 with rfl | ⟨b0, bd⟩
    · have : a.1 ≤ 0 := b2 _ _ a0 ad
      omega
    · have h1 := a2 _ _ b0 bd
      have h2 := b2 _ _ a0 ad
      have h3 : a.1 = b.1 := by omega
      have h4 : some a.2 = some b.2 := digR_one ad (by rw [h3]; exact bd)
      exact Prod.ext h3 (Option.some.inj h4)
theorem sum_ab : dOf (Sha.sum [97]) ≠ dOf (Sha.sum [98]) := fun h => by
  have h1 : (dOf (Sha.sum [97])).1.head? = (dOf (Sha.sum [98])).1.head? := by rw [h]
  have h2 : some (Sha.sum [97] 0) = some (Sha.sum [98] 0) := h1
  exact absurd (Option.some.inj h2) (by decide +kernel)
def wM1 (x : D32) : CM := [((1, 4), x)]
def wM2 (x : D32) : CM := [((1, 4), x), ((3, 4), x)]
theorem w1_tells (x : D32) (k : Int) (r : Nat) : tells (wM1 x) k r = if ((r : Int), k) = (1, 4) then some x else none := rfl
theorem w2_tells (x : D32) (k : Int) (r : Nat) : tells (wM2 x) k r = if ((r : Int), k) = (1, 4) then some x else if ((r : Int), k) = (3, 4) then some x else none := rfl
theorem w1_stR (x : D32) : stR 3 (wM1 x) (0, dZ) := by
  refine ⟨.inl rfl, fun k d h0 hd => ?_⟩
  have h : 1 < cnt (tells (wM1 x) k) d 3 := hd
  have h1 : cnt (tells (wM1 x) k) d 3 ≤ 1 := by
    show 0 + (if tells (wM1 x) k 1 = some d then 1 else 0) + (if tells (wM1 x) k 2 = some d then 1 else 0) + (if tells (wM1 x) k 3 = some d then 1 else 0) ≤ 1
    rw [w1_tells, w1_tells, w1_tells, if_neg (show ¬ (((2 : Nat) : Int), k) = (1, 4) from fun h => by cases h), if_neg (show ¬ (((3 : Nat) : Int), k) = (1, 4) from fun h => by cases h)]
    simp
    split <;> omega
  omega
theorem w2_stR (x : D32) : stR 3 (wM2 x) (4, x) := by
  refine ⟨.inr ⟨show (0 : Int) < 4 by decide, ?_⟩, fun k d h0 hd => ?_⟩
  · show 1 < cnt (tells (wM2 x) 4) x 3
    show 1 < 0 + (if tells (wM2 x) 4 1 = some x then 1 else 0) + (if tells (wM2 x) 4 2 = some x then 1 else 0) + (if tells (wM2 x) 4 3 = some x then 1 else 0)
    rw [if_pos (show tells (wM2 x) 4 1 = some x from rfl), if_pos (show tells (wM2 x) 4 3 = some x from rfl)]
    omega
  · have h : 1 < cnt (tells (wM2 x) k) d 3 := hd
    obtain ⟨r, hr⟩ := cnt_pos (show 0 < cnt (tells (wM2 x) k) d 3 by omega)
    have hm := tld_mem hr
    show k ≤ 4
    rcases List.mem_cons.1 hm with h | h
    · cases h; exact Int.le_refl _
    · rcases List.mem_cons.1 h with h | h
      · cases h; exact Int.le_refl _
      · cases h
theorem w2_dig (x : D32) : digR 3 (tells (wM2 x) 4) (some x) := (w2_stR x).1.resolve_left (fun h => by cases h) |>.2
section
variable (f : Frag) (F : List HP)
set_option maxRecDepth 20000 in
set_option maxHeartbeats 3200000 in
theorem works21_fn (htab : TabAt f) : Fn Tryd.prog 5 [] f F (Ret (.bool true) f F) := by
  have hsab := sum_ab
  have hz : b32 (fun _ => 0) = dV dZ := rfl
  refine Fn.enter Tryd.func5 rfl Tryd.ntmps5 rfl (L := []) trivial fun base => ?_
  repeat (first | ((apply H.assign); (iterate 3 exact rfl)) | (first | apply H.seq | apply H.region | apply H.nil | apply H.then_normal))
  refine H.callE rfl rfl rfl (cnew_fn f F (n := 3) (by decide) (by decide) rfl) fun cb => ?_
  repeat (first | ((first | apply H.move | apply H.assign); (iterate 3 exact rfl)) | (first | apply H.seq | apply H.region | apply H.nil | apply H.then_normal) | ((apply H.extract); (iterate 4 exact rfl)))
  refine H.callR rfl rfl rfl (cnew_no f _) ?_
  repeat (first | ((first | apply H.move | apply H.assign); (iterate 3 exact rfl)) | (first | apply H.seq | apply H.region | apply H.nil | apply H.then_normal) | ((apply H.cmp); (iterate 5 exact rfl)) | ((first | apply H.pickF | apply H.extract); (iterate 4 exact rfl)) | ((apply H.ptrNil); (iterate 5 exact rfl)) | (apply H.cond_false; exact rfl) | (apply H.skip))
  refine H.buildSlice (out := bytesV [97]) rfl rfl rfl rfl (by decide) (by decide) rfl rfl fun ab => ?_
  refine H.convBB rfl rfl (by repeat (first | exact .here _ _ _ | apply At.there)) rfl ?_
  refine H.callR rfl rfl rfl (rsum_fn f _ (b := [97]) (Src.slice (m := 1) (Rd.ofM (by repeat (first | exact .here _ _ _ | apply At.there))) rfl) (by decide)) ?_
  refine H.alloc (ls := dV dZ) rfl rfl rfl fun db => ?_
  generalize ht : Sha.sum [97] = t
  refine H.storeN (ls := dV dZ) (vs := b32 t) (ls' := b32 t) rfl rfl rfl (allOne_mem rfl) rfl rfl (Nat.le_refl 32) (by repeat (first | exact .here _ _ _ | apply At.there)) ?_
  repeat (first | ((apply H.move); (iterate 3 exact rfl)) | (first | apply H.seq | apply H.region | apply H.nil | apply H.then_normal))
  refine H.drop (x := rowM ab _ _) (by repeat (first | exact .here _ _ | apply Pull.there)) ?_
  refine H.loadN (ls := b32 t) rfl rfl rfl (Rd.ofRow (by repeat (first | exact .here _ _ _ | apply At.there))) rfl rfl ?_
  refine H.callR rfl rfl rfl (one21_fn f _ (o := 1) (k := 4) (t := t)) ?_
  refine H.front (x := chkH _ _ _) (by repeat (first | exact .here _ _ | apply Pull.there)) ?_
  have hT1 := fun G => ctake_fn f G (cb := cb) (n := 3) (M := []) (oneMV_good f (o := 1) (k := 4) (t := t) (by decide))
  rw [take_one (by decide) (by decide) (by decide), if_pos (show tld [] (1, 4) = none from rfl)] at hT1
  refine H.callR rfl rfl rfl (hT1 _) ?_
  clear hT1
  show H _ _ _ _ _ (chkH cb 3 (wM1 (dOf t)) :: _) _
  repeat (first | ((first | apply H.move | apply H.assign); (iterate 3 exact rfl)) | (first | apply H.seq | apply H.region | apply H.nil | apply H.then_normal))
  refine H.callP rfl rfl rfl (cst_fn f _ (by decide)) fun r hr => ?_
  obtain rfl := stR_one hr (w1_stR (dOf t))
  clear hr
  repeat (first | ((apply H.move); (iterate 3 exact rfl)) | ((apply H.extract); (iterate 4 exact rfl)))
  refine H.alloc (ls := dV dZ) rfl rfl rfl fun eb => ?_
  repeat (((apply H.assign); (iterate 3 exact rfl)))
  refine H.storeN (ls := dV dZ) (vs := dV dZ) (ls' := dV dZ) rfl rfl rfl (dV_one _) rfl (splice_all rfl) (Nat.le_refl 32) (by repeat (first | exact .here _ _ _ | apply At.there)) ?_
  repeat (first | ((apply H.move); (iterate 3 exact rfl)) | (first | apply H.seq | apply H.region | apply H.nil | apply H.then_normal))
  refine H.loadN (ls := b32 t) rfl rfl rfl (Rd.ofRow (by repeat (first | exact .here _ _ _ | apply At.there))) rfl rfl ?_
  refine H.callR rfl rfl rfl (one21_fn f _ (o := 3) (k := 4) (t := t)) ?_
  refine H.front (x := chkH _ _ _) (by repeat (first | exact .here _ _ | apply Pull.there)) ?_
  have hT1 := fun G => ctake_fn f G (cb := cb) (n := 3) (M := wM1 (dOf t)) (oneMV_good f (o := 3) (k := 4) (t := t) (by decide))
  rw [take_one (by decide) (by decide) (by decide), if_pos (show tld (wM1 (dOf t)) (3, 4) = none from rfl)] at hT1
  refine H.callR rfl rfl rfl (hT1 _) ?_
  clear hT1
  show H _ _ _ _ _ (chkH cb 3 (wM2 (dOf t)) :: _) _
  repeat (first | ((first | apply H.move | apply H.assign); (iterate 3 exact rfl)) | (first | apply H.seq | apply H.region | apply H.nil | apply H.then_normal))
  refine H.buildA (out := b32 (fun _ => 0)) rfl rfl rfl rfl rfl ?_
  refine H.callR rfl rfl rfl (one21_fn f _ (o := 3) (k := 4) (t := fun _ => 0)) ?_
  have hT1 := fun G => ctake_fn f G (cb := cb) (n := 3) (M := wM2 (dOf t)) (oneMV_good f (o := 3) (k := 4) (t := fun _ => 0) (by decide))
  rw [take_one (by decide) (by decide) (by decide), if_neg (show ¬ tld (wM2 (dOf t)) (3, 4) = none from fun h => by cases h)] at hT1
  refine H.callR rfl rfl rfl (hT1 _) ?_
  clear hT1
  repeat (first | ((first | apply H.move | apply H.assign); (iterate 3 exact rfl)) | (first | apply H.seq | apply H.region | apply H.nil | apply H.then_normal))
  refine H.callP rfl rfl rfl (cst_fn f _ (by decide)) fun r hr => ?_
  obtain rfl := stR_one hr (w2_stR (dOf t))
  clear hr
  repeat (first | ((apply H.move); (iterate 3 exact rfl)) | ((apply H.extract); (iterate 4 exact rfl)))
  refine H.alloc (ls := dV dZ) rfl rfl rfl fun gb => ?_
  repeat (((apply H.assign); (iterate 3 exact rfl)))
  refine H.storeN (ls := dV dZ) (vs := b32 t) (ls' := b32 t) rfl rfl rfl (allOne_mem rfl) rfl rfl (Nat.le_refl 32) (by repeat (first | exact .here _ _ _ | apply At.there)) ?_
  have heq : eqC (b32 t) (b32 t) = true := by rw [b32_bytes, eqC_bytes]; exact decide_eq_true rfl
  have hr1 : rightB [97] (some (dOf t)) = true := by unfold rightB; rw [ht]; exact decide_eq_true rfl
  have hr2 : rightB [98] (some (dOf t)) = false := by
    unfold rightB
    rw [← ht]
    exact decide_eq_false (fun h => hsab (Option.some.inj h))
  clear ht hsab
  repeat (first | (refine H.loadN (ls := b32 t) rfl rfl rfl (Rd.ofRow (by repeat (first | exact .here _ _ _ | apply At.there))) rfl rfl ?_) | ((apply H.move); (iterate 3 exact rfl)) | (first | apply H.seq | apply H.region | apply H.nil | apply H.then_normal) | ((apply H.cmp); (iterate 5 exact rfl)) | (apply H.pickT; (iterate 4 exact rfl)) | ((apply H.not); (iterate 4 exact rfl)) | (apply H.gyes; (iterate 3 exact rfl); (omega)) | (refine H.aggEq (xs := b32 t) (ys := b32 t) (D := 4) rfl rfl rfl rfl (by kernel_rfl) (by kernel_rfl) (by kernel_rfl) (by kernel_rfl) (by decide) heq rfl ?_))
  refine H.buildSlice (out := bytesV [97]) rfl rfl rfl rfl (by decide) (by decide) rfl rfl fun ab => ?_
  refine H.convBB rfl rfl (by repeat (first | exact .here _ _ _ | apply At.there)) rfl ?_
  refine H.freeze (x := rowM ab _ _) (by repeat (first | exact .here _ _ | apply Pull.there)) fun g hg hd => ?_
  refine H.front (x := chkH _ _ _) (by repeat (first | exact .here _ _ | apply Pull.there)) ?_
  refine H.callP rfl rfl rfl (cright_fn (un f g) _ (IntsAt.mono (Le.un f g) htab) (b := [97]) (by decide) (rowM_bat hg hd) (Nat.le_refl 1) (by decide)) fun o ho => ?_
  obtain rfl := digR_one ho (w2_dig (dOf t))
  rw [hr1]
  clear ho hr1
  refine H.weaken (Le.un f g) ?_
  clear hg hd
  repeat (first | ((apply H.move); (iterate 3 exact rfl)) | (apply H.pickT; (iterate 4 exact rfl)))
  refine H.buildSlice (out := bytesV [98]) rfl rfl rfl rfl (by decide) (by decide) rfl rfl fun bb => ?_
  refine H.convBB rfl rfl (by repeat (first | exact .here _ _ _ | apply At.there)) rfl ?_
  refine H.freeze (x := rowM bb _ _) (by repeat (first | exact .here _ _ | apply Pull.there)) fun g hg hd => ?_
  refine H.callP rfl rfl rfl (cright_fn (un f g) _ (IntsAt.mono (Le.un f g) htab) (b := [98]) (by decide) (rowM_bat hg hd) (Nat.le_refl 1) (by decide)) fun o ho => ?_
  obtain rfl := digR_one ho (w2_dig (dOf t))
  rw [hr2]
  clear ho hr2
  refine H.weaken (Le.un f g) ?_
  clear hg hd
  repeat (first | ((apply H.assign); (iterate 3 exact rfl)) | (first | apply H.nil | apply H.then_normal) | (apply H.pickT; (iterate 4 exact rfl)) | ((apply H.not); (iterate 4 exact rfl)) | (apply H.ret))
  refine H.drop (x := chkH _ _ _) (by repeat (first | exact .here _ _ | apply Pull.there)) ?_
  refine H.drop (x := row gb _ _) (by repeat (first | exact .here _ _ | apply Pull.there)) ?_
  refine H.drop (x := row eb _ _) (by repeat (first | exact .here _ _ | apply Pull.there)) ?_
  refine H.drop (x := row db _ _) (by repeat (first | exact .here _ _ | apply Pull.there)) ?_
  exact H.ret1 rfl rfl (fun _ h => h) ⟨rfl, rfl, rfl⟩
end
end Go.Proofs.YtcdpnloeheaclaaDoor

/- The engine, part o: a whole element of an owned slice is turned. No program in sight; no conditions. -/
namespace Go.Proofs.YtcdpnloeheaclaaDoor
set_option linter.unusedSectionVars false
set_option linter.unusedSimpArgs false
set_option linter.unusedVariables false
open Go
theorem flat_splice {α : Type} {vals : α → List Value} {sz : Nat} (hv : ∀ x, (vals x).length = sz) {xs : List α} {i : Nat} (z : α) (hi : i < xs.length) (sp : List Value) :
    splice (xs.flatMap vals ++ sp) (i * sz) (vals z) = (xs.set i z).flatMap vals ++ sp := by
  have hx : xs[i]? = some xs[i] := List.getElem?_eq_getElem hi
  have hl : ((xs.take i).flatMap vals).length = i * sz := by rw [flat_len hv, List.length_take, Nat.min_eq_left (by omega)]
  have h2 : (xs.set i z)[i]? = some z := by rw [List.getElem?_set_self hi]
  have e1 : (xs.set i z).take i = xs.take i := by rw [List.take_set_of_le (Nat.le_refl _)]
  have e2 : (xs.set i z).drop (i + 1) = xs.drop (i + 1) := by rw [List.drop_set_of_lt (by omega)]
  rw [flat_split xs hx, flat_split (xs.set i z) h2, e1, e2]
  generalize (xs.take i).flatMap vals = pre at hl
  unfold splice
  have e3 : pre ++ vals xs[i] ++ (xs.drop (i + 1)).flatMap vals ++ sp = pre ++ (vals xs[i] ++ ((xs.drop (i + 1)).flatMap vals ++ sp)) := by simp
  rw [e3, ← hl, List.take_left, hv z, ← hv xs[i], ← List.drop_drop, List.drop_left, List.drop_left]
  simp
section
variable {P : Program} {base : World} {n : Nat} {L : Env} {f : Frag} {A : List HP} {q : Post} {l rest : List Oper} {ty : TypeId} {pos : String} {af : Array Edge} {gd : Option (Nat × Bool)}
theorem H.storeE {α : Type} {vals : α → List Value} {sz : Nat} {t : TypeId} {x y : Operand} {b n0 c : Nat} {T : TypeId} {xs : List α} {i : Nat} {z : α} {A' : List HP} [hs : Siz P t sz] (hv : ∀ x, (vals x).length = sz) (h0 : 0 < sz) (hone : ∀ v ∈ vals z, one v = true) (hw : want? l L gd = true)
    (hx : ev? L x = some (.pointer (some ⟨b, i * sz, none⟩))) (hy : ev? L y = some (.agg (vals z).toArray)) (hi : i < xs.length)
    (hA : At A (slc (some ⟨b, 0, none⟩) n0 c T sz (xs.flatMap vals)) A' (slc (some ⟨b, 0, none⟩) n0 c T sz ((xs.set i z).flatMap vals)))
    (k : H P base n L f A' (.ops l rest q)) : H P base n L f A (.ops l (⟨none, .store t x y, ty, pos, af, gd⟩ :: rest) q) :=
  H.opS hw (fun a w hfr s => by
    obtain ⟨hl, hc, h3⟩ := s.slc_at hA
    have hn : xs.length = n0 := by
      rw [flat_len hv] at hl
      exact Nat.eq_of_mul_eq_mul_right h0 hl
    rcases h3 with ⟨e, _⟩ | ⟨b', sp, e, hnc, hcs, hb⟩
    · omega
    · cases e
      have hle : i * sz + (vals z).length ≤ (xs.flatMap vals ++ sp).length := by
        rw [List.length_append, flat_len hv, hv]
        have : (i + 1) * sz ≤ xs.length * sz := Nat.mul_le_mul_right _ hi
        rw [Nat.add_mul] at this
        omega
      have h1 := run_storeCells (P := P) (off := i * sz) (vals z) (xs.flatMap vals ++ sp) 0 w hb hone hle
      have hne : vals z ≠ [] := by intro h; have := hv z; rw [h] at this; simp at this; omega
      rw [if_neg hne, Nat.add_zero, flat_splice hv z hi] at h1
      refine ⟨World.putRow' w b T ((xs.set i z).flatMap vals ++ sp), ?_, s.turnRow hA (b := b) (o' := .cells ((xs.set i z).flatMap vals ++ sp).toArray T (0, 0)) ?_ rfl rfl rfl ?_ ?_⟩
      · simp only [execOp, hfr.eval hx, hfr.eval hy, Instr.storeAt, Instr.sureAddr, storeVar, Value.cells, Sem.run_bind, Sem.run_pure, Result.andThen_ok, hs.run, List.size_toArray, hv]
        simp [h1]
      · rintro m1 ⟨_, _, h⟩
        rcases h with ⟨h, _⟩ | ⟨b', sp', h, _, hcs', rfl⟩
        · omega
        · cases h; exact ⟨_, rfl⟩
      · rfl
      · have e4 : ((xs.set i z).flatMap vals).length = (xs.flatMap vals).length := by rw [flat_len hv, flat_len hv, List.length_set]
        refine ⟨by rw [e4]; exact hl, hc, .inr ⟨b, sp, rfl, hnc, ?_, rfl⟩⟩
        rw [List.length_append, e4, ← List.length_append]
        exact hcs) k
end
end Go.Proofs.YtcdpnloeheaclaaDoor

/- Layer 21: CheckOne. -/
namespace Go.Proofs.YtcdpnloeheaclaaDoor
set_option linter.unusedSectionVars false
set_option linter.unusedSimpArgs false
set_option linter.unusedVariables false
open Go
structure Sd where
  o : Int
  k : Int
  d : Int
def Sd.vals (x : Sd) : List Value := [.int .i64 x.o, .int .u8 x.k, .int .u8 x.d]
def dig1 (u : UInt8) : Nat → UInt8 := fun i => if i = 0 then u else 0
theorem u8_mod {z : Int} {m : Nat} (hm : 0 < m ∧ m ≤ 256) (h0 : 0 ≤ z) : ∃ u : UInt8, z.tmod (m : Int) = ((u.toNat : Nat) : Int) ∧ u.toNat < m := by
  have h1 : z.toNat % m < m := Nat.mod_lt _ hm.1
  refine ⟨UInt8.ofNat (z.toNat % m), ?_, ?_⟩
  · rw [UInt8.toNat_ofNat', Nat.mod_eq_of_lt (by omega), ← tmod64, Int.toNat_of_nonneg h0]
  · rw [UInt8.toNat_ofNat', Nat.mod_eq_of_lt (by omega)]
    exact h1
theorem take_cases (M : CM) (n : Nat) (m : Msg) : (M.take n m).2 = M ∨ ((M.take n m).2 = M ++ [((m.origin, m.body.k), dOf m.body.dig)] ∧ tld M (m.origin, m.body.k) = none) := by
  unfold CM.take
  split
  · rename_i h
    exact .inr ⟨rfl, h.2.2.2⟩
  · exact .inl rfl
theorem take_mono {M : CM} {n : Nat} {m : Msg} {key : Int × Int} {d : D32} (h : tld M key = some d) : tld (M.take n m).2 key = some d := by
  rcases take_cases M n m with e | ⟨e, _⟩
  · rw [e]; exact h
  · rw [e, tld_snoc, h]
    rfl
theorem cnt_mono {T T' : Nat → Option D32} {d : D32} (h : ∀ r, T r = some d → T' r = some d) : ∀ n, cnt T d n ≤ cnt T' d n
  | 0 => Nat.le_refl _
  | n + 1 => by
    have ih := cnt_mono h n
    show cnt T d n + (if T (n + 1) = some d then 1 else 0) ≤ cnt T' d n + (if T' (n + 1) = some d then 1 else 0)
    by_cases e : T (n + 1) = some d
    · rw [if_pos e, if_pos (h _ e)]; omega
    · rw [if_neg e]; omega
theorem dig_stays {M : CM} {n : Nat} {m : Msg} {k : Int} {d : D32} (h : digR n (tells M k) (some d)) : digR n (tells (M.take n m).2 k) (some d) := by
  have h1 : n / 2 < cnt (tells M k) d n := h
  have h2 := cnt_mono (T := tells M k) (T' := tells (M.take n m).2 k) (d := d) (fun r hr => take_mono hr) n
  show n / 2 < _
  omega
/-- What is told of the number j, and whether there is one. -/
def JT (n : Nat) (M : CM) (tl : List D32) (il : List Bool) (j : Nat) : Prop := ∃ t b, tl[j]? = some t ∧ il[j]? = some b ∧ digR n (tells M (j : Int)) (if b = true then some t else none)
theorem opt_back (o : Option D32) : (if o.isSome = true then some (o.getD dZ) else none) = o := by cases o <;> rfl
theorem row_d {f : Frag} {A A' : List HP} {b : Nat} {T : TypeId} {tl : List D32} (h : At A (row b T (tl.flatMap dV)) A' (row b T (tl.flatMap dV))) {j : Nat} {t : D32} (ht : tl[j]? = some t) : Rd f A b (0 + j * 32) (dV t) := by
  have h1 := Rd.ofRow (f := f) h
  rw [flat_split tl ht] at h1
  refine h1.sub ?_
  rw [flat_len dV_len, List.length_take]
  have : j < tl.length := (List.getElem?_eq_some_iff.1 ht).1
  rw [Nat.min_eq_left (by omega)]
theorem boolV_get {il : List Bool} {j : Nat} {b : Bool} (h : il[j]? = some b) : (il.map Value.bool)[j]? = some (.bool b) := by rw [List.getElem?_map, h]; rfl
theorem boolV_set {il : List Bool} {j : Nat} (b : Bool) (h : j < il.length) : SetV (il.map Value.bool) j (.bool b) ((il.set j b).map Value.bool) := by
  rw [List.map_set]
  exact SetV.mk _ (by rw [List.length_map]; exact h)
theorem JT.set {n : Nat} {M : CM} {tl : List D32} {il : List Bool} {j : Nat} {o : Option D32} (hj : j < 8) (h1 : tl.length = 8) (h2 : il.length = 8) (ho : digR n (tells M (j : Int)) o) : JT n M (tl.set j (o.getD dZ)) (il.set j o.isSome) j :=
  ⟨o.getD dZ, o.isSome, List.getElem?_set_self (by omega), List.getElem?_set_self (by omega), by rw [opt_back]; exact ho⟩
theorem JT.other {n : Nat} {M : CM} {tl : List D32} {il : List Bool} {i j : Nat} {t : D32} {b : Bool} (hij : j ≠ i) (h : JT n M tl il i) : JT n M (tl.set j t) (il.set j b) i := by
  obtain ⟨t', b', a1, a2, a3⟩ := h
  exact ⟨t', b', by rw [List.getElem?_set_ne hij]; exact a1, by rw [List.getElem?_set_ne hij]; exact a2, a3⟩
def zeroMV : MV := ⟨⟨0, 0, fun _ => 0, Bod.zero 0, noTag⟩, none, 0⟩
section
variable (f : Frag) (F : List HP)
set_option maxRecDepth 20000 in
set_option maxHeartbeats 3200000 in
theorem checkOne_fn (htab : TabAt f) {z : Int} (hz : 0 ≤ z ∧ z ≤ 255) {p : Option Addr} {c : Nat} {xs : List Sd} (hat : ListAt f p 3 Sd.vals xs) (hh : ∀ x ∈ xs, (0 ≤ x.k ∧ x.k ≤ 255) ∧ (0 ≤ x.d ∧ x.d ≤ 255)) :
    Fn Tryd.prog 3 [.int .u8 z, .slice p xs.length c] f F (Ret (.bool true) f F) := by
  by_cases hlen : 150 < xs.length
  · refine Fn.enter Tryd.func3 rfl Tryd.ntmps3 rfl (L := [(0, _), (1, _)]) ⟨rfl, rfl, trivial⟩ fun base => ?_
    repeat (first | ((first | apply H.move | apply H.assign | apply H.len_slice); (iterate 3 exact rfl)) | (first | apply H.seq | apply H.region | apply H.nil | apply H.then_normal) | ((apply H.cmp); (iterate 5 exact rfl)) | (apply H.cond_yes; exact rfl; (omega)))
    refine H.callR rfl rfl rfl (works21_fn f _ htab) ?_
    repeat (first | ((apply H.assign); (iterate 3 exact rfl)) | (first | apply H.nil | apply H.then_normal) | (first | apply H.ret | apply H.then_ret))
    exact H.ret1 rfl rfl (fun _ h => h) ⟨rfl, rfl, rfl⟩
  obtain ⟨n, hn3, hn11, hnodd, hodd⟩ := odd_fn f hz
  refine Fn.enter Tryd.func3 rfl Tryd.ntmps3 rfl (L := [(0, _), (1, _)]) ⟨rfl, rfl, trivial⟩ fun base => ?_
  repeat (first | ((first | apply H.move | apply H.assign | apply H.len_slice); (iterate 3 exact rfl)) | (first | apply H.seq | apply H.region | apply H.nil | apply H.then_normal) | ((apply H.cmp); (iterate 5 exact rfl)) | (apply H.skip) | (apply H.cond_no; exact rfl; (omega)))
  refine H.callR rfl rfl rfl (hodd _) ?_
  repeat (first | ((first | apply H.move | apply H.assign); (iterate 3 exact rfl)) | (first | apply H.seq | apply H.region | apply H.nil | apply H.then_normal))
  refine H.callE rfl rfl rfl (cnew_fn f F hn3 hn11 hnodd) fun cb => ?_
  clear hodd
  repeat (first | ((first | apply H.move | apply H.assign); (iterate 3 exact rfl)) | (first | apply H.seq | apply H.region | apply H.nil | apply H.then_normal) | ((apply H.cmp); (iterate 5 exact rfl)) | ((first | apply H.pickF | apply H.extract); (iterate 4 exact rfl)) | ((apply H.ptrNil); (iterate 5 exact rfl)) | (apply H.cond_false; exact rfl) | (apply H.skip))
  refine H.alloc (ls := (List.replicate 8 dZ).flatMap dV) rfl rfl rfl fun tb => ?_
  repeat ((first | apply H.seq | apply H.region | apply H.nil | apply H.then_normal))
  refine H.alloc (ls := (List.replicate 8 false).map Value.bool) rfl rfl rfl fun ib => ?_
  repeat (first | ((apply H.assign); (iterate 3 exact rfl)) | (first | apply H.seq | apply H.region | apply H.nil | apply H.then_normal) | (apply H.block))
  refine H.front (x := row tb _ _) (by repeat (first | exact .here _ _ | apply Pull.there)) ?_
  refine H.front (x := chkH _ _ _) (by repeat (first | exact .here _ _ | apply Pull.there)) ?_
  refine H.loop (ι := Nat × CM × List D32 × List Bool × Int) (fun s => [(11, .int .i64 (s.1 : Int)), (1, .slice p xs.length c), (5, .int .i64 (n : Nat)), (6, .pointer (some ⟨cb, 0, none⟩)), (8, .pointer (some ⟨tb, 0, none⟩)), (9, .pointer (some ⟨ib, 0, none⟩)), (10, .int .u64 s.2.2.2.2)]) (fun _ => f)
    (fun s => chkH cb n s.2.1 :: row tb 30 (s.2.2.1.flatMap dV) :: row ib 31 (s.2.2.2.1.map Value.bool) :: F)
    (fun s => s.1 ≤ xs.length ∧ s.2.2.1.length = 8 ∧ s.2.2.2.1.length = 8 ∧ (∀ e ∈ s.2.1, 0 ≤ e.1.2 ∧ e.1.2 < 8) ∧ (∀ j, j < 8 → JT n s.2.1 s.2.2.1 s.2.2.2.1 j) ∧ 0 ≤ s.2.2.2.2 ∧ (s.2.2.2.2 = 0 ∨ ∃ d, digR n (tells s.2.1 s.2.2.2.2) (some d))) (fun s => xs.length - s.1)
    (0, [], List.replicate 8 dZ, List.replicate 8 false, 0) ⟨Nat.zero_le _, rfl, rfl, fun e he => (by cases he), fun j hj => ⟨dZ, false, by rw [List.getElem?_replicate, if_pos hj], by rw [List.getElem?_replicate, if_pos hj], fun d => (by
        have : ∀ r, cnt (tells [] (j : Int)) d r = 0 := fun r => by
          induction r with
          | zero => rfl
          | succ r ih => show cnt (tells [] (j : Int)) d r + (if tells [] (j : Int) (r + 1) = some d then 1 else 0) = 0; rw [ih, if_neg (fun h => by cases h)]
        rw [this]; exact Nat.zero_le _)⟩, Int.le_refl _, .inl rfl⟩ ⟨rfl, rfl, rfl, rfl, rfl, rfl, rfl, trivial⟩ rfl rfl fun s hs => ?_
  obtain ⟨i, M, tl, il, last⟩ := s
  obtain ⟨hi, htl, hil, hkeys, hjt, hl0, hlast⟩ : i ≤ xs.length ∧ tl.length = 8 ∧ il.length = 8 ∧ (∀ e ∈ M, 0 ≤ e.1.2 ∧ e.1.2 < 8) ∧ (∀ j, j < 8 → JT n M tl il j) ∧ 0 ≤ last ∧ (last = 0 ∨ ∃ d, digR n (tells M last) (some d)) := hs
  show H _ _ _ [(11, .int .i64 (i : Int)), _, _, _, _, _, (10, .int .u64 last)] _ (chkH cb n M :: row tb _ (tl.flatMap dV) :: row ib _ (il.map Value.bool) :: F) _
  by_cases hlt : i < xs.length
  · have hx : xs[i]? = some xs[i] := List.getElem?_eq_getElem hlt
    generalize xs[i] = x at hx
    obtain ⟨hxk, hxd⟩ := hh x (List.mem_of_getElem? hx)
    obtain ⟨b0, o0, cs0, T0, fr0, hp0, hf0, hcs0⟩ := hat i x hx
    have rdx : ∀ A, Rd f A b0 (o0 + i * 3) x.vals := fun A => Rd.imm hf0 hcs0
    have rdO : ∀ A, Rd1 f A b0 (o0 + i * 3 + 0) (.int .i64 x.o) := fun A => Rd1.of (rdx A) (i := 0) rfl
    have rdK : ∀ A, Rd1 f A b0 (o0 + i * 3 + 1) (.int .u8 x.k) := fun A => Rd1.of (rdx A) (i := 1) rfl
    have rdD : ∀ A, Rd1 f A b0 (o0 + i * 3 + 2) (.int .u8 x.d) := fun A => Rd1.of (rdx A) (i := 2) rfl
    clear hcs0 hf0 rdx
    subst hp0
    obtain ⟨ku, hku, hku8⟩ := u8_mod (z := x.k) (m := 8) (by decide) hxk.1
    obtain ⟨du, hdu, _⟩ := u8_mod (z := x.d) (m := 3) (by decide) hxd.1
    obtain ⟨kk, hkk⟩ : ∃ kk : Nat, kk = ku.toNat := ⟨_, rfl⟩
    rw [← hkk] at hku hku8
    have hku : x.k.tmod 8 = ((kk : Nat) : Int) := hku
    have hdu : x.d.tmod 3 = ((du.toNat : Nat) : Int) := hdu
    obtain ⟨mo, hmo⟩ : ∃ mo, (if x.o < 0 then (0 : Int) else x.o) = mo := ⟨_, rfl⟩
    have hmo0 : 0 ≤ mo := by rw [← hmo]; split <;> omega
    obtain ⟨oo, hoo, hoon⟩ : ∃ oo : Nat, mo.tmod ((n : Nat) : Int) = (oo : Int) ∧ oo < n := ⟨mo.toNat % n, by rw [← tmod64, Int.toNat_of_nonneg hmo0], Nat.mod_lt _ (by omega)⟩
    have hconv : IntKind.u64.wrap ((kk : Nat) : Int) = ((kk : Nat) : Int) := wr_u64 (by omega)
    have htake := fun G => ctake_fn f G (cb := cb) (n := n) (M := M) (oneMV_good f (o := 1 + (oo : Int)) (k := ((kk : Nat) : Int)) (t := dig1 du) (by omega))
    have hbk : (oneMV (1 + (oo : Int)) ((kk : Nat) : Int) (dig1 du)).m.body.k = ((kk : Nat) : Int) := by
      show (oneM0 (1 + (oo : Int)) ((kk : Nat) : Int) (dig1 du)).signed.body.k = _
      rw [(signed_f _).2]
      rfl
    repeat (first | (refine H.conv_int rfl rfl hconv rfl ?_) | ((first | apply H.move | apply H.assign | apply H.len_slice); (iterate 3 exact rfl)) | (apply H.fieldAddr; (iterate 3 exact rfl); exact inferInstance; exact rfl) | (first | apply H.seq | apply H.region | apply H.nil | apply H.then_normal) | ((apply H.cmp); (iterate 5 exact rfl)) | (first | apply H.skip | apply H.block) | (apply H.cond_yes; exact rfl; (omega)) | (refine H.index_slice (i := i) rfl rfl rfl rfl hlt rfl ?_) | (refine H.load1 rfl rfl rfl (rdK _) rfl ?_) | (refine H.rem rfl rfl rfl (by decide) hku rfl ?_))
    refine H.drawB (by kernel_rfl) (by decide +kernel) (by first | exact blind_fn | exact blind_seq blind_fn | exact blind_seq (blind_seq blind_fn) | (repeat (first | exact blind_fn | refine blind_seq ?_ | refine blind_block ?_ | refine blind_loop ?_))) (S := []) rfl ?_
    refine HB.quiet [(0, false), (1, false), (2, false), (3, false), (4, false), (5, false), (6, false), (7, false), (8, false), (9, false), (10, false), (11, false), (12, false), (13, false), (14, false), (15, false), (16, false), (17, false)] 2 (by kernel_rfl) ?_
    repeat (first | ((apply HQ.move); (iterate 3 exact rfl)) | (apply HQ.fieldAddr; (iterate 3 exact rfl); exact inferInstance; exact rfl) | ((apply HQ.ar; (iterate 4 exact rfl)); (with_reducible apply wr_i64; omega); exact rfl) | (refine HQ.index_slice (i := i) rfl rfl rfl rfl hlt rfl ?_) | (refine HQ.load1 rfl rfl rfl (rdO _) rfl ?_) | (refine HQ.load1 rfl rfl rfl (rdD _) rfl ?_) | (refine HQ.max2 rfl rfl rfl hmo rfl ?_) | (refine HQ.rem rfl rfl rfl (by omega) hoo rfl ?_) | (refine HQ.rem rfl rfl rfl (by decide) hdu rfl ?_) | (refine HQ.buildA (out := b32 (dig1 du)) rfl rfl rfl rfl rfl ?_))
    refine HQ.more rfl ?_
    refine HB.ev1 (i := 18) (by kernel_rfl) rfl ?_
    refine H.callR rfl rfl rfl (one21_fn f _ (o := 1 + (oo : Int)) (k := ((kk : Nat) : Int)) (t := dig1 du)) ?_
    repeat ((apply H.nil))
    refine H.on0 rfl ?_
    refine HB.ev1 (i := 19) (by kernel_rfl) rfl ?_
    refine H.callR rfl rfl rfl (htake _) ?_
    clear htake
    have hstay := fun k d => dig_stays (M := M) (n := n) (m := (oneMV (1 + (oo : Int)) ((kk : Nat) : Int) (dig1 du)).m) (k := k) (d := d)
    have hkeys2 : ∀ e ∈ (M.take n (oneMV (1 + (oo : Int)) ((kk : Nat) : Int) (dig1 du)).m).2, 0 ≤ e.1.2 ∧ e.1.2 < 8 := by
      rcases take_cases M n (oneMV (1 + (oo : Int)) ((kk : Nat) : Int) (dig1 du)).m with e | ⟨e, _⟩
      · rw [e]; exact hkeys
      · rw [e]
        intro y hy
        rw [List.mem_append, List.mem_singleton] at hy
        rcases hy with hy | rfl
        · exact hkeys y hy
        · show 0 ≤ (oneMV _ _ _).m.body.k ∧ (oneMV _ _ _).m.body.k < 8
          rw [hbk]
          omega
    generalize (M.take n (oneMV (1 + (oo : Int)) ((kk : Nat) : Int) (dig1 du)).m).2 = M2 at hstay hkeys2 ⊢
    generalize (M.take n (oneMV (1 + (oo : Int)) ((kk : Nat) : Int) (dig1 du)).m).1 = took
    clear hkeys hbk
    repeat ((apply H.nil))
    refine H.on0 rfl ?_
    refine HB.done (by kernel_rfl) ?_
    repeat (first | ((apply H.assign); (iterate 3 exact rfl)) | (first | apply H.seq | apply H.region | apply H.nil | apply H.then_normal) | (apply H.block))
    refine H.loop (ι := Nat × List D32 × List Bool) (fun s => [(13, .int .u64 (s.1 : Int)), (11, .int .i64 (i : Int)), (1, .slice (some ⟨b0, o0, none⟩) xs.length c), (5, .int .i64 (n : Nat)), (6, .pointer (some ⟨cb, 0, none⟩)), (8, .pointer (some ⟨tb, 0, none⟩)), (9, .pointer (some ⟨ib, 0, none⟩)), (10, .int .u64 last)]) (fun _ => f)
      (fun s => chkH cb n M2 :: row tb 30 (s.2.1.flatMap dV) :: row ib 31 (s.2.2.map Value.bool) :: F)
      (fun s => s.1 ≤ 8 ∧ s.2.1.length = 8 ∧ s.2.2.length = 8 ∧ (∀ j, j < s.1 → JT n M2 s.2.1 s.2.2 j) ∧ (∀ j, s.1 ≤ j → j < 8 → JT n M s.2.1 s.2.2 j)) (fun s => 8 - s.1)
      (0, tl, il) ⟨Nat.zero_le _, htl, hil, fun j hj => absurd hj (Nat.not_lt_zero _), fun j _ h => hjt j h⟩ ⟨rfl, rfl, rfl, rfl, rfl, rfl, rfl, rfl, trivial⟩ rfl rfl fun s hs => ?_
    clear htl hil hjt
    obtain ⟨j, tl, il⟩ := s
    obtain ⟨hj, htl, hil, hlo, hhi⟩ : j ≤ 8 ∧ tl.length = 8 ∧ il.length = 8 ∧ (∀ i, i < j → JT n M2 tl il i) ∧ (∀ i, j ≤ i → i < 8 → JT n M tl il i) := hs
    show H _ _ _ [(13, .int .u64 (j : Int)), _, _, _, _, _, _, _] _ (chkH cb n M2 :: row tb _ (tl.flatMap dV) :: row ib _ (il.map Value.bool) :: F) _
    by_cases hj8 : j < 8
    · obtain ⟨t, b, ht, hb, hd⟩ := hhi j (Nat.le_refl _) hj8
      repeat (first | ((apply H.move); (iterate 3 exact rfl)) | (first | apply H.seq | apply H.region | apply H.nil | apply H.then_normal) | ((apply H.cmp); (iterate 5 exact rfl)) | (first | apply H.skip | apply H.block) | (apply H.cond_yes; exact rfl; (omega)))
      refine H.callP rfl rfl rfl (cdig_fn f _ hn11) fun o ho => ?_
      have heq : eqC (dV t) (dV t) = true := by unfold dV; rw [eqC_bytes]; exact decide_eq_true rfl
      repeat (first | ((apply H.move); (iterate 3 exact rfl)) | ((apply H.extract); (iterate 4 exact rfl)))
      refine H.alloc (ls := dV dZ) rfl rfl rfl fun xb => ?_
      refine H.storeN (ls := dV dZ) (vs := dV (o.getD dZ)) (ls' := dV (o.getD dZ)) rfl rfl rfl (dV_one _) (dV_len _) (splice_all (by rw [dV_len, dV_len])) (by rw [dV_len, dV_len]; decide) (by repeat (first | exact .here _ _ _ | apply At.there)) ?_
      cases b with
      | false =>
        repeat (first | ((apply H.assign); (iterate 3 exact rfl)) | (first | apply H.seq | apply H.nil | apply H.then_normal))
        refine H.drawQ (by kernel_rfl) (by decide +kernel) (by first | exact blind_fn | exact blind_seq blind_fn | exact blind_seq (blind_seq blind_fn) | (repeat (first | exact blind_fn | refine blind_seq ?_ | refine blind_block ?_ | refine blind_loop ?_))) ?_
        repeat (first | ((apply HQ.move); (iterate 3 exact rfl)) | ((apply HQ.done0); exact rfl) | (apply HQ.pass; (iterate 2 exact rfl)) | ((apply HQ.pickF); (iterate 4 exact rfl)) | (refine HQ.index_array (i := j) rfl rfl rfl rfl hj8 rfl ?_) | (refine HQ.load1 rfl rfl rfl (.of (Rd.ofRow (by repeat (first | exact .here _ _ _ | apply At.there))) (by rw [Nat.mul_one]; exact boolV_get hb)) rfl ?_))
        repeat (first | ((apply H.move); (iterate 3 exact rfl)) | (first | apply H.seq | apply H.region | apply H.then_normal) | (apply H.cond_false; exact rfl) | (apply H.skip))
        refine H.loadN (ls := dV (o.getD dZ)) rfl rfl rfl (Rd.ofRow (by repeat (first | exact .here _ _ _ | apply At.there))) (dV_len _) rfl ?_
        refine H.index_array (i := j) rfl rfl rfl rfl hj8 rfl ?_
        refine H.storeN (ls := tl.flatMap dV) (vs := dV (o.getD dZ)) (ls' := (tl.set j (o.getD dZ)).flatMap dV) rfl rfl rfl (dV_one _) (dV_len _) (by have := flat_splice (vals := dV) dV_len (xs := tl) (i := j) (o.getD dZ) (by omega) []; rw [List.append_nil, List.append_nil] at this; rw [Nat.zero_add]; exact this) (by rw [dV_len, flat_len dV_len, htl]; omega) (by repeat (first | exact .here _ _ _ | apply At.there)) ?_
        repeat (first | ((apply H.move); (iterate 3 exact rfl)) | (first | apply H.region | apply H.nil | apply H.then_normal))
        refine H.index_array (i := j) rfl rfl rfl rfl hj8 rfl ?_
        refine H.store1 (v := .bool o.isSome) (ls' := (il.set j o.isSome).map Value.bool) rfl rfl rfl rfl (by repeat (first | exact .here _ _ _ | apply At.there)) (by rw [Nat.zero_add, Nat.mul_one]; exact boolV_set _ (by omega)) ?_
        repeat (first | ((first | apply H.move | apply H.assign); (iterate 3 exact rfl)) | (first | apply H.region | apply H.nil | apply H.then_normal) | ((apply H.ar; (iterate 4 exact rfl)); (with_reducible apply wr_u64; omega); exact rfl) | (apply H.in_normal))
        refine H.drop (x := row xb _ _) (by repeat (first | exact .here _ _ | apply Pull.there)) ?_
        refine H.front (x := chkH _ _ _) (by repeat (first | exact .here _ _ | apply Pull.there)) ?_
        exact H.again (j + 1, tl.set j (o.getD dZ), il.set j o.isSome) ⟨by show j + 1 ≤ 8; omega, by show (tl.set j _).length = 8; rw [List.length_set]; exact htl, by show (il.set j _).length = 8; rw [List.length_set]; exact hil, fun i hi => by
            by_cases e : i = j
            · rw [e]; exact JT.set hj8 htl hil ho
            · exact JT.other (fun h => e h.symm) (hlo i (by have : i < j + 1 := hi; omega)), fun i h1 h2 => JT.other (by have : j + 1 ≤ i := h1; omega) (hhi i (by have : j + 1 ≤ i := h1; omega) h2)⟩ (by show 8 - (j + 1) < 8 - j; omega) ⟨rfl, rfl, rfl, rfl, rfl, rfl, rfl, rfl, trivial⟩ rfl rfl
      | true =>
        obtain rfl := digR_one ho (hstay _ _ hd)
        show H _ _ _ _ _ (row xb _ (dV t) :: _) _
        repeat (first | ((apply H.assign); (iterate 3 exact rfl)) | (first | apply H.seq | apply H.nil | apply H.then_normal))
        refine H.drawQ (by kernel_rfl) (by decide +kernel) (by first | exact blind_fn | exact blind_seq blind_fn | exact blind_seq (blind_seq blind_fn) | (repeat (first | exact blind_fn | refine blind_seq ?_ | refine blind_block ?_ | refine blind_loop ?_))) ?_
        repeat (first | (refine HQ.not (c := false) rfl rfl rfl rfl ?_) | ((apply HQ.move); (iterate 3 exact rfl)) | ((apply HQ.done0); exact rfl) | (apply HQ.pickT; (iterate 4 exact rfl)) | ((apply HQ.pickF); (iterate 4 exact rfl)) | (refine HQ.index_array (i := j) rfl rfl rfl rfl hj8 rfl ?_) | (refine HQ.load1 rfl rfl rfl (.of (Rd.ofRow (by repeat (first | exact .here _ _ _ | apply At.there))) (by rw [Nat.mul_one]; exact boolV_get hb)) rfl ?_) | (refine HQ.loadN (ls := dV t) rfl rfl rfl (Rd.ofRow (by repeat (first | exact .here _ _ _ | apply At.there))) (dV_len t) rfl ?_) | (refine HQ.loadN (ls := dV t) rfl rfl rfl (row_d (by repeat (first | exact .here _ _ _ | apply At.there)) ht) (dV_len t) rfl ?_) | (refine HQ.aggNe (xs := dV t) (ys := dV t) (b := false) (D := 4) rfl rfl rfl rfl (by kernel_rfl) (dV_shp _) (dV_shp _) (by kernel_rfl) (by decide) (by rw [heq]; rfl) rfl ?_))
        repeat (first | ((apply H.move); (iterate 3 exact rfl)) | (first | apply H.seq | apply H.region | apply H.then_normal) | (apply H.cond_false; exact rfl) | (apply H.skip))
        refine H.loadN (ls := dV ((some t : Option D32).getD dZ)) rfl rfl rfl (Rd.ofRow (by repeat (first | exact .here _ _ _ | apply At.there))) (dV_len _) rfl ?_
        refine H.index_array (i := j) rfl rfl rfl rfl hj8 rfl ?_
        refine H.storeN (ls := tl.flatMap dV) (vs := dV ((some t : Option D32).getD dZ)) (ls' := (tl.set j ((some t : Option D32).getD dZ)).flatMap dV) rfl rfl rfl (dV_one _) (dV_len _) (by have := flat_splice (vals := dV) dV_len (xs := tl) (i := j) ((some t : Option D32).getD dZ) (by omega) []; rw [List.append_nil, List.append_nil] at this; rw [Nat.zero_add]; exact this) (by rw [dV_len, flat_len dV_len, htl]; omega) (by repeat (first | exact .here _ _ _ | apply At.there)) ?_
        repeat (first | ((apply H.move); (iterate 3 exact rfl)) | (first | apply H.region | apply H.nil | apply H.then_normal))
        refine H.index_array (i := j) rfl rfl rfl rfl hj8 rfl ?_
        refine H.store1 (v := .bool (some t : Option D32).isSome) (ls' := (il.set j (some t : Option D32).isSome).map Value.bool) rfl rfl rfl rfl (by repeat (first | exact .here _ _ _ | apply At.there)) (by rw [Nat.zero_add, Nat.mul_one]; exact boolV_set _ (by omega)) ?_
        repeat (first | ((first | apply H.move | apply H.assign); (iterate 3 exact rfl)) | (first | apply H.region | apply H.nil | apply H.then_normal) | ((apply H.ar; (iterate 4 exact rfl)); (with_reducible apply wr_u64; omega); exact rfl) | (apply H.in_normal))
        refine H.drop (x := row xb _ _) (by repeat (first | exact .here _ _ | apply Pull.there)) ?_
        refine H.front (x := chkH _ _ _) (by repeat (first | exact .here _ _ | apply Pull.there)) ?_
        exact H.again (j + 1, tl.set j ((some t : Option D32).getD dZ), il.set j (some t : Option D32).isSome) ⟨by show j + 1 ≤ 8; omega, by show (tl.set j _).length = 8; rw [List.length_set]; exact htl, by show (il.set j _).length = 8; rw [List.length_set]; exact hil, fun i hi => by
            by_cases e : i = j
            · rw [e]; exact JT.set hj8 htl hil ho
            · exact JT.other (fun h => e h.symm) (hlo i (by have : i < j + 1 := hi; omega)), fun i h1 h2 => JT.other (by have : j + 1 ≤ i := h1; omega) (hhi i (by have : j + 1 ≤ i := h1; omega) h2)⟩ (by show 8 - (j + 1) < 8 - j; omega) ⟨rfl, rfl, rfl, rfl, rfl, rfl, rfl, rfl, trivial⟩ rfl rfl
    · have hj88 : j = 8 := by omega
      subst hj88
      clear hhi
      have hjt2 : ∀ i, i < 8 → JT n M2 tl il i := hlo
      clear hlo
      have hst0 : ∀ s d, stR n M2 (s, d) → last ≤ s ∧ (0 < s → ∃ j : Nat, s = (j : Int) ∧ j < 8 ∧ tl[j]? = some d ∧ il[j]? = some true) := fun s d hs => by
        obtain ⟨h1, h2⟩ := hs
        refine ⟨?_, fun h0 => ?_⟩
        · rcases hlast with h | ⟨d', hd'⟩
          · rcases h1 with h1 | h1
            · cases h1; omega
            · have : 0 < s := h1.1
              omega
          · by_cases h3 : last = 0
            · rcases h1 with h1 | h1
              · cases h1; omega
              · have : 0 < s := h1.1
                omega
            · exact h2 last d' (by omega) (hstay _ _ hd')
        · rcases h1 with h1 | h1
          · cases h1; omega
          · have hd : digR n (tells M2 s) (some d) := h1.2
            have hc : n / 2 < cnt (tells M2 s) d n := hd
            obtain ⟨r, hr⟩ := cnt_pos (show 0 < cnt (tells M2 s) d n by omega)
            have hm := hkeys2 _ (tld_mem hr)
            have hm : 0 ≤ s ∧ s < 8 := hm
            have e : s = ((s.toNat : Nat) : Int) := by omega
            obtain ⟨t', b', a1, a2, a3⟩ := hjt2 s.toNat (by omega)
            rw [← e] at a3
            have a4 := digR_one a3 hd
            cases b' with
            | false => cases a4
            | true =>
              have a5 : t' = d := Option.some.inj a4
              rw [a5] at a1
              exact ⟨s.toNat, e, by omega, a1, a2⟩
      repeat (first | ((apply H.move); (iterate 3 exact rfl)) | (first | apply H.seq | apply H.region | apply H.nil | apply H.then_normal) | ((apply H.cmp); (iterate 5 exact rfl)) | (apply H.cond_false; exact rfl) | (first | apply H.then_exit | apply H.exit | apply H.in_hit | apply H.loop_exit))
      refine H.callP rfl rfl rfl (cst_fn f _ hn11) fun r hr => ?_
      obtain ⟨s, d⟩ := r
      obtain ⟨hls, hsj⟩ := hst0 s d hr
      have hlast2 : s = 0 ∨ ∃ d, digR n (tells M2 s) (some d) := by
        rcases hr.1 with h | h
        · cases h; exact .inl rfl
        · exact .inr ⟨_, h.2⟩
      clear hst0 hr hstay hlast
      repeat (first | ((apply H.move); (iterate 3 exact rfl)) | ((apply H.extract); (iterate 4 exact rfl)))
      refine H.alloc (ls := dV dZ) rfl rfl rfl fun sb => ?_
      repeat (((apply H.assign); (iterate 3 exact rfl)))
      refine H.storeN (ls := dV dZ) (vs := dV d) (ls' := dV d) rfl rfl rfl (dV_one _) (dV_len _) (splice_all (by first | rw [dV_len, dV_len] | rfl)) (by first | (rw [dV_len, dV_len]; decide) | exact Nat.le_refl 32) (by repeat (first | exact .here _ _ _ | apply At.there)) ?_
      by_cases hs0 : 0 < s
      · obtain ⟨j, hsjj, hj8, ht, hb⟩ := hsj hs0
        have heq : eqC (dV d) (dV d) = true := by unfold dV; rw [eqC_bytes]; exact decide_eq_true rfl
        repeat ((first | apply H.seq | apply H.nil | apply H.then_normal))
        refine H.drawQ (by kernel_rfl) (by decide +kernel) (by first | exact blind_fn | exact blind_seq blind_fn | exact blind_seq (blind_seq blind_fn) | (repeat (first | exact blind_fn | refine blind_seq ?_ | refine blind_block ?_ | refine blind_loop ?_))) ?_
        repeat (first | (refine HQ.not (c := false) rfl rfl rfl rfl ?_) | ((apply HQ.move); (iterate 3 exact rfl)) | ((apply HQ.done0); exact rfl) | ((apply HQ.cmp); (iterate 5 exact rfl)) | (apply HQ.pickT; (iterate 4 exact rfl)) | ((apply HQ.pickF); (iterate 4 exact rfl)) | (apply HQ.gyes; (iterate 3 exact rfl); (assumption)) | (apply HQ.gno; (iterate 3 exact rfl); (omega)) | (refine HQ.index_array (i := j) rfl rfl rfl hsjj hj8 rfl ?_) | (refine HQ.load1 rfl rfl rfl (.of (Rd.ofRow (by repeat (first | exact .here _ _ _ | apply At.there))) (by rw [Nat.mul_one]; exact boolV_get hb)) rfl ?_) | (refine HQ.loadN (ls := dV d) rfl rfl rfl (row_d (by repeat (first | exact .here _ _ _ | apply At.there)) ht) (dV_len d) rfl ?_) | (refine HQ.loadN (ls := dV d) rfl rfl rfl (Rd.ofRow (by repeat (first | exact .here _ _ _ | apply At.there))) (dV_len d) rfl ?_) | (refine HQ.aggNe (xs := dV d) (ys := dV d) (b := false) (D := 4) rfl rfl rfl rfl (by kernel_rfl) (dV_shp _) (dV_shp _) (by kernel_rfl) (by decide) (by rw [heq]; rfl) rfl ?_))
        repeat (first | ((first | apply H.move | apply H.assign); (iterate 3 exact rfl)) | (first | apply H.region | apply H.nil | apply H.then_normal) | ((apply H.ar; (iterate 4 exact rfl)); (with_reducible apply wr_i64_n1; omega); exact rfl) | (apply H.cond_false; exact rfl) | (first | apply H.skip | apply H.in_normal))
        refine H.drop (x := row sb _ _) (by repeat (first | exact .here _ _ | apply Pull.there)) ?_
        refine H.front (x := chkH _ _ _) (by repeat (first | exact .here _ _ | apply Pull.there)) ?_
        exact H.again (i + 1, M2, tl, il, s) ⟨by show i + 1 ≤ xs.length; omega, htl, hil, hkeys2, hjt2, by show 0 ≤ s; omega, hlast2⟩ (by show xs.length - (i + 1) < xs.length - i; omega) ⟨rfl, rfl, rfl, rfl, rfl, rfl, rfl, trivial⟩ rfl rfl
      · skip
        repeat ((first | apply H.seq | apply H.nil | apply H.then_normal))
        refine H.drawQ (by kernel_rfl) (by decide +kernel) (by first | exact blind_fn | exact blind_seq blind_fn | exact blind_seq (blind_seq blind_fn) | (repeat (first | exact blind_fn | refine blind_seq ?_ | refine blind_block ?_ | refine blind_loop ?_))) ?_
        repeat (first | ((apply HQ.move); (iterate 3 exact rfl)) | ((apply HQ.done0); exact rfl) | ((apply HQ.cmp); (iterate 5 exact rfl)) | (apply HQ.pass; (iterate 2 exact rfl)) | ((apply HQ.pickF); (iterate 4 exact rfl)) | (apply HQ.gno; (iterate 3 exact rfl); (first | assumption | omega)))
        repeat (first | ((first | apply H.move | apply H.assign); (iterate 3 exact rfl)) | (first | apply H.region | apply H.nil | apply H.then_normal) | ((apply H.ar; (iterate 4 exact rfl)); (with_reducible apply wr_i64_n1; omega); exact rfl) | (apply H.cond_false; exact rfl) | (first | apply H.skip | apply H.in_normal))
        refine H.drop (x := row sb _ _) (by repeat (first | exact .here _ _ | apply Pull.there)) ?_
        refine H.front (x := chkH _ _ _) (by repeat (first | exact .here _ _ | apply Pull.there)) ?_
        exact H.again (i + 1, M2, tl, il, s) ⟨by show i + 1 ≤ xs.length; omega, htl, hil, hkeys2, hjt2, by show 0 ≤ s; omega, hlast2⟩ (by show xs.length - (i + 1) < xs.length - i; omega) ⟨rfl, rfl, rfl, rfl, rfl, rfl, rfl, trivial⟩ rfl rfl
  · clear hat hjt hkeys hlast
    repeat (first | ((first | apply H.move | apply H.assign | apply H.len_slice); (iterate 3 exact rfl)) | (first | apply H.seq | apply H.region | apply H.nil | apply H.then_normal) | ((apply H.cmp); (iterate 5 exact rfl)) | (first | apply H.then_exit | apply H.exit | apply H.in_hit | apply H.loop_exit) | (apply H.cond_no; exact rfl; (omega)))
    refine H.drop (x := chkH _ _ _) (by repeat (first | exact .here _ _ | apply Pull.there)) ?_
    refine H.drop (x := row tb _ _) (by repeat (first | exact .here _ _ | apply Pull.there)) ?_
    refine H.drop (x := row ib _ _) (by repeat (first | exact .here _ _ | apply Pull.there)) ?_
    refine H.callR rfl rfl rfl (cdig_nil f _) ?_
    repeat (first | ((apply H.move); (iterate 3 exact rfl)) | ((apply H.extract); (iterate 4 exact rfl)))
    refine H.alloc (ls := dV dZ) rfl rfl rfl fun xb => ?_
    refine H.storeN (ls := dV dZ) (vs := dV dZ) (ls' := dV dZ) rfl rfl rfl (dV_one _) rfl (splice_all rfl) (Nat.le_refl 32) (by repeat (first | exact .here _ _ _ | apply At.there)) ?_
    repeat (first | ((first | apply H.move | apply H.assign); (iterate 3 exact rfl)) | (first | apply H.seq | apply H.region | apply H.nil | apply H.then_normal))
    refine H.callR rfl rfl rfl (cst_nil f _) ?_
    repeat (first | ((apply H.move); (iterate 3 exact rfl)) | ((apply H.extract); (iterate 4 exact rfl)))
    refine H.alloc (ls := dV dZ) rfl rfl rfl fun yb => ?_
    repeat (((apply H.assign); (iterate 3 exact rfl)))
    refine H.storeN (ls := dV dZ) (vs := dV dZ) (ls' := dV dZ) rfl rfl rfl (dV_one _) rfl (splice_all rfl) (Nat.le_refl 32) (by repeat (first | exact .here _ _ _ | apply At.there)) ?_
    repeat (first | (refine H.build (out := zeroMV.vals) rfl rfl rfl rfl rfl ?_) | ((apply H.move); (iterate 3 exact rfl)) | (first | apply H.seq | apply H.region | apply H.nil | apply H.then_normal) | ((apply H.cmp); (iterate 5 exact rfl)) | (apply H.pickT; (iterate 4 exact rfl)) | ((apply H.not); (iterate 4 exact rfl)) | (apply H.gyes; (iterate 3 exact rfl); (omega)))
    refine H.callR rfl rfl rfl (ctake_nil f _ (x := zeroMV)) ?_
    repeat (first | ((apply H.move); (iterate 3 exact rfl)) | (apply H.pickT; (iterate 4 exact rfl)) | ((apply H.not); (iterate 4 exact rfl)))
    refine H.callR rfl rfl rfl (cright_nil f _) ?_
    repeat (first | ((apply H.move); (iterate 3 exact rfl)) | (apply H.pickT; (iterate 4 exact rfl)) | ((apply H.not); (iterate 4 exact rfl)))
    refine H.callR rfl rfl rfl (works21_fn f _ htab) ?_
    repeat (first | ((apply H.assign); (iterate 3 exact rfl)) | (first | apply H.nil | apply H.then_normal) | (apply H.pickT; (iterate 4 exact rfl)) | (apply H.ret))
    refine H.drop (x := row xb _ _) (by repeat (first | exact .here _ _ | apply Pull.there)) ?_
    refine H.drop (x := row yb _ _) (by repeat (first | exact .here _ _ | apply Pull.there)) ?_
    exact H.ret1 rfl rfl (fun _ h => h) ⟨rfl, rfl, rfl⟩
end
end Go.Proofs.YtcdpnloeheaclaaDoor

/- Layer 21: CheckQuorums: the plain law. -/
namespace Go.Proofs.YtcdpnloeheaclaaDoor
set_option linter.unusedSectionVars false
set_option linter.unusedSimpArgs false
set_option linter.unusedVariables false
open Go
def gRow (g : Nat → Nat) : List Value := (List.range 96).map fun i => .int .u8 ((g i : Nat) : Int)
def upd (g : Nat → Nat) (i v : Nat) : Nat → Nat := fun j => if j = i then v else g j
theorem gRow_len (g : Nat → Nat) : (gRow g).length = 96 := by unfold gRow; rw [List.length_map, List.length_range]
theorem gRow_get (g : Nat → Nat) {i : Nat} (h : i < 96) : (gRow g)[i]? = some (.int .u8 ((g i : Nat) : Int)) := by
  unfold gRow
  rw [List.getElem?_map, List.getElem?_range h]; rfl
theorem gRow_set (g : Nat → Nat) {i : Nat} (v : Nat) (h : i < 96) : SetV (gRow g) i (.int .u8 ((v : Nat) : Int)) (gRow (upd g i v)) := by
  have e : gRow (upd g i v) = (gRow g).set i (.int .u8 ((v : Nat) : Int)) := by
    apply List.ext_getElem?
    intro j
    rw [List.getElem?_set]
    by_cases e : i = j
    · subst e
      rw [if_pos rfl, if_pos (by rw [gRow_len]; exact h), gRow_get _ h]
      unfold upd
      rw [if_pos rfl]
    · rw [if_neg e]
      by_cases hj : j < 96
      · rw [gRow_get _ hj, gRow_get _ hj]
        unfold upd
        rw [if_neg (fun h => e h.symm)]
      · rw [List.getElem?_eq_none (by rw [gRow_len]; omega), List.getElem?_eq_none (by rw [gRow_len]; omega)]
  rw [e]
  exact SetV.mk _ (by rw [gRow_len]; exact h)
theorem gRow_rd {f : Frag} {A A' : List HP} {b : Nat} {T : TypeId} {g : Nat → Nat} (h : At A (row b T (gRow g)) A' (row b T (gRow g))) {i j : Nat} (hi : i * 8 + j < 96) : Rd1 f A b (0 + i * 8 + j * 1) (.int .u8 ((g (i * 8 + j) : Nat) : Int)) := by
  rw [show 0 + i * 8 + j * 1 = 0 + (i * 8 + j) by omega]
  exact Rd1.of (Rd.ofRow h) (gRow_get g hi)
def dg (e : Nat) : D32 := dOf (dig1 (UInt8.ofNat e))
def dgo : Nat → Option D32
  | 0 => none
  | e + 1 => some (dg e)
theorem dg_inj {a b : Nat} (ha : a < 256) (hb : b < 256) (h : dg a = dg b) : a = b := by
  have h1 : (dg a).1.head? = (dg b).1.head? := by rw [h]
  have h2 : some (UInt8.ofNat a) = some (UInt8.ofNat b) := h1
  have h3 := congrArg UInt8.toNat (Option.some.inj h2)
  rw [UInt8.toNat_ofNat', UInt8.toNat_ofNat'] at h3
  omega
theorem dgo_inj {a b : Nat} (ha : a < 256) (hb : b < 256) (h : dgo a = dgo b) : a = b := by
  cases a with
  | zero => cases b with
    | zero => rfl
    | succ b => cases h
  | succ a => cases b with
    | zero => cases h
    | succ b => rw [dg_inj (by omega) (by omega) (Option.some.inj h)]
abbrev Tri := Nat × Nat × Nat
def fv (e : Tri) : List Value := [.int .i64 ((e.1 : Nat) : Int), .int .u8 ((e.2.1 : Nat) : Int), .int .u8 ((e.2.2 : Nat) : Int)]
theorem fv_len (e : Tri) : (fv e).length = 3 := rfl
/-- A check of a replica is taken: what is known then. -/
theorem take_tld {M : CM} {n : Nat} {o k : Int} {t : Nat → UInt8} (ho : 1 ≤ o ∧ o ≤ n) (hn : n ≤ 11) (hk : 0 ≤ k ∧ k < 8) {o' k' : Int} (hk' : 1 ≤ k') :
    ((o', k') = (o, k) → tld M (o', k') = none → tld (M.take n (oneMV o k t).m).2 (o', k') = some (dOf t)) ∧ ((o', k') ≠ (o, k) ∨ tld M (o', k') ≠ none → tld (M.take n (oneMV o k t).m).2 (o', k') = tld M (o', k')) := by
  by_cases h0 : k = 0
  · have hne : (o', k') ≠ (o, k) := fun h => by cases h; omega
    refine ⟨fun h => absurd h hne, fun _ => ?_⟩
    rcases take_cases M n (oneMV o k t).m with e | ⟨e, _⟩
    · rw [e]
    · have e1 : (oneMV o k t).m.origin = o := (signed_f _).1
      have e2 : (oneMV o k t).m.body.k = k := by
        show (oneM0 o k t).signed.body.k = _
        rw [(signed_f _).2]
        rfl
      rw [e, tld_snoc, e1, e2, if_neg hne, Option.or_none]
  · rw [take_one (by omega) (by omega) ho.2]
    by_cases h : tld M (o, k) = none
    · rw [if_pos h]
      show (_ → _ → tld (M ++ [((o, k), dOf t)]) (o', k') = _) ∧ (_ → tld (M ++ [((o, k), dOf t)]) (o', k') = _)
      rw [tld_snoc]
      refine ⟨fun e hn => by rw [hn, if_pos e]; rfl, fun hh => ?_⟩
      rcases hh with hh | hh
      · rw [if_neg hh, Option.or_none]
      · cases hx : tld M (o', k') with
        | none => exact absurd hx hh
        | some x => rfl
    · rw [if_neg h]
      refine ⟨fun e hn => ?_, fun _ => rfl⟩
      rw [e] at hn
      exact absurd hn h
/-- What the law holds of the first tellings. -/
structure QInv (n : Nat) (g : Nat → Nat) (M : CM) (L : List Tri) : Prop where
  spec : ∀ o k, 1 ≤ o → o ≤ n → 1 ≤ k → k < 8 → tld M (((o : Nat) : Int), ((k : Nat) : Int)) = dgo (g (o * 8 + k))
  ent : ∀ e ∈ L, 1 ≤ e.1 ∧ e.1 ≤ n ∧ e.2.1 < 8 ∧ e.2.2 < 3 ∧ g (e.1 * 8 + e.2.1) = e.2.2 + 1
  has : ∀ o k d, 1 ≤ o → o ≤ n → k < 8 → g (o * 8 + k) = d + 1 → ((o, k, d) : Tri) ∈ L
  small : ∀ i, g i ≤ 3
theorem pair_ne {o k o' k' : Nat} (hk : k < 8) (hk' : k' < 8) (h : ¬ (o' = o ∧ k' = k)) : o' * 8 + k' ≠ o * 8 + k := fun e => h (by omega)
theorem key_eq {o k o' k' : Nat} : (((o' : Nat) : Int), ((k' : Nat) : Int)) = (((o : Nat) : Int), ((k : Nat) : Int)) ↔ o' = o ∧ k' = k := by
  rw [Prod.mk.injEq]
  omega
theorem QInv.new {n : Nat} {g : Nat → Nat} {M : CM} {L : List Tri} (h : QInv n g M L) (hn : n ≤ 11) {o k d : Nat} (ho : 1 ≤ o ∧ o ≤ n) (hk : k < 8) (hd : d < 3) (hg : g (o * 8 + k) = 0) :
    QInv n (upd g (o * 8 + k) (d + 1)) (M.take n (oneMV (o : Nat) (k : Nat) (dig1 (UInt8.ofNat d))).m).2 (L ++ [(o, k, d)]) := by
  refine ⟨fun o' k' h1 h2 h3 h4 => ?_, fun e he => ?_, fun o' k' d' h1 h2 h3 h4 => ?_, fun i => ?_⟩
  · have ht := take_tld (M := M) (n := n) (o := ((o : Nat) : Int)) (k := ((k : Nat) : Int)) (t := dig1 (UInt8.ofNat d)) (by omega) hn (by omega) (o' := ((o' : Nat) : Int)) (k' := ((k' : Nat) : Int)) (by omega)
    by_cases e : o' = o ∧ k' = k
    · rw [ht.1 (key_eq.2 e) (by rw [h.spec o' k' h1 h2 h3 h4, e.1, e.2, hg]; rfl), e.1, e.2]
      unfold upd
      rw [if_pos rfl]
      rfl
    · rw [ht.2 (.inl (fun hh => e (key_eq.1 hh))), h.spec o' k' h1 h2 h3 h4]
      unfold upd
      rw [if_neg (pair_ne hk h4 e)]
  · rw [List.mem_append, List.mem_singleton] at he
    rcases he with he | rfl
    · obtain ⟨a1, a2, a3, a4, a5⟩ := h.ent e he
      refine ⟨a1, a2, a3, a4, ?_⟩
      unfold upd
      rw [if_neg (fun hh => ?_)]
      · exact a5
      · rw [hh, hg] at a5; cases a5
    · refine ⟨ho.1, ho.2, hk, hd, ?_⟩
      unfold upd
      rw [if_pos rfl]
  · rw [List.mem_append, List.mem_singleton]
    by_cases e : o' = o ∧ k' = k
    · right
      unfold upd at h4
      rw [e.1, e.2, if_pos rfl] at h4
      rw [e.1, e.2, show d' = d by omega]
    · left
      unfold upd at h4
      rw [if_neg (pair_ne hk h3 e)] at h4
      exact h.has o' k' d' h1 h2 h3 h4
  · unfold upd
    split
    · omega
    · exact h.small i
theorem QInv.old {n : Nat} {g : Nat → Nat} {M : CM} {L : List Tri} (h : QInv n g M L) (hn : n ≤ 11) {o k d : Nat} (ho : 1 ≤ o ∧ o ≤ n) (hk : k < 8) (hg : g (o * 8 + k) ≠ 0) :
    QInv n g (M.take n (oneMV (o : Nat) (k : Nat) (dig1 (UInt8.ofNat d))).m).2 L := by
  refine ⟨fun o' k' h1 h2 h3 h4 => ?_, h.ent, h.has, h.small⟩
  have ht := take_tld (M := M) (n := n) (o := ((o : Nat) : Int)) (k := ((k : Nat) : Int)) (t := dig1 (UInt8.ofNat d)) (by omega) hn (by omega) (o' := ((o' : Nat) : Int)) (k' := ((k' : Nat) : Int)) (by omega)
  have hs := h.spec o' k' h1 h2 h3 h4
  by_cases e : o' = o ∧ k' = k
  · rw [ht.2 (.inr ?_), hs]
    rw [hs, e.1, e.2]
    cases hx : g (o * 8 + k) with
    | zero => exact absurd hx hg
    | succ x => intro hh; cases hh
  · rw [ht.2 (.inl (fun hh => e (key_eq.1 hh))), hs]
/-- The second checks, behind the tellings from j on. -/
def PS (n : Nat) (g : Nat → Nat) (L : List Tri) (j : Nat) (M : CM) : Prop :=
  ∀ o k, 1 ≤ o → o ≤ n → 1 ≤ k → k < 8 → ((∃ d, ((o, k, d) : Tri) ∈ L.drop j) → tld M (((o : Nat) : Int), ((k : Nat) : Int)) = dgo (g (o * 8 + k))) ∧ ((¬ ∃ d, ((o, k, d) : Tri) ∈ L.drop j) → tld M (((o : Nat) : Int), ((k : Nat) : Int)) = none)
theorem PS.step {n : Nat} {g : Nat → Nat} {L : List Tri} {j : Nat} {M Ma : CM} (q : QInv n g Ma L) (hn : n ≤ 11) (h : PS n g L (j + 1) M) {o k d : Nat} (he : L[j]? = some (o, k, d)) :
    PS n g L j (M.take n (oneMV (o : Nat) (k : Nat) (dig1 (UInt8.ofNat d))).m).2 := by
  obtain ⟨a1, a2, a3, a4, a5⟩ := q.ent _ (List.mem_of_getElem? he)
  have a1 : 1 ≤ o := a1
  have a2 : o ≤ n := a2
  have a3 : k < 8 := a3
  have a5 : g (o * 8 + k) = d + 1 := a5
  obtain ⟨hj, hjj⟩ := List.getElem?_eq_some_iff.1 he
  have hdrop : L.drop j = (o, k, d) :: L.drop (j + 1) := by rw [List.drop_eq_getElem_cons hj, hjj]
  intro o' k' h1 h2 h3 h4
  have ht := take_tld (M := M) (n := n) (o := ((o : Nat) : Int)) (k := ((k : Nat) : Int)) (t := dig1 (UInt8.ofNat d)) (by omega) hn (by omega) (o' := ((o' : Nat) : Int)) (k' := ((k' : Nat) : Int)) (by omega)
  obtain ⟨b1, b2⟩ := h o' k' h1 h2 h3 h4
  rw [hdrop]
  by_cases e : o' = o ∧ k' = k
  · refine ⟨fun _ => ?_, fun hh => absurd ⟨d, by rw [e.1, e.2]; exact List.mem_cons_self⟩ hh⟩
    by_cases hin : ∃ d', ((o', k', d') : Tri) ∈ L.drop (j + 1)
    · have b := b1 hin
      rw [ht.2 (.inr ?_), b]
      rw [b, e.1, e.2, a5]
      intro hh; cases hh
    · rw [ht.1 (key_eq.2 e) (b2 hin), e.1, e.2, a5]
      rfl
  · rw [ht.2 (.inl (fun hh => e (key_eq.1 hh)))]
    refine ⟨fun ⟨d', hd'⟩ => b1 ⟨d', ?_⟩, fun hh => b2 (fun ⟨d', hd'⟩ => hh ⟨d', List.mem_cons_of_mem _ hd'⟩)⟩
    rcases List.mem_cons.1 hd' with hh | hh
    · exact absurd ⟨congrArg (·.1) hh, congrArg (·.2.1) hh⟩ e
    · exact hh
theorem PS.start (n : Nat) (g : Nat → Nat) (L : List Tri) : PS n g L L.length [] := fun o k _ _ _ _ => ⟨(fun ⟨d, hd⟩ => by rw [List.drop_length] at hd; cases hd), (fun _ => rfl)⟩
theorem PS.fin {n : Nat} {g : Nat → Nat} {L : List Tri} {M Ma : CM} (q : QInv n g Ma L) (h : PS n g L 0 M) : ∀ o k, 1 ≤ o → o ≤ n → 1 ≤ k → k < 8 → tld M (((o : Nat) : Int), ((k : Nat) : Int)) = dgo (g (o * 8 + k)) := fun o k h1 h2 h3 h4 => by
  obtain ⟨b1, b2⟩ := h o k h1 h2 h3 h4
  cases hx : g (o * 8 + k) with
  | zero =>
    rw [b2 (fun ⟨d, hd⟩ => ?_)]
    · rfl
    · have := (q.ent _ (List.mem_of_mem_drop hd)).2.2.2.2
      have this : g (o * 8 + k) = d + 1 := this
      omega
  | succ d => rw [b1 ⟨d, q.has o k d h1 h2 h4 hx⟩, hx]
def vts (g : Nat → Nat) (no d : Nat) : Nat → Nat
  | 0 => 0
  | r + 1 => vts g no d r + (if g ((r + 1) * 8 + no) = d then 1 else 0)
def wantTo (g : Nat → Nat) (n no : Nat) : Nat → Nat
  | 0 => 0
  | d + 1 => if (n - 1) / 2 + 1 ≤ vts g no (d + 1) n then d + 1 else wantTo g n no d
theorem vts_le (g : Nat → Nat) (no d : Nat) : ∀ r, vts g no d r ≤ r
  | 0 => Nat.le_refl _
  | r + 1 => by
    have := vts_le g no d r
    show vts g no d r + _ ≤ r + 1
    split <;> omega
theorem wantTo_le (g : Nat → Nat) (n no : Nat) : ∀ d, wantTo g n no d ≤ d
  | 0 => Nat.le_refl _
  | d + 1 => by
    have := wantTo_le g n no d
    show (if (n - 1) / 2 + 1 ≤ vts g no (d + 1) n then d + 1 else wantTo g n no d) ≤ d + 1
    split <;> omega
theorem want_yes (g : Nat → Nat) (n no : Nat) : ∀ d w, wantTo g n no d = w + 1 → (n - 1) / 2 + 1 ≤ vts g no (w + 1) n
  | 0, w, h => by cases h
  | d + 1, w, h => by
    have h : (if (n - 1) / 2 + 1 ≤ vts g no (d + 1) n then d + 1 else wantTo g n no d) = w + 1 := h
    by_cases hh : (n - 1) / 2 + 1 ≤ vts g no (d + 1) n
    · rw [if_pos hh] at h
      rw [show w = d by omega]
      exact hh
    · rw [if_neg hh] at h
      exact want_yes g n no d w h
theorem want_no (g : Nat → Nat) (n no : Nat) : ∀ d, wantTo g n no d = 0 → ∀ e, e < d → vts g no (e + 1) n ≤ (n - 1) / 2
  | 0, _, e, he => absurd he (Nat.not_lt_zero _)
  | d + 1, h, e, he => by
    have h : (if (n - 1) / 2 + 1 ≤ vts g no (d + 1) n then d + 1 else wantTo g n no d) = 0 := h
    by_cases hh : (n - 1) / 2 + 1 ≤ vts g no (d + 1) n
    · rw [if_pos hh] at h; cases h
    · rw [if_neg hh] at h
      by_cases e1 : e = d
      · rw [e1]; omega
      · exact want_no g n no d h e (by omega)
theorem cnt_vts {g : Nat → Nat} {T : Nat → Option D32} {no e : Nat} (hs : ∀ i, g i ≤ 3) (he : e < 3) : ∀ r, (∀ o, 1 ≤ o → o ≤ r → T o = dgo (g (o * 8 + no))) → cnt T (dg e) r = vts g no (e + 1) r
  | 0, _ => rfl
  | r + 1, h => by
    have ih := cnt_vts hs he r (fun o h1 h2 => h o h1 (by omega))
    show cnt T (dg e) r + (if T (r + 1) = some (dg e) then 1 else 0) = vts g no (e + 1) r + (if g ((r + 1) * 8 + no) = e + 1 then 1 else 0)
    rw [ih, h (r + 1) (by omega) (Nat.le_refl _)]
    congr 1
    have hs1 := hs ((r + 1) * 8 + no)
    by_cases hx : g ((r + 1) * 8 + no) = e + 1
    · rw [hx, if_pos (show dgo (e + 1) = some (dg e) from rfl), if_pos rfl]
    · rw [if_neg (show ¬ dgo (g ((r + 1) * 8 + no)) = some (dg e) from fun hh => hx (dgo_inj (b := e + 1) (by omega) (by omega) hh)), if_neg hx]
theorem cnt_other {g : Nat → Nat} {T : Nat → Option D32} {no : Nat} {x : D32} (hs : ∀ i, g i ≤ 3) (hx : ∀ e, e < 3 → x ≠ dg e) : ∀ r, (∀ o, 1 ≤ o → o ≤ r → T o = dgo (g (o * 8 + no))) → cnt T x r = 0
  | 0, _ => rfl
  | r + 1, h => by
    have ih := cnt_other hs hx r (fun o h1 h2 => h o h1 (by omega))
    show cnt T x r + (if T (r + 1) = some x then 1 else 0) = 0
    rw [ih, h (r + 1) (by omega) (Nat.le_refl _), if_neg (fun hh => ?_)]
    have hs1 := hs ((r + 1) * 8 + no)
    cases hg : g ((r + 1) * 8 + no) with
    | zero => rw [hg] at hh; cases hh
    | succ e =>
      rw [hg] at hh
      exact hx e (by omega) (Option.some.inj hh).symm
theorem want_dig {n : Nat} {g : Nat → Nat} {T : Nat → Option D32} {no : Nat} (hodd : n % 2 = 1) (hs : ∀ i, g i ≤ 3) (h : ∀ o, 1 ≤ o → o ≤ n → T o = dgo (g (o * 8 + no))) : digR n T (dgo (wantTo g n no 3)) := by
  cases hw : wantTo g n no 3 with
  | zero =>
    intro x
    by_cases hx : ∃ e, e < 3 ∧ x = dg e
    · obtain ⟨e, he, rfl⟩ := hx
      rw [cnt_vts hs he n h]
      have := want_no g n no 3 hw e he
      omega
    · rw [cnt_other hs (fun e he hh => hx ⟨e, he, hh⟩) n h]
      exact Nat.zero_le _
  | succ w =>
    have h1 := wantTo_le g n no 3
    have h2 := want_yes g n no 3 w hw
    show n / 2 < cnt T (dg w) n
    rw [cnt_vts hs (by omega) n h]
    omega
end Go.Proofs.YtcdpnloeheaclaaDoor

/- Layer 21: CheckQuorums. -/
namespace Go.Proofs.YtcdpnloeheaclaaDoor
set_option linter.unusedSectionVars false
set_option linter.unusedSimpArgs false
set_option linter.unusedVariables false
open Go
def fsl (p : Option Addr) (c : Nat) (L : List Tri) : HP := slc p L.length c 34 3 (L.flatMap fv)
theorem fsl_snoc {p : Option Addr} {c : Nat} {L : List Tri} {e : Tri} : slc p (L.length + 1) c 34 3 (L.flatMap fv ++ fv e) = fsl p c (L ++ [e]) := by
  unfold fsl
  rw [List.length_append, List.flatMap_append, List.flatMap_cons, List.flatMap_nil, List.append_nil]
  rfl
theorem dg_b32 (d : Nat) : dV (dg d) = b32 (dig1 (UInt8.ofNat d)) := (b32_bytes _).symm
theorem u8of {d : Nat} (h : d < 256) : (((UInt8.ofNat d).toNat : Nat) : Int) = ((d : Nat) : Int) := by rw [UInt8.toNat_ofNat', Nat.mod_eq_of_lt h]
theorem one21_fn' (f : Frag) (F : List HP) {o k : Int} {d : Nat} : Fn Tryd.prog 9 [.int .i64 o, .int .u64 k, .agg (b32 (dig1 (UInt8.ofNat d))).toArray] f F (Ret (.agg (oneMV o k (dig1 (UInt8.ofNat d))).vals.toArray) f F) := one21_fn f F
section
variable (f : Frag) (F : List HP)
set_option maxRecDepth 20000 in
set_option maxHeartbeats 6400000 in
theorem checkQuorums_fn (htab : TabAt f) {z : Int} (hz : 0 ≤ z ∧ z ≤ 255) {p : Option Addr} {c : Nat} {xs : List Sd} (hat : ListAt f p 3 Sd.vals xs) (hh : ∀ x ∈ xs, (0 ≤ x.k ∧ x.k ≤ 255) ∧ (0 ≤ x.d ∧ x.d ≤ 255)) :
    Fn Tryd.prog 4 [.int .u8 z, .slice p xs.length c] f F (Ret (.bool true) f F) := by
  by_cases hlen : 100 < xs.length
  · refine Fn.enter Tryd.func4 rfl Tryd.ntmps4 rfl (L := [(0, _), (1, _)]) ⟨rfl, rfl, trivial⟩ fun base => ?_
    repeat (first | ((first | apply H.move | apply H.assign | apply H.len_slice); (iterate 3 exact rfl)) | (first | apply H.seq | apply H.region | apply H.nil | apply H.then_normal) | ((apply H.cmp); (iterate 5 exact rfl)) | (apply H.cond_yes; exact rfl; (omega)))
    refine H.callR rfl rfl rfl (works21_fn f _ htab) ?_
    repeat (first | ((apply H.assign); (iterate 3 exact rfl)) | (first | apply H.nil | apply H.then_normal) | (first | apply H.ret | apply H.then_ret))
    exact H.ret1 rfl rfl (fun _ h => h) ⟨rfl, rfl, rfl⟩
  obtain ⟨n, hn3, hn11, hnodd, hodd⟩ := odd_fn f hz
  have hhalf : IntKind.wrap .i64 (((n - 1 : Nat) : Int).tdiv 2) = (((n - 1) / 2 : Nat) : Int) := by
    rw [show (2 : Int) = ((2 : Nat) : Int) from rfl, tdiv64, wr_i64 (by omega)]
  have hn1 : IntKind.i64.wrap (((n : Nat) : Int) - 1) = ((n - 1 : Nat) : Int) := by rw [wr_i64 (by omega)]; omega
  refine Fn.enter Tryd.func4 rfl Tryd.ntmps4 rfl (L := [(0, _), (1, _)]) ⟨rfl, rfl, trivial⟩ fun base => ?_
  repeat (first | ((first | apply H.move | apply H.assign | apply H.len_slice); (iterate 3 exact rfl)) | (first | apply H.seq | apply H.region | apply H.nil | apply H.then_normal) | ((apply H.cmp); (iterate 5 exact rfl)) | (apply H.skip) | (apply H.cond_no; exact rfl; (omega)))
  refine H.callR rfl rfl rfl (hodd _) ?_
  repeat (first | ((first | apply H.move | apply H.assign); (iterate 3 exact rfl)) | (first | apply H.seq | apply H.region | apply H.nil | apply H.then_normal))
  refine H.callE rfl rfl rfl (cnew_fn f F hn3 hn11 hnodd) fun ca => ?_
  repeat (first | ((first | apply H.move | apply H.assign); (iterate 3 exact rfl)) | (first | apply H.seq | apply H.region | apply H.nil | apply H.then_normal) | ((apply H.extract); (iterate 4 exact rfl)))
  refine H.callE rfl rfl rfl (cnew_fn f _ hn3 hn11 hnodd) fun cb => ?_
  clear hodd
  repeat (first | ((first | apply H.move | apply H.assign); (iterate 3 exact rfl)) | (first | apply H.seq | apply H.region | apply H.nil | apply H.then_normal) | ((apply H.cmp); (iterate 5 exact rfl)) | ((first | apply H.pickF | apply H.extract); (iterate 4 exact rfl)) | ((apply H.ptrNil); (iterate 5 exact rfl)) | (apply H.cond_false; exact rfl) | (apply H.skip))
  refine H.alloc (ls := gRow fun _ => 0) rfl rfl rfl fun gb => ?_
  repeat (first | ((apply H.assign); (iterate 3 exact rfl)) | (first | apply H.seq | apply H.region | apply H.nil | apply H.then_normal) | (apply H.block))
  refine H.slc0 34 3 ?_
  refine H.front (x := row gb _ _) (by repeat (first | exact .here _ _ | apply Pull.there)) ?_
  refine H.front (x := chkH ca _ _) (by repeat (first | exact .here _ _ | apply Pull.there)) ?_
  refine H.loop (ι := Nat × CM × (Nat → Nat) × List Tri × Option Addr × Nat) (fun s => [(12, .int .i64 (s.1 : Int)), (1, .slice p xs.length c), (5, .int .i64 (n : Nat)), (6, .pointer (some ⟨ca, 0, none⟩)), (8, .pointer (some ⟨cb, 0, none⟩)), (10, .pointer (some ⟨gb, 0, none⟩)), (11, .slice s.2.2.2.2.1 s.2.2.2.1.length s.2.2.2.2.2)]) (fun _ => f)
    (fun s => chkH ca n s.2.1 :: row gb 55 (gRow s.2.2.1) :: fsl s.2.2.2.2.1 s.2.2.2.2.2 s.2.2.2.1 :: chkH cb n [] :: F)
    (fun s => s.1 ≤ xs.length ∧ QInv n s.2.2.1 s.2.1 s.2.2.2.1 ∧ s.2.2.2.1.length ≤ s.1) (fun s => xs.length - s.1)
    (0, [], fun _ => 0, [], none, 0) ⟨Nat.zero_le _, ⟨fun o k _ _ _ _ => rfl, fun e he => (by cases he), fun o k d _ _ _ h => (by cases h), fun _ => Nat.zero_le _⟩, Nat.le_refl _⟩ ⟨rfl, rfl, rfl, rfl, rfl, rfl, rfl, trivial⟩ rfl rfl fun s hs => ?_
  obtain ⟨i, M, g, L, lp, lc⟩ := s
  obtain ⟨hi, hq, hL⟩ : i ≤ xs.length ∧ QInv n g M L ∧ L.length ≤ i := hs
  show H _ _ _ [(12, .int .i64 (i : Int)), _, _, _, _, _, (11, .slice lp L.length lc)] _ (chkH ca n M :: row gb _ (gRow g) :: fsl lp lc L :: chkH cb n [] :: F) _
  by_cases hlt : i < xs.length
  · have hx : xs[i]? = some xs[i] := List.getElem?_eq_getElem hlt
    generalize xs[i] = x at hx
    obtain ⟨hxk, hxd⟩ := hh x (List.mem_of_getElem? hx)
    obtain ⟨b0, o0, cs0, T0, fr0, hp0, hf0, hcs0⟩ := hat i x hx
    have rdx : ∀ A, Rd f A b0 (o0 + i * 3) x.vals := fun A => Rd.imm hf0 hcs0
    have rdO : ∀ A, Rd1 f A b0 (o0 + i * 3 + 0) (.int .i64 x.o) := fun A => Rd1.of (rdx A) (i := 0) rfl
    have rdK : ∀ A, Rd1 f A b0 (o0 + i * 3 + 1) (.int .u8 x.k) := fun A => Rd1.of (rdx A) (i := 1) rfl
    have rdD : ∀ A, Rd1 f A b0 (o0 + i * 3 + 2) (.int .u8 x.d) := fun A => Rd1.of (rdx A) (i := 2) rfl
    clear hcs0 hf0 rdx
    subst hp0
    obtain ⟨ku, hku, hku8⟩ := u8_mod (z := x.k) (m := 8) (by decide) hxk.1
    obtain ⟨du, hdu, hdu3⟩ := u8_mod (z := x.d) (m := 3) (by decide) hxd.1
    obtain ⟨kk, hkk⟩ : ∃ kk : Nat, kk = ku.toNat := ⟨_, rfl⟩
    obtain ⟨dd, hdd⟩ : ∃ dd : Nat, dd = du.toNat := ⟨_, rfl⟩
    rw [← hkk] at hku hku8
    rw [← hdd] at hdu hdu3
    have hku : x.k.tmod 8 = ((kk : Nat) : Int) := hku
    have hdu : x.d.tmod 3 = ((dd : Nat) : Int) := hdu
    obtain ⟨mo, hmo⟩ : ∃ mo, (if x.o < 0 then (0 : Int) else x.o) = mo := ⟨_, rfl⟩
    have hmo0 : 0 ≤ mo := by rw [← hmo]; split <;> omega
    obtain ⟨oo, hoo, hoon⟩ : ∃ oo : Nat, mo.tmod ((n : Nat) : Int) = (oo : Int) ∧ oo < n := ⟨mo.toNat % n, by rw [← tmod64, Int.toNat_of_nonneg hmo0], Nat.mod_lt _ (by omega)⟩
    have hconv : IntKind.u64.wrap ((kk : Nat) : Int) = ((kk : Nat) : Int) := wr_u64 (by omega)
    have e1 : IntKind.i64.wrap (1 + (oo : Int)) = ((oo + 1 : Nat) : Int) := by rw [wr_i64 (by omega)]; omega
    have e2 : IntKind.u8.wrap (1 + ((dd : Nat) : Int)) = ((dd + 1 : Nat) : Int) := by rw [wr_u8 (by omega)]; omega
    have hd8 := u8of (d := dd) (by omega)
    have htake := fun G => ctake_fn f G (cb := ca) (n := n) (M := M) (oneMV_good f (o := ((oo + 1 : Nat) : Int)) (k := ((kk : Nat) : Int)) (t := dig1 (UInt8.ofNat dd)) (by omega))
    clear hkk hdd
    repeat (first | (apply H.ar; (iterate 4 exact rfl); exact e1; exact rfl) | ((first | apply H.move | apply H.assign | apply H.len_slice); (iterate 3 exact rfl)) | (apply H.fieldAddr; (iterate 3 exact rfl); exact inferInstance; exact rfl) | (first | apply H.seq | apply H.region | apply H.nil | apply H.then_normal) | ((apply H.cmp); (iterate 5 exact rfl)) | (first | apply H.skip | apply H.block) | (apply H.cond_yes; exact rfl; (omega)) | (refine H.index_slice (i := i) rfl rfl rfl rfl hlt rfl ?_) | (refine H.load1 rfl rfl rfl (rdO _) rfl ?_) | (refine H.max2 rfl rfl rfl hmo rfl ?_) | (refine H.rem rfl rfl rfl (by omega) hoo rfl ?_))
    refine H.drawB (by kernel_rfl) (by decide +kernel) (by first | exact blind_fn | exact blind_seq blind_fn | exact blind_seq (blind_seq blind_fn) | (repeat (first | exact blind_fn | refine blind_seq ?_ | refine blind_block ?_ | refine blind_loop ?_))) (S := []) rfl ?_
    refine HB.quiet [(0, false), (1, false), (2, false), (3, false), (4, false), (5, false), (6, false), (7, false), (8, false), (9, false), (10, false), (11, false), (12, false), (13, false)] 2 (by kernel_rfl) ?_
    repeat (first | ((apply HQ.move); (iterate 3 exact rfl)) | (apply HQ.fieldAddr; (iterate 3 exact rfl); exact inferInstance; exact rfl) | ((first | apply HQ.cmp | apply HQ.build); (iterate 5 exact rfl)) | (refine HQ.index_slice (i := i) rfl rfl rfl rfl hlt rfl ?_) | (refine HQ.load1 rfl rfl rfl (rdK _) rfl ?_) | (refine HQ.load1 rfl rfl rfl (rdD _) rfl ?_) | (refine HQ.rem rfl rfl rfl (by decide) hku rfl ?_) | (refine HQ.rem rfl rfl rfl (by decide) hdu rfl ?_))
    refine HQ.more rfl ?_
    refine HB.ev1 (i := 14) (by kernel_rfl) rfl ?_
    refine H.alloc (ls := fv (0, 0, 0)) rfl rfl rfl fun xb => ?_
    repeat ((apply H.nil))
    refine H.on0 rfl ?_
    refine HB.ev1 (i := 15) (by kernel_rfl) rfl ?_
    refine H.storeN (ls := fv (0, 0, 0)) (vs := fv (oo + 1, kk, dd)) (ls' := fv (oo + 1, kk, dd)) rfl rfl rfl (allOne_mem rfl) rfl rfl (Nat.le_refl 3) (by repeat (first | exact .here _ _ _ | apply At.there)) ?_
    repeat ((apply H.nil))
    refine H.on0 rfl ?_
    refine HB.done (by kernel_rfl) ?_
    repeat (first | (refine H.conv_int rfl rfl hconv rfl ?_) | ((apply H.move); (iterate 3 exact rfl)) | (apply H.fieldAddr; (iterate 3 exact rfl); exact inferInstance; exact rfl) | (apply H.load1; (iterate 3 exact rfl); apply Rd1.ofRow; (repeat (exact .here _ _ _)); (iterate 2 exact rfl)) | (first | apply H.seq | apply H.region | apply H.then_normal))
    rw [← hd8]
    refine H.buildA (out := b32 (dig1 (UInt8.ofNat dd))) rfl rfl rfl rfl rfl ?_
    refine H.callR rfl rfl rfl (one21_fn f _ (o := ((oo + 1 : Nat) : Int)) (k := ((kk : Nat) : Int)) (t := dig1 (UInt8.ofNat dd))) ?_
    refine H.front (x := chkH ca _ _) (by repeat (first | exact .here _ _ | apply Pull.there)) ?_
    refine H.callR rfl rfl rfl (htake _) ?_
    clear htake
    refine H.front (x := row xb _ _) (by repeat (first | exact .here _ _ | apply Pull.there)) ?_
    by_cases hg0 : g ((oo + 1) * 8 + kk) = 0
    · have hq2 := hq.new hn11 (o := oo + 1) (k := kk) (d := dd) (by omega) hku8 hdu3 hg0
      generalize (M.take n (oneMV ((oo + 1 : Nat) : Int) ((kk : Nat) : Int) (dig1 (UInt8.ofNat dd))).m).2 = M2 at hq2 ⊢
      generalize (M.take n (oneMV ((oo + 1 : Nat) : Int) ((kk : Nat) : Int) (dig1 (UInt8.ofNat dd))).m).1 = took
      have hset := gRow_set g (i := (oo + 1) * 8 + kk) (dd + 1) (by omega)
      repeat ((first | apply H.seq | apply H.nil | apply H.then_normal))
      refine H.drawQ (by kernel_rfl) (by decide +kernel) (by first | exact blind_fn | exact blind_seq blind_fn | exact blind_seq (blind_seq blind_fn) | (repeat (first | exact blind_fn | refine blind_seq ?_ | refine blind_block ?_ | refine blind_loop ?_))) ?_
      repeat (first | ((apply HQ.move); (iterate 3 exact rfl)) | (apply HQ.fieldAddr; (iterate 3 exact rfl); exact inferInstance; exact rfl) | (apply HQ.load1; (iterate 3 exact rfl); apply Rd1.ofRow; (repeat (first | exact .here _ _ _ | apply At.there)); (iterate 2 exact rfl)) | ((apply HQ.done0); exact rfl) | ((apply HQ.cmp); (iterate 5 exact rfl)) | (apply HQ.index_array (i := oo + 1); (iterate 3 exact rfl); exact rfl; omega; exact rfl) | (apply HQ.index_array (i := kk); (iterate 3 exact rfl); exact rfl; omega; exact rfl) | (refine HQ.load1 rfl rfl rfl (gRow_rd (by repeat (first | exact .here _ _ _ | apply At.there)) (by omega)) rfl ?_))
      repeat (first | (first | apply H.seq | apply H.then_normal) | (apply H.cond_yes; exact rfl; (omega)))
      refine H.drawB (by kernel_rfl) (by decide +kernel) (by first | exact blind_fn | exact blind_seq blind_fn | exact blind_seq (blind_seq blind_fn) | (repeat (first | exact blind_fn | refine blind_seq ?_ | refine blind_block ?_ | refine blind_loop ?_))) (S := [_]) rfl ?_
      refine HB.quiet [(0, false), (1, false), (2, false), (3, false), (4, false), (5, false), (6, false), (7, false)] 1 (by kernel_rfl) ?_
      repeat (first | (apply HQ.ar; (iterate 4 exact rfl); exact e2; exact rfl) | ((apply HQ.move); (iterate 3 exact rfl)) | (apply HQ.fieldAddr; (iterate 3 exact rfl); exact inferInstance; exact rfl) | (apply HQ.load1; (iterate 3 exact rfl); apply Rd1.ofRow; (repeat (exact .here _ _ _)); (iterate 2 exact rfl)) | (apply HQ.index_array (i := oo + 1); (iterate 3 exact rfl); exact rfl; omega; exact rfl) | (apply HQ.index_array (i := kk); (iterate 3 exact rfl); exact rfl; omega; exact rfl))
      refine HQ.more rfl ?_
      refine HB.ev1 (i := 8) (by kernel_rfl) rfl ?_
      refine H.store1 (v := .int .u8 ((dd + 1 : Nat) : Int)) (ls' := gRow (upd g ((oo + 1) * 8 + kk) (dd + 1))) rfl rfl rfl rfl (by repeat (first | exact .here _ _ _ | apply At.there)) (by rw [show 0 + (oo + 1) * 8 + kk * 1 = (oo + 1) * 8 + kk by omega]; exact hset) ?_
      repeat ((apply H.nil))
      refine H.on0 rfl ?_
      refine HB.done (by kernel_rfl) ?_
      repeat (first | ((apply H.move); (iterate 3 exact rfl)) | (first | apply H.region | apply H.then_normal))
      refine H.loadN (ls := fv (oo + 1, kk, dd)) rfl rfl rfl (Rd.ofRow (by repeat (first | exact .here _ _ _ | apply At.there))) rfl rfl ?_
      refine H.buildSlice (out := fv (oo + 1, kk, dd)) rfl rfl rfl rfl (by decide) (by decide) rfl rfl fun eb => ?_
      refine H.front (x := fsl _ _ _) (by repeat (first | exact .here _ _ | apply Pull.there)) ?_
      show H _ _ _ _ _ (slc lp L.length lc _ 3 (L.flatMap fv) :: _) _
      refine H.append (sz := 3) (xs := L.flatMap fv) (news := fv (oo + 1, kk, dd)) rfl rfl rfl rfl rfl (fun p' c' => .here _ _ _) (Src.slice (m := 1) (Rd.ofRow (by repeat (first | exact .here _ _ _ | apply At.there))) rfl) (allOne_mem rfl) rfl (by omega) (by omega) fun p' c' => ?_
      rw [fsl_snoc]
      repeat (first | ((first | apply H.move | apply H.assign); (iterate 3 exact rfl)) | (first | apply H.region | apply H.nil | apply H.then_normal) | ((apply H.ar; (iterate 4 exact rfl)); (with_reducible apply wr_i64_n1; omega); exact rfl) | (apply H.in_normal))
      refine H.drop (x := row eb _ _) (by repeat (first | exact .here _ _ | apply Pull.there)) ?_
      refine H.drop (x := row xb _ _) (by repeat (first | exact .here _ _ | apply Pull.there)) ?_
      refine H.front (x := row gb _ _) (by repeat (first | exact .here _ _ | apply Pull.there)) ?_
      refine H.front (x := chkH ca _ _) (by repeat (first | exact .here _ _ | apply Pull.there)) ?_
      exact H.again (i + 1, M2, upd g ((oo + 1) * 8 + kk) (dd + 1), L ++ [(oo + 1, kk, dd)], p', c') ⟨by show i + 1 ≤ xs.length; omega, hq2, by show (L ++ [(oo + 1, kk, dd)]).length ≤ i + 1; rw [List.length_append]; show L.length + 1 ≤ i + 1; omega⟩ (by show xs.length - (i + 1) < xs.length - i; omega) ⟨rfl, rfl, rfl, rfl, rfl, rfl, by show some (Value.slice p' (L.length + 1) c') = some (Value.slice p' (L ++ [((oo + 1, kk, dd) : Tri)]).length c'); rw [List.length_append]; rfl, trivial⟩ rfl rfl
    · have hq2 := hq.old hn11 (o := oo + 1) (k := kk) (d := dd) (by omega) hku8 hg0
      generalize (M.take n (oneMV ((oo + 1 : Nat) : Int) ((kk : Nat) : Int) (dig1 (UInt8.ofNat dd))).m).2 = M2 at hq2 ⊢
      generalize (M.take n (oneMV ((oo + 1 : Nat) : Int) ((kk : Nat) : Int) (dig1 (UInt8.ofNat dd))).m).1 = took
      repeat ((first | apply H.seq | apply H.nil | apply H.then_normal))
      refine H.drawQ (by kernel_rfl) (by decide +kernel) (by first | exact blind_fn | exact blind_seq blind_fn | exact blind_seq (blind_seq blind_fn) | (repeat (first | exact blind_fn | refine blind_seq ?_ | refine blind_block ?_ | refine blind_loop ?_))) ?_
      repeat (first | ((apply HQ.move); (iterate 3 exact rfl)) | (apply HQ.fieldAddr; (iterate 3 exact rfl); exact inferInstance; exact rfl) | (apply HQ.load1; (iterate 3 exact rfl); apply Rd1.ofRow; (repeat (first | exact .here _ _ _ | apply At.there)); (iterate 2 exact rfl)) | ((apply HQ.done0); exact rfl) | ((apply HQ.cmp); (iterate 5 exact rfl)) | (apply HQ.index_array (i := oo + 1); (iterate 3 exact rfl); exact rfl; omega; exact rfl) | (apply HQ.index_array (i := kk); (iterate 3 exact rfl); exact rfl; omega; exact rfl) | (refine HQ.load1 rfl rfl rfl (gRow_rd (by repeat (first | exact .here _ _ _ | apply At.there)) (by omega)) rfl ?_))
      repeat (first | ((first | apply H.move | apply H.assign); (iterate 3 exact rfl)) | (first | apply H.region | apply H.nil | apply H.then_normal) | ((apply H.ar; (iterate 4 exact rfl)); (with_reducible apply wr_i64_n1; omega); exact rfl) | (first | apply H.skip | apply H.in_normal) | (apply H.cond_no; exact rfl; (omega)))
      refine H.drop (x := row xb _ _) (by repeat (first | exact .here _ _ | apply Pull.there)) ?_
      exact H.again (i + 1, M2, g, L, lp, lc) ⟨by show i + 1 ≤ xs.length; omega, hq2, by show L.length ≤ i + 1; omega⟩ (by show xs.length - (i + 1) < xs.length - i; omega) ⟨rfl, rfl, rfl, rfl, rfl, rfl, rfl, trivial⟩ rfl rfl
  · clear hat
    have hl1 : IntKind.i64.wrap (((L.length : Nat) : Int) - 1) = ((L.length : Nat) : Int) - 1 := wr_i64 (by omega)
    repeat (first | (apply H.ar; (iterate 4 exact rfl); exact hl1; exact rfl) | ((first | apply H.move | apply H.assign | apply H.len_slice); (iterate 3 exact rfl)) | (first | apply H.seq | apply H.region | apply H.nil | apply H.then_normal) | ((apply H.cmp); (iterate 5 exact rfl)) | (first | apply H.then_exit | apply H.exit | apply H.block | apply H.in_hit | apply H.loop_exit) | (apply H.cond_no; exact rfl; (omega)))
    refine H.front (x := chkH cb _ _) (by repeat (first | exact .here _ _ | apply Pull.there)) ?_
    refine H.front (x := fsl _ _ _) (by repeat (first | exact .here _ _ | apply Pull.there)) ?_
    refine H.loop (ι := Nat × CM) (fun s => [(15, .int .i64 ((s.1 : Int) - 1)), (5, .int .i64 (n : Nat)), (6, .pointer (some ⟨ca, 0, none⟩)), (8, .pointer (some ⟨cb, 0, none⟩)), (10, .pointer (some ⟨gb, 0, none⟩)), (11, .slice lp L.length lc)]) (fun _ => f)
      (fun s => fsl lp lc L :: chkH cb n s.2 :: chkH ca n M :: row gb 55 (gRow g) :: F) (fun s => s.1 ≤ L.length ∧ PS n g L s.1 s.2) (fun s => s.1) (L.length, []) ⟨Nat.le_refl _, PS.start n g L⟩ ⟨rfl, rfl, rfl, rfl, rfl, rfl, trivial⟩ rfl rfl fun s hs => ?_
    obtain ⟨j, Mb⟩ := s
    obtain ⟨hj, hps⟩ : j ≤ L.length ∧ PS n g L j Mb := hs
    show H _ _ _ [(15, .int .i64 ((j : Int) - 1)), _, _, _, _, _] _ (fsl lp lc L :: chkH cb n Mb :: _) _
    cases j with
    | succ j =>
      obtain ⟨e, he⟩ : ∃ e, L[j]? = some e := ⟨_, List.getElem?_eq_getElem (show j < L.length from hj)⟩
      obtain ⟨o, k, d⟩ := e
      obtain ⟨a1, a2, a3, a4, _⟩ := hq.ent _ (List.mem_of_getElem? he)
      have a1 : 1 ≤ o := a1
      have a2 : o ≤ n := a2
      have a3 : k < 8 := a3
      have a4 : d < 3 := a4
      have hps2 := hps.step hq hn11 he
      have hconv : IntKind.u64.wrap ((k : Nat) : Int) = ((k : Nat) : Int) := wr_u64 (by omega)
      have hv2 : (fv (o, k, d))[2]? = some (.int .u8 (((UInt8.ofNat d).toNat : Nat) : Int)) := by rw [u8of (by omega)]; rfl
      have e3 : IntKind.i64.wrap ((((j + 1 : Nat) : Int) - 1) - 1) = (j : Int) - 1 := by rw [wr_i64 (by omega)]; omega
      have htake := fun G => ctake_fn f G (cb := cb) (n := n) (M := Mb) (oneMV_good f (o := ((o : Nat) : Int)) (k := ((k : Nat) : Int)) (t := dig1 (UInt8.ofNat d)) (by omega))
      generalize (Mb.take n (oneMV ((o : Nat) : Int) ((k : Nat) : Int) (dig1 (UInt8.ofNat d))).m).2 = Mb2 at hps2 htake
      generalize (Mb.take n (oneMV ((o : Nat) : Int) ((k : Nat) : Int) (dig1 (UInt8.ofNat d))).m).1 = took at htake
      show H _ _ _ _ _ (slc lp L.length lc _ 3 (L.flatMap fv) :: _) _
      refine H.slc_some (.here _ _ _) (by omega) fun wb hwb => ?_
      subst hwb
      repeat (first | ((apply H.move); (iterate 3 exact rfl)) | (first | apply H.seq | apply H.region | apply H.nil | apply H.then_normal) | ((apply H.cmp); (iterate 5 exact rfl)) | (first | apply H.skip | apply H.block) | (apply H.cond_yes; exact rfl; (omega)))
      refine H.drawB (by kernel_rfl) (by decide +kernel) (by first | exact blind_fn | exact blind_seq blind_fn | exact blind_seq (blind_seq blind_fn) | (repeat (first | exact blind_fn | refine blind_seq ?_ | refine blind_block ?_ | refine blind_loop ?_))) (S := [_]) rfl ?_
      refine HB.quiet [(0, false), (1, false), (2, false), (3, false), (4, false), (5, false), (6, false), (7, false), (8, false), (9, false), (10, false), (11, false), (12, false), (13, false), (14, false), (15, false), (16, false), (17, false)] 2 (by kernel_rfl) ?_
      repeat (first | (refine HQ.conv_int rfl rfl hconv rfl ?_) | ((apply HQ.move); (iterate 3 exact rfl)) | (apply HQ.fieldAddr; (iterate 3 exact rfl); exact inferInstance; exact rfl) | (apply HQ.index0 (i := j); (iterate 3 exact rfl); omega; exact hj; exact rfl) | (apply HQ.load1; (iterate 3 exact rfl); exact Rd1.of (i := 0) (Rd.slcElem fv_len (by decide) (by repeat (first | exact .here _ _ _ | apply At.there)) he) rfl; exact rfl) | (apply HQ.load1; (iterate 3 exact rfl); exact Rd1.of (i := 1) (Rd.slcElem fv_len (by decide) (by repeat (first | exact .here _ _ _ | apply At.there)) he) rfl; exact rfl) | (apply HQ.load1; (iterate 3 exact rfl); exact Rd1.of (i := 2) (Rd.slcElem fv_len (by decide) (by repeat (first | exact .here _ _ _ | apply At.there)) he) hv2; exact rfl) | (refine HQ.buildA (out := b32 (dig1 (UInt8.ofNat d))) rfl rfl rfl rfl rfl ?_))
      refine HQ.more rfl ?_
      refine HB.ev1 (i := 18) (by kernel_rfl) rfl ?_
      refine H.callR rfl rfl rfl (one21_fn f _ (o := ((o : Nat) : Int)) (k := ((k : Nat) : Int)) (t := dig1 (UInt8.ofNat d))) ?_
      repeat ((apply H.nil))
      refine H.on0 rfl ?_
      refine HB.ev1 (i := 19) (by kernel_rfl) rfl ?_
      refine H.front (x := chkH cb _ _) (by repeat (first | exact .here _ _ | apply Pull.there)) ?_
      refine H.callR rfl rfl rfl (htake _) ?_
      refine H.front (x := slc _ _ _ _ _ _) (by repeat (first | exact .here _ _ | apply Pull.there)) ?_
      repeat ((apply H.nil))
      refine H.on0 rfl ?_
      refine HB.done (by kernel_rfl) ?_
      repeat (first | (apply H.ar; (iterate 4 exact rfl); exact e3; exact rfl) | ((first | apply H.move | apply H.assign); (iterate 3 exact rfl)) | (first | apply H.region | apply H.nil | apply H.then_normal) | (apply H.in_normal))
      exact H.again (j, Mb2) ⟨by show j ≤ L.length; omega, hps2⟩ (Nat.lt_succ_self j) ⟨rfl, rfl, rfl, rfl, rfl, rfl, trivial⟩ rfl rfl
    | zero =>
      have hspec := hps.fin hq
      have hsmall := hq.small
      have hspa := hq.spec
      clear hps hq hj
      repeat (first | ((first | apply H.move | apply H.assign); (iterate 3 exact rfl)) | (first | apply H.seq | apply H.region | apply H.nil | apply H.then_normal) | ((apply H.cmp); (iterate 5 exact rfl)) | (apply H.cond_false; exact rfl) | (first | apply H.then_exit | apply H.exit | apply H.block | apply H.in_hit | apply H.loop_exit))
      refine H.drop (x := fsl _ _ _) (by repeat (first | exact .here _ _ | apply Pull.there)) ?_
      refine H.loop (ι := Nat) (fun no => [(16, .int .i64 (no : Int)), (5, .int .i64 (n : Nat)), (6, .pointer (some ⟨ca, 0, none⟩)), (8, .pointer (some ⟨cb, 0, none⟩)), (10, .pointer (some ⟨gb, 0, none⟩))]) (fun _ => f)
        (fun _ => chkH cb n Mb :: chkH ca n M :: row gb 55 (gRow g) :: F) (fun no => 1 ≤ no ∧ no ≤ 8) (fun no => 8 - no) 1 ⟨Nat.le_refl _, by decide⟩ ⟨rfl, rfl, rfl, rfl, rfl, trivial⟩ rfl rfl fun no hno => ?_
      obtain ⟨hno1, hno8⟩ : 1 ≤ no ∧ no ≤ 8 := hno
      by_cases hlt8 : no < 8
      · have hda : digR n (tells M (no : Int)) (dgo (wantTo g n no 3)) := want_dig hnodd hsmall (fun o h1 h2 => hspa o no h1 h2 hno1 hlt8)
        have hdb : digR n (tells Mb (no : Int)) (dgo (wantTo g n no 3)) := want_dig hnodd hsmall (fun o h1 h2 => hspec o no h1 h2 hno1 hlt8)
        repeat (first | ((first | apply H.move | apply H.assign); (iterate 3 exact rfl)) | (first | apply H.seq | apply H.region | apply H.nil | apply H.then_normal) | ((apply H.cmp); (iterate 5 exact rfl)) | (first | apply H.skip | apply H.block) | (apply H.cond_yes; exact rfl; (omega)))
        refine H.loop (ι := Nat) (fun d => [(18, .int .u8 ((d + 1 : Nat) : Int)), (17, .int .u8 ((wantTo g n no d : Nat) : Int)), (16, .int .i64 (no : Int)), (5, .int .i64 (n : Nat)), (6, .pointer (some ⟨ca, 0, none⟩)), (8, .pointer (some ⟨cb, 0, none⟩)), (10, .pointer (some ⟨gb, 0, none⟩))]) (fun _ => f)
          (fun _ => chkH cb n Mb :: chkH ca n M :: row gb 55 (gRow g) :: F) (fun d => d ≤ 3) (fun d => 3 - d) 0 (Nat.zero_le _) ⟨rfl, rfl, rfl, rfl, rfl, rfl, rfl, trivial⟩ rfl rfl fun d hd => ?_
        have hd : d ≤ 3 := hd
        by_cases hd3 : d < 3
        · skip
          repeat (first | ((first | apply H.move | apply H.assign); (iterate 3 exact rfl)) | (first | apply H.seq | apply H.region | apply H.nil | apply H.then_normal) | ((apply H.cmp); (iterate 5 exact rfl)) | (first | apply H.skip | apply H.block) | (apply H.cond_yes; exact rfl; (omega)))
          refine H.loop (ι := Nat) (fun r => [(20, .int .i64 ((r + 1 : Nat) : Int)), (19, .int .i64 ((vts g no (d + 1) r : Nat) : Int)), (18, .int .u8 ((d + 1 : Nat) : Int)), (17, .int .u8 ((wantTo g n no d : Nat) : Int)), (16, .int .i64 (no : Int)), (5, .int .i64 (n : Nat)), (6, .pointer (some ⟨ca, 0, none⟩)), (8, .pointer (some ⟨cb, 0, none⟩)), (10, .pointer (some ⟨gb, 0, none⟩))]) (fun _ => f)
            (fun _ => chkH cb n Mb :: chkH ca n M :: row gb 55 (gRow g) :: F) (fun r => r ≤ n) (fun r => n - r) 0 (Nat.zero_le _) ⟨rfl, rfl, rfl, rfl, rfl, rfl, rfl, rfl, rfl, trivial⟩ rfl rfl fun r hr => ?_
          have hr : r ≤ n := hr
          have hvl := vts_le g no (d + 1) r
          by_cases hrn : r < n
          · by_cases hv : g ((r + 1) * 8 + no) = d + 1
            · have hv2 : vts g no (d + 1) (r + 1) = vts g no (d + 1) r + 1 := by show vts g no (d + 1) r + (if g ((r + 1) * 8 + no) = d + 1 then 1 else 0) = _; rw [if_pos hv]
              repeat (first | ((first | apply H.move | apply H.assign); (iterate 3 exact rfl)) | (first | apply H.seq | apply H.region | apply H.nil | apply H.then_normal) | ((apply H.cmp); (iterate 5 exact rfl)) | ((apply H.ar; (iterate 4 exact rfl)); (with_reducible apply wr_i64_n1; omega); exact rfl) | (first | apply H.skip | apply H.block | apply H.in_normal) | (apply H.cond_yes; exact rfl; (omega)) | (apply H.index_array (i := r + 1); (iterate 3 exact rfl); exact rfl; omega; exact rfl) | (apply H.index_array (i := no); (iterate 3 exact rfl); exact rfl; omega; exact rfl) | (refine H.load1 rfl rfl rfl (gRow_rd (by repeat (first | exact .here _ _ _ | apply At.there)) (by omega)) rfl ?_))
              exact H.again (r + 1) (by show r + 1 ≤ n; omega) (by show n - (r + 1) < n - r; omega) ⟨rfl, by rw [hv2]; rfl, rfl, rfl, rfl, rfl, rfl, rfl, rfl, trivial⟩ rfl rfl
            · have hv2 : vts g no (d + 1) (r + 1) = vts g no (d + 1) r := by show vts g no (d + 1) r + (if g ((r + 1) * 8 + no) = d + 1 then 1 else 0) = _; rw [if_neg hv]; rfl
              repeat (first | ((first | apply H.move | apply H.assign); (iterate 3 exact rfl)) | (first | apply H.seq | apply H.region | apply H.nil | apply H.then_normal) | ((apply H.cmp); (iterate 5 exact rfl)) | ((apply H.ar; (iterate 4 exact rfl)); (with_reducible apply wr_i64_n1; omega); exact rfl) | (first | apply H.skip | apply H.block | apply H.in_normal) | (apply H.cond_yes; exact rfl; (omega)) | (apply H.cond_no; exact rfl; (omega)) | (apply H.index_array (i := r + 1); (iterate 3 exact rfl); exact rfl; omega; exact rfl) | (apply H.index_array (i := no); (iterate 3 exact rfl); exact rfl; omega; exact rfl) | (refine H.load1 rfl rfl rfl (gRow_rd (by repeat (first | exact .here _ _ _ | apply At.there)) (by omega)) rfl ?_))
              exact H.again (r + 1) (by show r + 1 ≤ n; omega) (by show n - (r + 1) < n - r; omega) ⟨rfl, by rw [hv2]; rfl, rfl, rfl, rfl, rfl, rfl, rfl, rfl, trivial⟩ rfl rfl
          · have hrn2 : r = n := by omega
            subst hrn2
            by_cases hmaj : (r - 1) / 2 + 1 ≤ vts g no (d + 1) r
            · have hw : wantTo g r no (d + 1) = d + 1 := if_pos hmaj
              repeat (first | (apply H.ar; (iterate 4 exact rfl); exact hn1; exact rfl) | ((first | apply H.move | apply H.assign); (iterate 3 exact rfl)) | (first | apply H.seq | apply H.region | apply H.nil | apply H.then_normal) | ((apply H.cmp); (iterate 5 exact rfl)) | ((apply H.ar; (iterate 4 exact rfl)); (first | (with_reducible apply wr_i64_n1; omega) | (with_reducible apply wr_u8; omega)); exact rfl) | (first | apply H.then_exit | apply H.exit | apply H.in_normal | apply H.in_hit | apply H.loop_exit) | (apply H.cond_yes; exact rfl; (omega)) | (apply H.cond_no; exact rfl; (omega)) | (refine H.quo rfl rfl rfl (by decide) hhalf rfl ?_))
              exact H.again (d + 1) (by show d + 1 ≤ 3; omega) (by show 3 - (d + 1) < 3 - d; omega) ⟨rfl, by rw [hw]; rfl, rfl, rfl, rfl, rfl, rfl, trivial⟩ rfl rfl
            · have hw : wantTo g r no (d + 1) = wantTo g r no d := if_neg hmaj
              repeat (first | (apply H.ar; (iterate 4 exact rfl); exact hn1; exact rfl) | ((first | apply H.move | apply H.assign); (iterate 3 exact rfl)) | (first | apply H.seq | apply H.region | apply H.nil | apply H.then_normal) | ((apply H.cmp); (iterate 5 exact rfl)) | ((apply H.ar; (iterate 4 exact rfl)); (first | (with_reducible apply wr_i64_n1; omega) | (with_reducible apply wr_u8; omega)); exact rfl) | (first | apply H.skip | apply H.then_exit | apply H.exit | apply H.in_normal | apply H.in_hit | apply H.loop_exit) | (apply H.cond_no; exact rfl; (omega)) | (refine H.quo rfl rfl rfl (by decide) hhalf rfl ?_))
              exact H.again (d + 1) (by show d + 1 ≤ 3; omega) (by show 3 - (d + 1) < 3 - d; omega) ⟨rfl, by rw [hw]; rfl, rfl, rfl, rfl, rfl, rfl, trivial⟩ rfl rfl
        · have hd33 : d = 3 := by omega
          subst hd33
          have hwl := wantTo_le g n no 3
          generalize wantTo g n no 3 = W at hda hdb hwl ⊢
          repeat (first | ((apply H.move); (iterate 3 exact rfl)) | (first | apply H.seq | apply H.region | apply H.nil | apply H.then_normal) | ((apply H.cmp); (iterate 5 exact rfl)) | ((apply H.conv_int; (iterate 2 exact rfl)); (with_reducible apply wr_u64; omega); exact rfl) | (apply H.cond_false; exact rfl) | (first | apply H.then_exit | apply H.exit | apply H.in_hit | apply H.loop_exit))
          refine H.front (x := chkH ca _ _) (by repeat (first | exact .here _ _ | apply Pull.there)) ?_
          refine H.callP rfl rfl rfl (cdig_fn f _ hn11) fun o ho => ?_
          obtain rfl := digR_one ho hda
          clear ho
          repeat (first | ((apply H.move); (iterate 3 exact rfl)) | ((apply H.extract); (iterate 4 exact rfl)))
          refine H.alloc (ls := dV dZ) rfl rfl rfl fun xb => ?_
          refine H.storeN (ls := dV dZ) (vs := dV ((dgo W).getD dZ)) (ls' := dV ((dgo W).getD dZ)) rfl rfl rfl (dV_one _) (dV_len _) (splice_all (by rw [dV_len, dV_len])) (by rw [dV_len, dV_len]; decide) (by repeat (first | exact .here _ _ _ | apply At.there)) ?_
          repeat (first | ((first | apply H.move | apply H.assign); (iterate 3 exact rfl)) | (first | apply H.seq | apply H.region | apply H.nil | apply H.then_normal) | ((apply H.conv_int; (iterate 2 exact rfl)); (with_reducible apply wr_u64; omega); exact rfl))
          refine H.front (x := chkH cb _ _) (by repeat (first | exact .here _ _ | apply Pull.there)) ?_
          refine H.callP rfl rfl rfl (cdig_fn f _ hn11) fun o ho => ?_
          obtain rfl := digR_one ho hdb
          clear ho
          repeat (first | ((apply H.move); (iterate 3 exact rfl)) | ((apply H.extract); (iterate 4 exact rfl)))
          refine H.alloc (ls := dV dZ) rfl rfl rfl fun yb => ?_
          refine H.storeN (ls := dV dZ) (vs := dV ((dgo W).getD dZ)) (ls' := dV ((dgo W).getD dZ)) rfl rfl rfl (dV_one _) (dV_len _) (splice_all (by rw [dV_len, dV_len])) (by rw [dV_len, dV_len]; decide) (by repeat (first | exact .here _ _ _ | apply At.there)) ?_
          clear hda hdb
          cases W with
          | zero =>
            have heq : eqC (dV dZ) (dV dZ) = true := by unfold dV; rw [eqC_bytes]; exact decide_eq_true rfl
            show H _ _ _ _ _ (row yb _ (dV dZ) :: _) _
            repeat (first | (refine H.bne (b := false) rfl rfl rfl rfl rfl rfl ?_) | (refine H.loadN (ls := dV dZ) rfl rfl rfl (Rd.ofRow (by repeat (first | exact .here _ _ _ | apply At.there))) rfl rfl ?_) | ((first | apply H.move | apply H.assign); (iterate 3 exact rfl)) | (first | apply H.seq | apply H.region | apply H.nil | apply H.then_normal) | ((apply H.cmp); (iterate 5 exact rfl)) | ((apply H.ar; (iterate 4 exact rfl)); (with_reducible apply wr_i64_n1; omega); exact rfl) | (apply H.pass; (iterate 2 exact rfl)) | ((apply H.pickF); (iterate 4 exact rfl)) | (apply H.cond_false; exact rfl) | (first | apply H.skip | apply H.in_normal) | (refine H.aggNe (xs := dV dZ) (ys := dV dZ) (b := false) (D := 4) rfl rfl rfl rfl (by kernel_rfl) (dV_shp _) (dV_shp _) (by kernel_rfl) (by decide) (by rw [heq]; rfl) rfl ?_))
            refine H.drop (x := row xb _ _) (by repeat (first | exact .here _ _ | apply Pull.there)) ?_
            refine H.drop (x := row yb _ _) (by repeat (first | exact .here _ _ | apply Pull.there)) ?_
            exact H.again (no + 1) ⟨by show 1 ≤ no + 1; omega, by show no + 1 ≤ 8; omega⟩ (by show 8 - (no + 1) < 8 - no; omega) ⟨rfl, rfl, rfl, rfl, rfl, trivial⟩ rfl rfl
          | succ w =>
            have heq : eqC (dV (dg w)) (dV (dg w)) = true := by unfold dV; rw [eqC_bytes]; exact decide_eq_true rfl
            have heq2 : eqC (dV (dg w)) (b32 (dig1 (UInt8.ofNat w))) = true := by rw [← dg_b32]; exact heq
            have e5 : IntKind.u8.wrap (((w + 1 : Nat) : Int) - 1) = (((UInt8.ofNat w).toNat : Nat) : Int) := by rw [u8of (by omega), wr_u8 (by omega)]; omega
            have hb1 : (!((dgo (w + 1)).isSome == decide ((0 : Int) < ((w + 1 : Nat) : Int)))) = false := by rw [decide_eq_true (by omega)]; rfl
            show H _ _ _ _ _ (row yb _ (dV (dg w)) :: _) _
            repeat (first | (refine H.bne (b := false) rfl rfl rfl rfl hb1 rfl ?_) | (refine H.bne (b := false) rfl rfl rfl rfl rfl rfl ?_) | (apply H.ar; (iterate 4 exact rfl); exact e5; exact rfl) | (refine H.loadN (ls := dV (dg w)) rfl rfl rfl (Rd.ofRow (by repeat (first | exact .here _ _ _ | apply At.there))) (dV_len _) rfl ?_) | ((first | apply H.move | apply H.assign); (iterate 3 exact rfl)) | (first | apply H.seq | apply H.region | apply H.nil | apply H.then_normal) | ((apply H.cmp); (iterate 5 exact rfl)) | ((apply H.ar; (iterate 4 exact rfl)); (with_reducible apply wr_i64_n1; omega); exact rfl) | (apply H.pickT; (iterate 4 exact rfl)) | ((apply H.pickF); (iterate 4 exact rfl)) | (apply H.cond_false; exact rfl) | (first | apply H.skip | apply H.in_normal) | (refine H.buildA (out := b32 (dig1 (UInt8.ofNat w))) rfl rfl rfl rfl rfl ?_) | (refine H.aggNe (xs := dV (dg w)) (ys := dV (dg w)) (b := false) (D := 4) rfl rfl rfl rfl (by kernel_rfl) (dV_shp _) (dV_shp _) (by kernel_rfl) (by decide) (by rw [heq]; rfl) rfl ?_))
            refine H.drop (x := row xb _ _) (by repeat (first | exact .here _ _ | apply Pull.there)) ?_
            refine H.drop (x := row yb _ _) (by repeat (first | exact .here _ _ | apply Pull.there)) ?_
            exact H.again (no + 1) ⟨by show 1 ≤ no + 1; omega, by show no + 1 ≤ 8; omega⟩ (by show 8 - (no + 1) < 8 - no; omega) ⟨rfl, rfl, rfl, rfl, rfl, trivial⟩ rfl rfl
      · skip
        repeat (first | ((apply H.move); (iterate 3 exact rfl)) | (first | apply H.seq | apply H.region | apply H.nil | apply H.then_normal) | ((apply H.cmp); (iterate 5 exact rfl)) | (first | apply H.then_exit | apply H.exit | apply H.in_hit | apply H.loop_exit) | (apply H.cond_no; exact rfl; (omega)))
        refine H.callR rfl rfl rfl (works21_fn f _ htab) ?_
        repeat (first | ((apply H.assign); (iterate 3 exact rfl)) | (first | apply H.nil | apply H.then_normal) | (apply H.ret))
        refine H.drop (x := chkH ca _ _) (by repeat (first | exact .here _ _ | apply Pull.there)) ?_
        refine H.drop (x := chkH cb _ _) (by repeat (first | exact .here _ _ | apply Pull.there)) ?_
        refine H.drop (x := row gb _ _) (by repeat (first | exact .here _ _ | apply Pull.there)) ?_
        exact H.ret1 rfl rfl (fun _ h => h) ⟨rfl, rfl, rfl⟩
end
end Go.Proofs.YtcdpnloeheaclaaDoor

/- Rows whose laws read the table of sha: what is given of the program, and what the row's condition says. -/
namespace Go.Proofs.YtcdpnloeheaclaaDoor
set_option linter.unusedSectionVars false
set_option linter.unusedSimpArgs false
set_option linter.unusedVariables false
open Go Go.ChangeShapes Go.WideShapes Go.RowKit Go.Deep
theorem Tryd.own : ownKnob Tryd.prog.godebug = none := by kernel_rfl
theorem Tryd.laidOut : laidOutB Tryd.prog = true := by kernel_rfl
abbrev laidL : List (String × DataW Unit) := [("ratchet/sha.table", Rows.laid_ratchet_sha_table)]
theorem door_met (os : Os) (args : Array Value) : laidMetH Tryd.prog laidL ((World.doorLaid Tryd.prog 400 os).forCall (fun _ _ => 0) ⟨#[], args, []⟩).memory :=
  laidMetH_of_parts3 (fuel := 8) (laidMet_of_run' 8 (by kernel_rfl) (by kernel_rfl)) (by kernel_rfl) (by kernel_rfl)
theorem tab_eq : (Rows.laid_ratchet_sha_table : DataW Unit) = .agg ((Sha.k.map fun x => ((x.toNat : Nat) : Int)).map fun z => .lit (.int .u32 z)) := by kernel_rfl
theorem tab_of {W : World} (h : laidMetH Tryd.prog laidL W) : TabAt (memOf W) := by
  have h2 : laidMetH Tryd.prog [("ratchet/sha.table", .agg ((Sha.k.map fun x => ((x.toNat : Nat) : Int)).map fun z => .lit (.int .u32 z)))] W := by rw [← tab_eq]; exact h
  exact laid_ints h2 (by kernel_rfl) (by kernel_rfl) (t := 80) (e := 66) Tryd.underlying80 Tryd.underlying66 (by kernel_rfl)
end Go.Proofs.YtcdpnloeheaclaaDoor

/- Layer 21: CheckOne, its row and its card. -/
namespace Go.Proofs.YtcdpnloeheaclaaDoor
set_option linter.unusedSectionVars false
set_option linter.unusedSimpArgs false
set_option linter.unusedVariables false
open Go Go.ChangeShapes Go.WideShapes Go.RowKit Go.Deep
theorem list3 {α : Type} : ∀ {l : List α}, l.length = 3 → ∃ a b c, l = [a, b, c]
  | [a, b, c], _ => ⟨a, b, c, rfl⟩
theorem reads_said {W : World} {cs : List Value} (h : Reads Tryd.prog W 34 cs) : ∃ x : Sd, ((0 ≤ x.k ∧ x.k ≤ 255) ∧ (0 ≤ x.d ∧ x.d ≤ 255)) ∧ cs = x.vals := by
  obtain ⟨hl, hf⟩ := h.struct Tryd.underlying34
  have hc : Tryd.prog.cellsOf 34 = 3 := by kernel_rfl
  have k0 : Tryd.prog.cellsOf 3 = 1 := by kernel_rfl
  have k1 : Tryd.prog.cellsOf 5 = 1 := by kernel_rfl
  have h0 : Reads Tryd.prog W 3 ((cs.drop 0).take (Tryd.prog.cellsOf 3)) := hf 0 _ rfl
  have h1 : Reads Tryd.prog W 5 ((cs.drop 1).take (Tryd.prog.cellsOf 5)) := hf 1 _ rfl
  have h2 : Reads Tryd.prog W 5 ((cs.drop 2).take (Tryd.prog.cellsOf 5)) := hf 2 _ rfl
  rw [k0] at h0
  rw [k1] at h1 h2
  rw [hc] at hl
  obtain ⟨z0, e0, _⟩ := h0.int Tryd.underlying3
  obtain ⟨z1, e1, hz1⟩ := h1.int Tryd.underlying5
  obtain ⟨z2, e2, hz2⟩ := h2.int Tryd.underlying5
  obtain ⟨c0, c1, c2, rfl⟩ := list3 hl
  have e0 : c0 = .int .i64 z0 := (List.cons.inj e0).1
  have e1 : c1 = .int .u8 z1 := (List.cons.inj e1).1
  have e2 : c2 = .int .u8 z2 := (List.cons.inj e2).1
  rw [e0, e1, e2]
  exact ⟨⟨z0, z1, z2⟩, ⟨hz1, hz2⟩, rfl⟩
set_option maxRecDepth 100000 in
theorem checkOne_lifted (os : Os) (started : os.Started) (H' : Type) (enc : TypeId × Value → H') :
    ReturnsInHanded {} Tryd.checked os 3 .any (fun w args => (Rows.checkOneSpec.pre enc Tryd.prog Tryd.f3 [] false w args ∧ laidMetH Tryd.prog laidL w) ∧ sizedMet enc Tryd.prog Tryd.f3 (OpenSpec.ofChange Rows.checkOneSpec) false w args) (Rows.checkOneSpec.post enc Tryd.prog Tryd.f3 false true false false) := by
  refine lawRowL (C := Tryd.checked) (laid := laidL) Tryd.own started (by kernel_rfl) Tryd.func3
    (ChangeSpec.witness_shaped (enc := enc) (C := Tryd.checked) (os := os) (X := fun w _ => laidMetH Tryd.prog laidL w) false (World.doorLaid Tryd.prog 400 os) #[.int .u8 0, .slice none 0 0] 8 rfl (World.shaped_of_RefB (by kernel_rfl) (by kernel_rfl)) (by kernel_rfl) (by kernel_rfl) (by kernel_rfl) (door_met os _))
    Tryd.underlying4 rfl rfl Tryd.laidOut (by kernel_rfl) (fun ds h => ?_) fun W args h hL => ?_
  · match ds, h with
    | [d1, d2], _ => rfl
  · match args, h with
    | [v0, v1], ⟨h0, h1, _⟩ =>
      obtain ⟨z, rfl, hz⟩ := h0.int Tryd.underlying5
      obtain ⟨p, c, xs, rfl, _, _, hq, hat⟩ := h1.list (sz := 3) Tryd.underlying22 (by kernel_rfl) (by decide) fun cs => reads_said
      exact checkOne_fn (memOf W) [] (tab_of hL) hz hat hq

theorem checkOne_row : Rows.CheckOneSaid :=
  OpenClaim.holds_of_wide 3 Tryd.f3 rfl rfl rfl rfl rfl rfl rfl ⟨rfl, rfl, rfl, rfl, rfl⟩ rfl rfl rfl rfl rfl (by kernel_rfl) Tryd.func3 (by kernel_rfl)
    (of_decide_eq_true (by kernel_rfl)) (by unfold Func.isWrapper; first | (rw [if_pos (by decide +kernel)]; kernel_rfl) | (rw [if_neg (by decide +kernel)]; exact ⟨rfl, rfl⟩))
    (fun os started H' enc _ => checkOne_lifted os started H' enc)
theorem checkOne_holds : Rows.CheckOneCardSaid :=
  Claim7.holds_tied_plain_at .later [] [.data] true _ false
    checkOne_row (fun _ h => by cases h) (by kernel_rfl) (fun _ h => by cases h) checkOne_row_tie rfl ⟨rfl, rfl⟩ (by kernel_rfl) rfl
    (fun f fn hf hfn => by
      obtain rfl : f = 3 := Option.some.inj ((show Tryd.prog.funcNamed "ratchet/ratchetlaw21.CheckOne" = some 3 by kernel_rfl).symm.trans hf) |>.symm
      obtain rfl : fn = Tryd.f3 := (Option.some.inj (Tryd.func3.symm.trans hfn)).symm
      exact ⟨by kernel_rfl, params_plain (by kernel_rfl)⟩)
    (by kernel_rfl)
end Go.Proofs.YtcdpnloeheaclaaDoor
