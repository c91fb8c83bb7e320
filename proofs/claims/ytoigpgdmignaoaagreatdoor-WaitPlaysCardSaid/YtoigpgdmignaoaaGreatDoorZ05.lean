/- Parts of the proof, one behind the other, each under its own heading. No conditions. -/
import Derived.Test.YtoigpgdmignaoaaGreatDoorZ04
import Derived.Laws.MakeOwn
set_option linter.unusedSectionVars false
set_option linter.unusedSimpArgs false
set_option linter.unusedVariables false
/- Layer 8, messages: may a message be? (the document) -/
namespace Go.Proofs.YtoigpgdmignaoaaGreatDoor
open Go
section
variable (f : Frag) (F : List HP)
theorem rasked_fn (r : Req) : Fn Tryz.prog 96 [.agg r.vals.toArray] f F (Ret (.bool (decide r.asked)) f F) := by
 by_cases h1 : 1 ≤ r.client
 ·by_cases h2 : r.client ≤ 8
  ·by_cases h3 : 1 ≤ r.time
   ·by_cases h4 : r.time ≤ 4611686018427387904
    ·by_cases h5 : r.key.size ≤ 32
     ·by_cases h6 : r.to.size ≤ 32
      ·by_cases h7 : r.val.size ≤ 128
       ·skip
        refine Fn.enter Tryz.func96 rfl Tryz.ntmps96 rfl (L := [(0, _)]) ⟨rfl, trivial⟩ fun base => ?_
        repeat (first | ((first | apply H.Ac | apply H.Ad | apply H.Cg); (iterate 3 exact rfl)) | (apply H.Ag; (iterate 3 exact rfl); exact inferInstance; exact rfl) | (apply H.Af; (iterate 3 exact rfl); apply Rd1.ofRow; (repeat (exact .here _ _ _)); (iterate 2 exact rfl)) | (first | apply H.seq | apply H.Ab | apply H.nil | apply H.Aa) | ((apply H.cmp); (iterate 5 exact rfl)) | (apply H.Ax; (iterate 4 exact rfl)) | (apply H.ret) | (apply H.Bi; (iterate 3 exact rfl); (first | assumption | omega)) | (refine H.box (ls := r.vals) rfl rfl rfl rfl fun xb => ?_))
        refine H.Ah (.here _ _) ?_
        refine H.Aj rfl rfl (fun _ h => h) ⟨?_, rfl, rfl⟩
        congr 1
        apply decide_eq_decide.2
        unfold Req.asked
        omega
       ·skip
        refine Fn.enter Tryz.func96 rfl Tryz.ntmps96 rfl (L := [(0, _)]) ⟨rfl, trivial⟩ fun base => ?_
        repeat (first | ((first | apply H.Ac | apply H.Ad | apply H.Cg); (iterate 3 exact rfl)) | (apply H.Ag; (iterate 3 exact rfl); exact inferInstance; exact rfl) | (apply H.Af; (iterate 3 exact rfl); apply Rd1.ofRow; (repeat (exact .here _ _ _)); (iterate 2 exact rfl)) | (first | apply H.seq | apply H.Ab | apply H.nil | apply H.Aa) | ((apply H.cmp); (iterate 5 exact rfl)) | (apply H.Bd; (iterate 2 exact rfl)) | (apply H.Ax; (iterate 4 exact rfl)) | ((apply H.Ay); (iterate 4 exact rfl)) | (apply H.ret) | (apply H.Bi; (iterate 3 exact rfl); (first | assumption | omega)) | (apply H.gno; (iterate 3 exact rfl); (omega)) | (refine H.box (ls := r.vals) rfl rfl rfl rfl fun xb => ?_))
        refine H.Ah (.here _ _) ?_
        refine H.Aj rfl rfl (fun _ h => h) ⟨?_, rfl, rfl⟩
        rw [decide_eq_false]
        unfold Req.asked
        omega
      ·skip
       refine Fn.enter Tryz.func96 rfl Tryz.ntmps96 rfl (L := [(0, _)]) ⟨rfl, trivial⟩ fun base => ?_
       repeat (first | ((first | apply H.Ac | apply H.Ad | apply H.Cg); (iterate 3 exact rfl)) | (apply H.Ag; (iterate 3 exact rfl); exact inferInstance; exact rfl) | (apply H.Af; (iterate 3 exact rfl); apply Rd1.ofRow; (repeat (exact .here _ _ _)); (iterate 2 exact rfl)) | (first | apply H.seq | apply H.Ab | apply H.nil | apply H.Aa) | ((apply H.cmp); (iterate 5 exact rfl)) | (apply H.Bd; (iterate 2 exact rfl)) | (apply H.Ax; (iterate 4 exact rfl)) | ((apply H.Ay); (iterate 4 exact rfl)) | (apply H.ret) | (apply H.Bi; (iterate 3 exact rfl); (first | assumption | omega)) | (apply H.gno; (iterate 3 exact rfl); (omega)) | (refine H.box (ls := r.vals) rfl rfl rfl rfl fun xb => ?_))
       refine H.Ah (.here _ _) ?_
       refine H.Aj rfl rfl (fun _ h => h) ⟨?_, rfl, rfl⟩
       rw [decide_eq_false]
       unfold Req.asked
       omega
     ·skip
      refine Fn.enter Tryz.func96 rfl Tryz.ntmps96 rfl (L := [(0, _)]) ⟨rfl, trivial⟩ fun base => ?_
      repeat (first | ((first | apply H.Ac | apply H.Ad | apply H.Cg); (iterate 3 exact rfl)) | (apply H.Ag; (iterate 3 exact rfl); exact inferInstance; exact rfl) | (apply H.Af; (iterate 3 exact rfl); apply Rd1.ofRow; (repeat (exact .here _ _ _)); (iterate 2 exact rfl)) | (first | apply H.seq | apply H.Ab | apply H.nil | apply H.Aa) | ((apply H.cmp); (iterate 5 exact rfl)) | (apply H.Bd; (iterate 2 exact rfl)) | (apply H.Ax; (iterate 4 exact rfl)) | ((apply H.Ay); (iterate 4 exact rfl)) | (apply H.ret) | (apply H.Bi; (iterate 3 exact rfl); (assumption)) | (apply H.gno; (iterate 3 exact rfl); (omega)) | (refine H.box (ls := r.vals) rfl rfl rfl rfl fun xb => ?_))
      refine H.Ah (.here _ _) ?_
      refine H.Aj rfl rfl (fun _ h => h) ⟨?_, rfl, rfl⟩
      rw [decide_eq_false]
      unfold Req.asked
      omega
    ·skip
     refine Fn.enter Tryz.func96 rfl Tryz.ntmps96 rfl (L := [(0, _)]) ⟨rfl, trivial⟩ fun base => ?_
     repeat (first | ((first | apply H.Ac | apply H.Ad | apply H.Cg); (iterate 3 exact rfl)) | (apply H.Ag; (iterate 3 exact rfl); exact inferInstance; exact rfl) | (apply H.Af; (iterate 3 exact rfl); apply Rd1.ofRow; (repeat (exact .here _ _ _)); (iterate 2 exact rfl)) | (first | apply H.seq | apply H.Ab | apply H.nil | apply H.Aa) | ((apply H.cmp); (iterate 5 exact rfl)) | (apply H.Bd; (iterate 2 exact rfl)) | (apply H.Ax; (iterate 4 exact rfl)) | ((apply H.Ay); (iterate 4 exact rfl)) | (apply H.ret) | (apply H.Bi; (iterate 3 exact rfl); (assumption)) | (apply H.gno; (iterate 3 exact rfl); (assumption)) | (refine H.box (ls := r.vals) rfl rfl rfl rfl fun xb => ?_))
     refine H.Ah (.here _ _) ?_
     refine H.Aj rfl rfl (fun _ h => h) ⟨?_, rfl, rfl⟩
     rw [decide_eq_false]
     unfold Req.asked
     omega
   ·skip
    refine Fn.enter Tryz.func96 rfl Tryz.ntmps96 rfl (L := [(0, _)]) ⟨rfl, trivial⟩ fun base => ?_
    repeat (first | ((first | apply H.Ac | apply H.Ad | apply H.Cg); (iterate 3 exact rfl)) | (apply H.Ag; (iterate 3 exact rfl); exact inferInstance; exact rfl) | (apply H.Af; (iterate 3 exact rfl); apply Rd1.ofRow; (repeat (exact .here _ _ _)); (iterate 2 exact rfl)) | (first | apply H.seq | apply H.Ab | apply H.nil | apply H.Aa) | ((apply H.cmp); (iterate 5 exact rfl)) | (apply H.Bd; (iterate 2 exact rfl)) | (apply H.Ax; (iterate 4 exact rfl)) | ((apply H.Ay); (iterate 4 exact rfl)) | (apply H.ret) | (apply H.Bi; (iterate 3 exact rfl); (assumption)) | (apply H.gno; (iterate 3 exact rfl); (assumption)) | (refine H.box (ls := r.vals) rfl rfl rfl rfl fun xb => ?_))
    refine H.Ah (.here _ _) ?_
    refine H.Aj rfl rfl (fun _ h => h) ⟨?_, rfl, rfl⟩
    rw [decide_eq_false]
    unfold Req.asked
    omega
  ·skip
   refine Fn.enter Tryz.func96 rfl Tryz.ntmps96 rfl (L := [(0, _)]) ⟨rfl, trivial⟩ fun base => ?_
   repeat (first | ((first | apply H.Ac | apply H.Ad | apply H.Cg); (iterate 3 exact rfl)) | (apply H.Ag; (iterate 3 exact rfl); exact inferInstance; exact rfl) | (apply H.Af; (iterate 3 exact rfl); apply Rd1.ofRow; (repeat (exact .here _ _ _)); (iterate 2 exact rfl)) | (first | apply H.seq | apply H.Ab | apply H.nil | apply H.Aa) | ((apply H.cmp); (iterate 5 exact rfl)) | (apply H.Bd; (iterate 2 exact rfl)) | (apply H.Ax; (iterate 4 exact rfl)) | ((apply H.Ay); (iterate 4 exact rfl)) | (apply H.ret) | (apply H.Bi; (iterate 3 exact rfl); (assumption)) | (apply H.gno; (iterate 3 exact rfl); (assumption)) | (refine H.box (ls := r.vals) rfl rfl rfl rfl fun xb => ?_))
   refine H.Ah (.here _ _) ?_
   refine H.Aj rfl rfl (fun _ h => h) ⟨?_, rfl, rfl⟩
   rw [decide_eq_false]
   unfold Req.asked
   omega
 ·skip
  refine Fn.enter Tryz.func96 rfl Tryz.ntmps96 rfl (L := [(0, _)]) ⟨rfl, trivial⟩ fun base => ?_
  repeat (first | ((first | apply H.Ac | apply H.Ad | apply H.Cg); (iterate 3 exact rfl)) | (apply H.Ag; (iterate 3 exact rfl); exact inferInstance; exact rfl) | (apply H.Af; (iterate 3 exact rfl); apply Rd1.ofRow; (repeat (exact .here _ _ _)); (iterate 2 exact rfl)) | (first | apply H.seq | apply H.Ab | apply H.nil | apply H.Aa) | ((apply H.cmp); (iterate 5 exact rfl)) | (apply H.Bd; (iterate 2 exact rfl)) | ((apply H.Ay); (iterate 4 exact rfl)) | (apply H.ret) | (apply H.gno; (iterate 3 exact rfl); (assumption)) | (refine H.box (ls := r.vals) rfl rfl rfl rfl fun xb => ?_))
  refine H.Ah (.here _ _) ?_
  refine H.Aj rfl rfl (fun _ h => h) ⟨?_, rfl, rfl⟩
  rw [decide_eq_false]
  unfold Req.asked
  omega
def wq (q : List (Int × Int)) : Nat → Int
 | 0 => 0
 | j + 1 => (q.getD j (0, 0)).1
theorem quo_loop {x : Bod} (i : Nat) (hi : i < x.q.length) (w : Int) : quo w (x.q.drop i) = if x.q[i].1 ≤ w ∨ 11 < x.q[i].1 ∨ x.q[i].2 < 1 ∨ 65536 < x.q[i].2 then false else quo x.q[i].1 (x.q.drop (i + 1)) := by
 rw [List.drop_eq_getElem_cons hi]; rfl
theorem rbody4_fn {x : Bod} {q : Option Addr} {qc : Nat} (hq : QAt f q x.q) (hl : x.q.length ≤ 1000000000) (hk : x.kind.toNat = 4) (hs : Bod.eqB x.own x = true) (hv : x.view < 1073741824) :
    Fn Tryz.prog 77 [.agg (x.vals q qc).toArray] f F (Ret (.bool x.may) f F) := by
  unfold Bod.may
  rw [hk]
  refine Fn.enter Tryz.func77 rfl Tryz.ntmps77 rfl (L := [(0, _)]) ⟨rfl, trivial⟩ fun base => ?_
  repeat ((first | apply H.seq | apply H.Ab))
  refine H.box (ls := x.vals q qc) rfl rfl rfl rfl fun xb => ?_
  repeat (first | ((apply H.Ad); (iterate 3 exact rfl)) | (first | apply H.seq | apply H.nil | apply H.Aa))
  refine H.Bt (by kernel_rfl) (by decide +kernel) (by repeat (first | exact zab | refine zaa ?_ | refine zac ?_ | refine zae ?_)) (S := [_]) rfl ?_
  refine HB.Aq [(0, false), (2, false)] 8 (by kernel_rfl) ?_
  refine HQ.Al (ls := x.vals q qc) rfl rfl rfl (Rd.ofRow (by repeat constructor)) rfl rfl ?_
  refine HQ.Al (ls := x.vals q qc) rfl rfl rfl (Rd.ofRow (by repeat constructor)) rfl rfl ?_
  refine HQ.Ap rfl ?_
  refine HB.ev1 (i := 1) (by kernel_rfl) rfl ?_
  refine H.callP rfl rfl rfl (own_fn f _ hq) fun i hqo => ?_
  repeat ((apply H.nil))
  refine H.on0 rfl ?_
  refine HB.ev1 (i := 3) (by kernel_rfl) rfl ?_
  have hlo : x.own.q.length ≤ 1000000000 := by
    have : x.own.q = x.q ∨ x.own.q = [] := by
      unfold Bod.own
      match x.kind.toNat with
      | 0 => exact .inr rfl
      | 1 => exact .inr rfl
      | 2 => exact .inr rfl
      | 3 => exact .inr rfl
      | 4 => exact .inl rfl
      | 5 => exact .inr rfl
      | 6 => exact .inr rfl
      | k + 7 => exact .inr rfl
    rcases this with h | h <;> rw [h]
    · exact hl
    · exact Nat.zero_le _
  refine H.Am rfl rfl rfl (rsame_fn f _ hqo hq hlo) ?_
  repeat ((apply H.nil))
  refine H.on0 rfl ?_
  refine HB.Aq [(4, false), (5, false), (6, false), (7, false), (8, false), (9, false)] 0 (by kernel_rfl) ?_
  have hn : (!true) = false := rfl
  rw [hs, decide_eq_true hv, Bool.true_and, Bool.true_and]
  repeat (first | ((apply HQ.Ac); (iterate 3 exact rfl)) | (apply HQ.Ag; (iterate 3 exact rfl); exact inferInstance; exact rfl) | (apply HQ.Af; (iterate 3 exact rfl); apply Rd1.ofRow; (repeat (exact .here _ _ _)); (iterate 2 exact rfl)) | ((apply HQ.cmp); (iterate 5 exact rfl)) | ((first | apply HQ.Ay | apply HQ.not); (iterate 4 exact rfl)))
  refine HQ.Ap rfl ?_
  refine HB.Bf (by kernel_rfl) ?_
  repeat (first | ((apply H.Ad); (iterate 3 exact rfl)) | (apply H.Ag; (iterate 3 exact rfl); exact inferInstance; exact rfl) | (apply H.Af; (iterate 3 exact rfl); apply Rd1.ofRow; (repeat (exact .here _ _ _)); (iterate 2 exact rfl)) | (first | apply H.seq | apply H.Ab | apply H.nil | apply H.Aa) | ((apply H.cmp); (iterate 5 exact rfl)) | (first | apply H.Ak | apply H.Ao) | (apply H.Au; exact rfl; (omega)) | (apply H.Aw; exact rfl; (omega)))
  refine H.Bo (ι := Nat) (fun i => [(3, .int .i64 (i : Int)), (1, .pointer (some ⟨xb, 0, none⟩))]) (fun _ => f) (fun _ => row xb 45 (x.vals q qc) :: F) (fun i => i ≤ x.q.length ∧ quo 0 x.q = quo (wq x.q i) (x.q.drop i) ∧ (0 < i → 1 ≤ wq x.q i)) (fun i => x.q.length - i) 0 ⟨Nat.zero_le _, rfl, fun h => absurd h (Nat.lt_irrefl _)⟩ ⟨rfl, rfl, trivial⟩ rfl rfl fun i hi => ?_
  obtain ⟨hi, hw, hwp⟩ : i ≤ x.q.length ∧ quo 0 x.q = quo (wq x.q i) (x.q.drop i) ∧ (0 < i → 1 ≤ wq x.q i) := hi
  by_cases hlt : i < x.q.length
  · have hx : x.q[i]? = some x.q[i] := List.getElem?_eq_getElem hlt
    have hquo := quo_loop i hlt (wq x.q i)
    have hwz : wq x.q (i + 1) = x.q[i].1 := by show (x.q.getD i (0, 0)).1 = _; rw [List.getD_eq_getElem?_getD, hx]; rfl
    generalize x.q[i] = z at hx hquo hwz
    obtain ⟨b, off, cs, T, fr, hqb, hfb, hcs⟩ := hq i z hx
    have hq' := hq
    subst hqb
    have rd : ∀ A, Rd f A b (off + i * 2) (pairV z) := fun A => Rd.imm hfb hcs
    repeat (first | ((first | apply H.Ac | apply H.Az); (iterate 3 exact rfl)) | (apply H.Ag; (iterate 3 exact rfl); exact inferInstance; exact rfl) | (apply H.Af; (iterate 3 exact rfl); apply Rd1.ofRow; (repeat (exact .here _ _ _)); (iterate 2 exact rfl)) | (first | apply H.seq | apply H.Ab | apply H.nil | apply H.Aa) | ((apply H.cmp); (iterate 5 exact rfl)) | (first | apply H.Ak | apply H.Ao) | (apply H.Au; exact rfl; (omega)))
    refine H.Bs rfl rfl rfl rfl hlt rfl ?_
    refine H.Al (ls := pairV z) rfl rfl rfl (rd _) rfl rfl ?_
    refine H.Bg rfl rfl rfl fun pb => ?_
    refine H.Bb (ls := [.int .i64 0, .int .u64 0]) (vs := pairV z) (ls' := pairV z) rfl rfl rfl (zad rfl) rfl rfl (Nat.le_refl 2) (by repeat constructor) ?_
    repeat ((first | apply H.seq | apply H.nil | apply H.Aa))
    refine H.Bz (by kernel_rfl) (by decide +kernel) (by repeat (first | exact zab | refine zaa ?_ | refine zac ?_ | refine zae ?_)) ?_
    by_cases hi0 : i = 0
    · have hw0 : wq x.q i = 0 := by rw [hi0]; rfl
      rw [hw0] at hquo hw
      have j : Nat := 0
      have rd2 := rd
      by_cases h1 : 1 ≤ z.1
      · skip
        by_cases h2 : z.1 ≤ 11
        · skip
          by_cases h4 : 1 ≤ z.2
          · skip
            by_cases h5 : z.2 ≤ 65536
            · skip
              repeat (first | ((apply HQ.Ac); (iterate 3 exact rfl)) | (apply HQ.Ag; (iterate 3 exact rfl); exact inferInstance; exact rfl) | (apply HQ.Af; (iterate 3 exact rfl); apply Rd1.ofRow; (repeat (exact .here _ _ _)); (iterate 2 exact rfl)) | ((apply HQ.Bu); exact rfl) | ((apply HQ.cmp); (iterate 5 exact rfl)) | (apply HQ.Bd; (iterate 2 exact rfl)) | ((apply HQ.Ay); (iterate 4 exact rfl)) | (apply HQ.gno; (iterate 3 exact rfl); (omega)))
              repeat (first | ((first | apply H.Ac | apply H.Ad); (iterate 3 exact rfl)) | (first | apply H.Ab | apply H.nil | apply H.Aa) | ((apply H.ar; (iterate 4 exact rfl)); (with_reducible apply zag; omega); exact rfl) | (first | apply H.Ak | apply H.Ba) | (apply H.Aw; exact rfl; (omega)))
              refine H.Ah (.here _ _) ?_
              first
                | exact H.Bc (i + 1) ⟨by show i + 1 ≤ x.q.length; omega, by show quo 0 x.q = _; rw [hw, hquo, if_neg (by omega), ← hwz], by show 0 < i + 1 → 1 ≤ wq x.q (i + 1); rw [hwz]; omega⟩ (by show x.q.length - (i + 1) < x.q.length - i; omega) ⟨rfl, rfl, trivial⟩ rfl rfl
                | (refine H.Ah (.here _ _) ?_
                   refine H.Aj rfl rfl (fun _ h => h) ⟨?_, rfl, rfl⟩
                   rw [show x.mayK 4 = (decide (1 ≤ x.view) && (quo 0 x.q && decide (0 < x.q.length))) from rfl, hw, hquo, if_pos (by omega)]
                   simp)
            · skip
              repeat (first | ((apply HQ.Ac); (iterate 3 exact rfl)) | (apply HQ.Ag; (iterate 3 exact rfl); exact inferInstance; exact rfl) | (apply HQ.Af; (iterate 3 exact rfl); apply Rd1.ofRow; (repeat (exact .here _ _ _)); (iterate 2 exact rfl)) | ((apply HQ.Bu); exact rfl) | ((apply HQ.cmp); (iterate 5 exact rfl)) | (apply HQ.Bd; (iterate 2 exact rfl)) | ((apply HQ.Ay); (iterate 4 exact rfl)) | (apply HQ.gno; (iterate 3 exact rfl); (omega)))
              repeat (first | ((apply H.Ad); (iterate 3 exact rfl)) | (first | apply H.seq | apply H.Ab | apply H.nil | apply H.Aa) | (first | apply H.ret | apply H.Be | apply H.Bx | apply H.Cd) | (apply H.Au; exact rfl; (omega)))
              refine H.Ah (.here _ _) ?_
              first
                | exact H.Bc (i + 1) ⟨by show i + 1 ≤ x.q.length; omega, by show quo 0 x.q = _; rw [hw, hquo, if_neg (by omega), ← hwz], by show 0 < i + 1 → 1 ≤ wq x.q (i + 1); rw [hwz]; omega⟩ (by show x.q.length - (i + 1) < x.q.length - i; omega) ⟨rfl, rfl, trivial⟩ rfl rfl
                | (refine H.Ah (.here _ _) ?_
                   refine H.Aj rfl rfl (fun _ h => h) ⟨?_, rfl, rfl⟩
                   rw [show x.mayK 4 = (decide (1 ≤ x.view) && (quo 0 x.q && decide (0 < x.q.length))) from rfl, hw, hquo, if_pos (by omega)]
                   simp)
          · skip
            repeat (first | ((apply HQ.Ac); (iterate 3 exact rfl)) | (apply HQ.Ag; (iterate 3 exact rfl); exact inferInstance; exact rfl) | (apply HQ.Af; (iterate 3 exact rfl); apply Rd1.ofRow; (repeat (exact .here _ _ _)); (iterate 2 exact rfl)) | ((apply HQ.Bu); exact rfl) | ((apply HQ.cmp); (iterate 5 exact rfl)) | (apply HQ.Bd; (iterate 2 exact rfl)) | (apply HQ.Ax; (iterate 4 exact rfl)) | ((apply HQ.Ay); (iterate 4 exact rfl)) | (apply HQ.Bi; (iterate 3 exact rfl); (omega)) | (apply HQ.gno; (iterate 3 exact rfl); (omega)))
            repeat (first | ((apply H.Ad); (iterate 3 exact rfl)) | (first | apply H.seq | apply H.Ab | apply H.nil | apply H.Aa) | (apply H.Bh; exact rfl) | (first | apply H.ret | apply H.Be | apply H.Bx | apply H.Cd))
            refine H.Ah (.here _ _) ?_
            first
              | exact H.Bc (i + 1) ⟨by show i + 1 ≤ x.q.length; omega, by show quo 0 x.q = _; rw [hw, hquo, if_neg (by omega), ← hwz], by show 0 < i + 1 → 1 ≤ wq x.q (i + 1); rw [hwz]; omega⟩ (by show x.q.length - (i + 1) < x.q.length - i; omega) ⟨rfl, rfl, trivial⟩ rfl rfl
              | (refine H.Ah (.here _ _) ?_
                 refine H.Aj rfl rfl (fun _ h => h) ⟨?_, rfl, rfl⟩
                 rw [show x.mayK 4 = (decide (1 ≤ x.view) && (quo 0 x.q && decide (0 < x.q.length))) from rfl, hw, hquo, if_pos (by omega)]
                 simp)
        · skip
          repeat (first | ((apply HQ.Ac); (iterate 3 exact rfl)) | (apply HQ.Ag; (iterate 3 exact rfl); exact inferInstance; exact rfl) | (apply HQ.Af; (iterate 3 exact rfl); apply Rd1.ofRow; (repeat (exact .here _ _ _)); (iterate 2 exact rfl)) | ((apply HQ.Bu); exact rfl) | ((apply HQ.cmp); (iterate 5 exact rfl)) | (apply HQ.Bd; (iterate 2 exact rfl)) | (apply HQ.Ax; (iterate 4 exact rfl)) | ((apply HQ.Ay); (iterate 4 exact rfl)) | (apply HQ.Bi; (iterate 3 exact rfl); (omega)) | (apply HQ.gno; (iterate 3 exact rfl); (omega)))
          repeat (first | ((apply H.Ad); (iterate 3 exact rfl)) | (first | apply H.seq | apply H.Ab | apply H.nil | apply H.Aa) | (apply H.Bh; exact rfl) | (first | apply H.ret | apply H.Be | apply H.Bx | apply H.Cd))
          refine H.Ah (.here _ _) ?_
          first
            | exact H.Bc (i + 1) ⟨by show i + 1 ≤ x.q.length; omega, by show quo 0 x.q = _; rw [hw, hquo, if_neg (by omega), ← hwz], by show 0 < i + 1 → 1 ≤ wq x.q (i + 1); rw [hwz]; omega⟩ (by show x.q.length - (i + 1) < x.q.length - i; omega) ⟨rfl, rfl, trivial⟩ rfl rfl
            | (refine H.Ah (.here _ _) ?_
               refine H.Aj rfl rfl (fun _ h => h) ⟨?_, rfl, rfl⟩
               rw [show x.mayK 4 = (decide (1 ≤ x.view) && (quo 0 x.q && decide (0 < x.q.length))) from rfl, hw, hquo, if_pos (by omega)]
               simp)
      · skip
        repeat (first | ((apply HQ.Ac); (iterate 3 exact rfl)) | (apply HQ.Ag; (iterate 3 exact rfl); exact inferInstance; exact rfl) | (apply HQ.Af; (iterate 3 exact rfl); apply Rd1.ofRow; (repeat (exact .here _ _ _)); (iterate 2 exact rfl)) | ((apply HQ.Bu); exact rfl) | ((apply HQ.cmp); (iterate 5 exact rfl)) | (apply HQ.Bd; (iterate 2 exact rfl)) | (apply HQ.Ax; (iterate 4 exact rfl)) | (apply HQ.Bi; (iterate 3 exact rfl); (omega)))
        repeat (first | ((apply H.Ad); (iterate 3 exact rfl)) | (first | apply H.seq | apply H.Ab | apply H.nil | apply H.Aa) | (apply H.Bh; exact rfl) | (first | apply H.ret | apply H.Be | apply H.Bx | apply H.Cd))
        refine H.Ah (.here _ _) ?_
        first
          | exact H.Bc (i + 1) ⟨by show i + 1 ≤ x.q.length; omega, by show quo 0 x.q = _; rw [hw, hquo, if_neg (by omega), ← hwz], by show 0 < i + 1 → 1 ≤ wq x.q (i + 1); rw [hwz]; omega⟩ (by show x.q.length - (i + 1) < x.q.length - i; omega) ⟨rfl, rfl, trivial⟩ rfl rfl
          | (refine H.Ah (.here _ _) ?_
             refine H.Aj rfl rfl (fun _ h => h) ⟨?_, rfl, rfl⟩
             rw [show x.mayK 4 = (decide (1 ≤ x.view) && (quo 0 x.q && decide (0 < x.q.length))) from rfl, hw, hquo, if_pos (by omega)]
             simp)
    · obtain ⟨j, hj⟩ : ∃ j, i = j + 1 := ⟨i - 1, by omega⟩
      obtain ⟨y, hy⟩ : ∃ y, x.q[j]? = some y := ⟨x.q[j]'(by omega), List.getElem?_eq_getElem (by omega)⟩
      have hwj0 : wq x.q (j + 1) = y.1 := by show (x.q.getD j (0, 0)).1 = _; rw [List.getD_eq_getElem?_getD, hy]; rfl
      have hwj : wq x.q i = y.1 := by rw [← hwj0, hj]
      have hwp := hwp (by omega)
      rw [hwj] at hquo hwp hw
      obtain ⟨b2, off2, cs2, T2, fr2, hqb2, hfb2, hcs2⟩ := hq j y hy
      have rd2 : ∀ A, Rd f A b2 (off2 + j * 2) (pairV y) := fun A => Rd.imm hfb2 hcs2
      cases hqb2
      by_cases h1 : 1 ≤ z.1
      · skip
        by_cases h2 : z.1 ≤ 11
        · skip
          by_cases h3 : y.1 < z.1
          · skip
            by_cases h4 : 1 ≤ z.2
            · skip
              by_cases h5 : z.2 ≤ 65536
              · skip
                repeat (first | ((apply HQ.Ac); (iterate 3 exact rfl)) | (apply HQ.Ag; (iterate 3 exact rfl); exact inferInstance; exact rfl) | (apply HQ.Af; (iterate 3 exact rfl); apply Rd1.ofRow; (repeat (first | exact .here _ _ _ | apply At.there)); (iterate 2 exact rfl)) | ((apply HQ.Bu); exact rfl) | ((apply HQ.cmp); (iterate 5 exact rfl)) | ((apply HQ.ar; (iterate 4 exact rfl)); (with_reducible apply wr_i64; omega); exact rfl) | (apply HQ.Ax; (iterate 4 exact rfl)) | ((apply HQ.Ay); (iterate 4 exact rfl)) | (apply HQ.Bi; (iterate 3 exact rfl); (omega)) | (apply HQ.gno; (iterate 3 exact rfl); (omega)) | (refine HQ.Bs (i := j) rfl rfl rfl (by omega) (by omega) rfl ?_) | (refine HQ.Af rfl rfl rfl (.of (rd2 _) (i := 0) rfl) rfl ?_))
                repeat (first | ((first | apply H.Ac | apply H.Ad); (iterate 3 exact rfl)) | (first | apply H.Ab | apply H.nil | apply H.Aa) | ((apply H.ar; (iterate 4 exact rfl)); (with_reducible apply zag; omega); exact rfl) | (first | apply H.Ak | apply H.Ba) | (apply H.Aw; exact rfl; (omega)))
                refine H.Ah (.here _ _) ?_
                first
                  | exact H.Bc (i + 1) ⟨by show i + 1 ≤ x.q.length; omega, by show quo 0 x.q = _; rw [hw, hquo, if_neg (by omega), ← hwz], by show 0 < i + 1 → 1 ≤ wq x.q (i + 1); rw [hwz]; omega⟩ (by show x.q.length - (i + 1) < x.q.length - i; omega) ⟨rfl, rfl, trivial⟩ rfl rfl
                  | (refine H.Ah (.here _ _) ?_
                     refine H.Aj rfl rfl (fun _ h => h) ⟨?_, rfl, rfl⟩
                     rw [show x.mayK 4 = (decide (1 ≤ x.view) && (quo 0 x.q && decide (0 < x.q.length))) from rfl, hw, hquo, if_pos (by omega)]
                     simp)
              · skip
                repeat (first | ((apply HQ.Ac); (iterate 3 exact rfl)) | (apply HQ.Ag; (iterate 3 exact rfl); exact inferInstance; exact rfl) | (apply HQ.Af; (iterate 3 exact rfl); apply Rd1.ofRow; (repeat (first | exact .here _ _ _ | apply At.there)); (iterate 2 exact rfl)) | ((apply HQ.Bu); exact rfl) | ((apply HQ.cmp); (iterate 5 exact rfl)) | ((apply HQ.ar; (iterate 4 exact rfl)); (with_reducible apply wr_i64; omega); exact rfl) | (apply HQ.Ax; (iterate 4 exact rfl)) | ((apply HQ.Ay); (iterate 4 exact rfl)) | (apply HQ.Bi; (iterate 3 exact rfl); (omega)) | (apply HQ.gno; (iterate 3 exact rfl); (omega)) | (refine HQ.Bs (i := j) rfl rfl rfl (by omega) (by omega) rfl ?_) | (refine HQ.Af rfl rfl rfl (.of (rd2 _) (i := 0) rfl) rfl ?_))
                repeat (first | ((apply H.Ad); (iterate 3 exact rfl)) | (first | apply H.seq | apply H.Ab | apply H.nil | apply H.Aa) | (first | apply H.ret | apply H.Be | apply H.Bx | apply H.Cd) | (apply H.Au; exact rfl; (omega)))
                refine H.Ah (.here _ _) ?_
                first
                  | exact H.Bc (i + 1) ⟨by show i + 1 ≤ x.q.length; omega, by show quo 0 x.q = _; rw [hw, hquo, if_neg (by omega), ← hwz], by show 0 < i + 1 → 1 ≤ wq x.q (i + 1); rw [hwz]; omega⟩ (by show x.q.length - (i + 1) < x.q.length - i; omega) ⟨rfl, rfl, trivial⟩ rfl rfl
                  | (refine H.Ah (.here _ _) ?_
                     refine H.Aj rfl rfl (fun _ h => h) ⟨?_, rfl, rfl⟩
                     rw [show x.mayK 4 = (decide (1 ≤ x.view) && (quo 0 x.q && decide (0 < x.q.length))) from rfl, hw, hquo, if_pos (by omega)]
                     simp)
            · skip
              repeat (first | ((apply HQ.Ac); (iterate 3 exact rfl)) | (apply HQ.Ag; (iterate 3 exact rfl); exact inferInstance; exact rfl) | (apply HQ.Af; (iterate 3 exact rfl); apply Rd1.ofRow; (repeat (first | exact .here _ _ _ | apply At.there)); (iterate 2 exact rfl)) | ((apply HQ.Bu); exact rfl) | ((apply HQ.cmp); (iterate 5 exact rfl)) | ((apply HQ.ar; (iterate 4 exact rfl)); (with_reducible apply wr_i64; omega); exact rfl) | (apply HQ.Bd; (iterate 2 exact rfl)) | (apply HQ.Ax; (iterate 4 exact rfl)) | ((apply HQ.Ay); (iterate 4 exact rfl)) | (apply HQ.Bi; (iterate 3 exact rfl); (omega)) | (apply HQ.gno; (iterate 3 exact rfl); (omega)) | (refine HQ.Bs (i := j) rfl rfl rfl (by omega) (by omega) rfl ?_) | (refine HQ.Af rfl rfl rfl (.of (rd2 _) (i := 0) rfl) rfl ?_))
              repeat (first | ((apply H.Ad); (iterate 3 exact rfl)) | (first | apply H.seq | apply H.Ab | apply H.nil | apply H.Aa) | (apply H.Bh; exact rfl) | (first | apply H.ret | apply H.Be | apply H.Bx | apply H.Cd))
              refine H.Ah (.here _ _) ?_
              first
                | exact H.Bc (i + 1) ⟨by show i + 1 ≤ x.q.length; omega, by show quo 0 x.q = _; rw [hw, hquo, if_neg (by omega), ← hwz], by show 0 < i + 1 → 1 ≤ wq x.q (i + 1); rw [hwz]; omega⟩ (by show x.q.length - (i + 1) < x.q.length - i; omega) ⟨rfl, rfl, trivial⟩ rfl rfl
                | (refine H.Ah (.here _ _) ?_
                   refine H.Aj rfl rfl (fun _ h => h) ⟨?_, rfl, rfl⟩
                   rw [show x.mayK 4 = (decide (1 ≤ x.view) && (quo 0 x.q && decide (0 < x.q.length))) from rfl, hw, hquo, if_pos (by omega)]
                   simp)
          · skip
            repeat (first | ((apply HQ.Ac); (iterate 3 exact rfl)) | (apply HQ.Ag; (iterate 3 exact rfl); exact inferInstance; exact rfl) | (apply HQ.Af; (iterate 3 exact rfl); apply Rd1.ofRow; (repeat (first | exact .here _ _ _ | apply At.there)); (iterate 2 exact rfl)) | ((apply HQ.Bu); exact rfl) | ((apply HQ.cmp); (iterate 5 exact rfl)) | ((apply HQ.ar; (iterate 4 exact rfl)); (with_reducible apply wr_i64; omega); exact rfl) | (apply HQ.Bd; (iterate 2 exact rfl)) | (apply HQ.Ax; (iterate 4 exact rfl)) | ((apply HQ.Ay); (iterate 4 exact rfl)) | (apply HQ.Bi; (iterate 3 exact rfl); (omega)) | (apply HQ.gno; (iterate 3 exact rfl); (omega)) | (refine HQ.Bs (i := j) rfl rfl rfl (by omega) (by omega) rfl ?_) | (refine HQ.Af rfl rfl rfl (.of (rd2 _) (i := 0) rfl) rfl ?_))
            repeat (first | ((apply H.Ad); (iterate 3 exact rfl)) | (first | apply H.seq | apply H.Ab | apply H.nil | apply H.Aa) | (apply H.Bh; exact rfl) | (first | apply H.ret | apply H.Be | apply H.Bx | apply H.Cd))
            refine H.Ah (.here _ _) ?_
            first
              | exact H.Bc (i + 1) ⟨by show i + 1 ≤ x.q.length; omega, by show quo 0 x.q = _; rw [hw, hquo, if_neg (by omega), ← hwz], by show 0 < i + 1 → 1 ≤ wq x.q (i + 1); rw [hwz]; omega⟩ (by show x.q.length - (i + 1) < x.q.length - i; omega) ⟨rfl, rfl, trivial⟩ rfl rfl
              | (refine H.Ah (.here _ _) ?_
                 refine H.Aj rfl rfl (fun _ h => h) ⟨?_, rfl, rfl⟩
                 rw [show x.mayK 4 = (decide (1 ≤ x.view) && (quo 0 x.q && decide (0 < x.q.length))) from rfl, hw, hquo, if_pos (by omega)]
                 simp)
        · skip
          repeat (first | ((apply HQ.Ac); (iterate 3 exact rfl)) | (apply HQ.Ag; (iterate 3 exact rfl); exact inferInstance; exact rfl) | (apply HQ.Af; (iterate 3 exact rfl); apply Rd1.ofRow; (repeat (exact .here _ _ _)); (iterate 2 exact rfl)) | ((apply HQ.Bu); exact rfl) | ((apply HQ.cmp); (iterate 5 exact rfl)) | (apply HQ.Bd; (iterate 2 exact rfl)) | (apply HQ.Ax; (iterate 4 exact rfl)) | ((apply HQ.Ay); (iterate 4 exact rfl)) | (apply HQ.Bi; (iterate 3 exact rfl); (omega)) | (apply HQ.gno; (iterate 3 exact rfl); (omega)))
          repeat (first | ((apply H.Ad); (iterate 3 exact rfl)) | (first | apply H.seq | apply H.Ab | apply H.nil | apply H.Aa) | (apply H.Bh; exact rfl) | (first | apply H.ret | apply H.Be | apply H.Bx | apply H.Cd))
          refine H.Ah (.here _ _) ?_
          first
            | exact H.Bc (i + 1) ⟨by show i + 1 ≤ x.q.length; omega, by show quo 0 x.q = _; rw [hw, hquo, if_neg (by omega), ← hwz], by show 0 < i + 1 → 1 ≤ wq x.q (i + 1); rw [hwz]; omega⟩ (by show x.q.length - (i + 1) < x.q.length - i; omega) ⟨rfl, rfl, trivial⟩ rfl rfl
            | (refine H.Ah (.here _ _) ?_
               refine H.Aj rfl rfl (fun _ h => h) ⟨?_, rfl, rfl⟩
               rw [show x.mayK 4 = (decide (1 ≤ x.view) && (quo 0 x.q && decide (0 < x.q.length))) from rfl, hw, hquo, if_pos (by omega)]
               simp)
      · skip
        repeat (first | ((apply HQ.Ac); (iterate 3 exact rfl)) | (apply HQ.Ag; (iterate 3 exact rfl); exact inferInstance; exact rfl) | (apply HQ.Af; (iterate 3 exact rfl); apply Rd1.ofRow; (repeat (exact .here _ _ _)); (iterate 2 exact rfl)) | ((apply HQ.Bu); exact rfl) | ((apply HQ.cmp); (iterate 5 exact rfl)) | (apply HQ.Bd; (iterate 2 exact rfl)) | (apply HQ.Ax; (iterate 4 exact rfl)) | (apply HQ.Bi; (iterate 3 exact rfl); (omega)))
        repeat (first | ((apply H.Ad); (iterate 3 exact rfl)) | (first | apply H.seq | apply H.Ab | apply H.nil | apply H.Aa) | (apply H.Bh; exact rfl) | (first | apply H.ret | apply H.Be | apply H.Bx | apply H.Cd))
        refine H.Ah (.here _ _) ?_
        first
          | exact H.Bc (i + 1) ⟨by show i + 1 ≤ x.q.length; omega, by show quo 0 x.q = _; rw [hw, hquo, if_neg (by omega), ← hwz], by show 0 < i + 1 → 1 ≤ wq x.q (i + 1); rw [hwz]; omega⟩ (by show x.q.length - (i + 1) < x.q.length - i; omega) ⟨rfl, rfl, trivial⟩ rfl rfl
          | (refine H.Ah (.here _ _) ?_
             refine H.Aj rfl rfl (fun _ h => h) ⟨?_, rfl, rfl⟩
             rw [show x.mayK 4 = (decide (1 ≤ x.view) && (quo 0 x.q && decide (0 < x.q.length))) from rfl, hw, hquo, if_pos (by omega)]
             simp)
  · have hiq : i = x.q.length := by omega
    subst hiq
    rw [List.drop_length] at hw
    by_cases h1 : 1 ≤ x.view
    · skip
      repeat (first | ((first | apply H.Ac | apply H.Ad | apply H.Az); (iterate 3 exact rfl)) | (apply H.Ag; (iterate 3 exact rfl); exact inferInstance; exact rfl) | (apply H.Af; (iterate 3 exact rfl); apply Rd1.ofRow; (repeat (exact .here _ _ _)); (iterate 2 exact rfl)) | (first | apply H.seq | apply H.Ab | apply H.nil | apply H.Aa) | ((apply H.cmp); (iterate 5 exact rfl)) | (apply H.Ax; (iterate 4 exact rfl)) | (first | apply H.ret | apply H.Be | apply H.Bl | apply H.Bj | apply H.Bx | apply H.Bk | apply H.Bm) | (apply H.Bi; (iterate 3 exact rfl); (assumption)) | (apply H.Aw; exact rfl; (omega)))
      refine H.Ah (.here _ _) ?_
      refine H.Aj rfl rfl (fun _ h => h) ⟨?_, rfl, rfl⟩
      rw [show x.mayK 4 = (decide (1 ≤ x.view) && (quo 0 x.q && decide (0 < x.q.length))) from rfl, hw, decide_eq_true h1]
      simp [quo]
      omega
    · skip
      repeat (first | ((first | apply H.Ac | apply H.Ad | apply H.Az); (iterate 3 exact rfl)) | (apply H.Ag; (iterate 3 exact rfl); exact inferInstance; exact rfl) | (apply H.Af; (iterate 3 exact rfl); apply Rd1.ofRow; (repeat (exact .here _ _ _)); (iterate 2 exact rfl)) | (first | apply H.seq | apply H.Ab | apply H.nil | apply H.Aa) | ((apply H.cmp); (iterate 5 exact rfl)) | (apply H.Bd; (iterate 2 exact rfl)) | ((apply H.Ay); (iterate 4 exact rfl)) | (first | apply H.ret | apply H.Be | apply H.Bl | apply H.Bj | apply H.Bx | apply H.Bk | apply H.Bm) | (apply H.gno; (iterate 3 exact rfl); (assumption)) | (apply H.Aw; exact rfl; (omega)))
      refine H.Ah (.here _ _) ?_
      refine H.Aj rfl rfl (fun _ h => h) ⟨?_, rfl, rfl⟩
      rw [show x.mayK 4 = (decide (1 ≤ x.view) && (quo 0 x.q && decide (0 < x.q.length))) from rfl, decide_eq_false h1]
      rfl
theorem rbody0_fn {x : Bod} {q : Option Addr} {qc : Nat} (hq : QAt f q x.q) (hl : x.q.length ≤ 1000000000) (h4 : ¬ (x.kind.toNat = 4 ∧ Bod.eqB x.own x = true ∧ x.view < 1073741824)) :
  Fn Tryz.prog 77 [.agg (x.vals q qc).toArray] f F (Ret (.bool x.may) f F) := by
 unfold Bod.may
 refine Fn.enter Tryz.func77 rfl Tryz.ntmps77 rfl (L := [(0, _)]) ⟨rfl, trivial⟩ fun base => ?_
 repeat ((first | apply H.seq | apply H.Ab))
 refine H.box (ls := x.vals q qc) rfl rfl rfl rfl fun xb => ?_
 repeat (first | ((apply H.Ad); (iterate 3 exact rfl)) | (first | apply H.seq | apply H.nil | apply H.Aa))
 refine H.Bt (by kernel_rfl) (by decide +kernel) (by repeat (first | exact zab | refine zaa ?_ | refine zac ?_ | refine zae ?_)) (S := [_]) rfl ?_
 refine HB.Aq [(0, false), (2, false)] 8 (by kernel_rfl) ?_
 refine HQ.Al (ls := x.vals q qc) rfl rfl rfl (Rd.ofRow (by repeat constructor)) rfl rfl ?_
 refine HQ.Al (ls := x.vals q qc) rfl rfl rfl (Rd.ofRow (by repeat constructor)) rfl rfl ?_
 refine HQ.Ap rfl ?_
 refine HB.ev1 (i := 1) (by kernel_rfl) rfl ?_
 refine H.callP rfl rfl rfl (own_fn f _ hq) fun i hqo => ?_
 repeat ((apply H.nil))
 refine H.on0 rfl ?_
 refine HB.ev1 (i := 3) (by kernel_rfl) rfl ?_
 have hlo : x.own.q.length ≤ 1000000000 := by
  have : x.own.q = x.q ∨ x.own.q = [] := by
   unfold Bod.own
   match x.kind.toNat with
   | 0 => exact .inr rfl
   | 1 => exact .inr rfl
   | 2 => exact .inr rfl
   | 3 => exact .inr rfl
   | 4 => exact .inl rfl
   | 5 => exact .inr rfl
   | 6 => exact .inr rfl
   | k + 7 => exact .inr rfl
  rcases this with h | h <;> rw [h]
  ·exact hl
  ·exact Nat.zero_le _
 refine H.Am rfl rfl rfl (rsame_fn f _ hqo hq hlo) ?_
 repeat ((apply H.nil))
 refine H.on0 rfl ?_
 refine HB.Aq [(4, false), (5, false), (6, false), (7, false), (8, false), (9, false)] 0 (by kernel_rfl) ?_
 generalize hs : Bod.eqB x.own x = sm
 cases sm with
 | false =>
  have hn : (!false) = true := rfl
  repeat (first | ((apply HQ.Ac); (iterate 3 exact rfl)) | (apply HQ.Bd; (iterate 2 exact rfl)) | (apply HQ.Ax; (iterate 4 exact rfl)) | ((apply HQ.not); (iterate 4 exact rfl)))
  refine HQ.Ap rfl ?_
  refine HB.Bf (by kernel_rfl) ?_
  repeat (first | ((apply H.Ad); (iterate 3 exact rfl)) | (first | apply H.seq | apply H.Ab | apply H.nil | apply H.Aa) | (apply H.Bh; exact rfl) | (first | apply H.ret | apply H.Be))
  refine H.Ah (.here _ _) ?_
  exact H.Aj rfl rfl (fun _ h => h) ⟨rfl, rfl, rfl⟩
 | true =>
  have hn : (!true) = false := rfl
  by_cases hv : x.view < 1073741824
  ·rw [decide_eq_true hv, Bool.true_and, Bool.true_and]
   repeat (first | ((apply HQ.Ac); (iterate 3 exact rfl)) | (apply HQ.Ag; (iterate 3 exact rfl); exact inferInstance; exact rfl) | (apply HQ.Af; (iterate 3 exact rfl); apply Rd1.ofRow; (repeat (exact .here _ _ _)); (iterate 2 exact rfl)) | ((apply HQ.cmp); (iterate 5 exact rfl)) | ((first | apply HQ.Ay | apply HQ.not); (iterate 4 exact rfl)))
   refine HQ.Ap rfl ?_
   refine HB.Bf (by kernel_rfl) ?_
   generalize hk : x.kind.toNat = kind
   match kind, hk with
   | 0, hk =>
    repeat (first | ((apply H.Ad); (iterate 3 exact rfl)) | (apply H.Ag; (iterate 3 exact rfl); exact inferInstance; exact rfl) | (apply H.Af; (iterate 3 exact rfl); apply Rd1.ofRow; (repeat (exact .here _ _ _)); (iterate 2 exact rfl)) | (first | apply H.seq | apply H.Ab | apply H.nil | apply H.Aa) | ((apply H.cmp); (iterate 5 exact rfl)) | (first | apply H.Ak | apply H.ret | apply H.Ao | apply H.Ba) | (apply H.Aw; exact rfl; (omega)))
    refine H.Ah (.here _ _) ?_
    refine H.Aj rfl rfl (fun _ h => h) ⟨?_, rfl, rfl⟩
    simp [Bod.mayK, *]
   | 1, hk =>
    repeat (first | ((apply H.Ad); (iterate 3 exact rfl)) | (apply H.Ag; (iterate 3 exact rfl); exact inferInstance; exact rfl) | (apply H.Af; (iterate 3 exact rfl); apply Rd1.ofRow; (repeat (exact .here _ _ _)); (iterate 2 exact rfl)) | (first | apply H.seq | apply H.Ab | apply H.nil | apply H.Aa) | ((apply H.cmp); (iterate 5 exact rfl)) | (first | apply H.Ak | apply H.ret | apply H.Be | apply H.Ao | apply H.Bx) | (apply H.Au; exact rfl; (omega)) | (apply H.Aw; exact rfl; (omega)) | (refine H.Al (ls := x.req.vals) rfl rfl rfl (zay (by repeat constructor)) rfl rfl ?_) | (refine H.Am rfl rfl rfl (rasked_fn f _ x.req) ?_))
    refine H.Ah (.here _ _) ?_
    refine H.Aj rfl rfl (fun _ h => h) ⟨?_, rfl, rfl⟩
    simp [Bod.mayK, *]
   | 2, hk =>
    by_cases h1 : 1 ≤ x.k
    ·skip
     repeat (first | ((first | apply H.Ac | apply H.Ad); (iterate 3 exact rfl)) | (apply H.Ag; (iterate 3 exact rfl); exact inferInstance; exact rfl) | (apply H.Af; (iterate 3 exact rfl); apply Rd1.ofRow; (repeat (exact .here _ _ _)); (iterate 2 exact rfl)) | (first | apply H.seq | apply H.Ab | apply H.nil | apply H.Aa) | ((apply H.cmp); (iterate 5 exact rfl)) | (apply H.Ax; (iterate 4 exact rfl)) | (first | apply H.Ak | apply H.ret | apply H.Be | apply H.Ao | apply H.Bx) | (apply H.Bi; (iterate 3 exact rfl); (assumption)) | (apply H.Au; exact rfl; (omega)) | (apply H.Aw; exact rfl; (omega)))
     refine H.Ah (.here _ _) ?_
     refine H.Aj rfl rfl (fun _ h => h) ⟨?_, rfl, rfl⟩
     simp [Bod.mayK, *]
    ·skip
     repeat (first | ((first | apply H.Ac | apply H.Ad); (iterate 3 exact rfl)) | (apply H.Ag; (iterate 3 exact rfl); exact inferInstance; exact rfl) | (apply H.Af; (iterate 3 exact rfl); apply Rd1.ofRow; (repeat (exact .here _ _ _)); (iterate 2 exact rfl)) | (first | apply H.seq | apply H.Ab | apply H.nil | apply H.Aa) | ((apply H.cmp); (iterate 5 exact rfl)) | (apply H.Bd; (iterate 2 exact rfl)) | ((apply H.Ay); (iterate 4 exact rfl)) | (first | apply H.Ak | apply H.ret | apply H.Be | apply H.Ao | apply H.Bx) | (apply H.gno; (iterate 3 exact rfl); (assumption)) | (apply H.Au; exact rfl; (omega)) | (apply H.Aw; exact rfl; (omega)))
     refine H.Ah (.here _ _) ?_
     refine H.Aj rfl rfl (fun _ h => h) ⟨?_, rfl, rfl⟩
     simp [Bod.mayK, *]
   | 3, hk =>
    repeat (first | ((apply H.Ad); (iterate 3 exact rfl)) | (apply H.Ag; (iterate 3 exact rfl); exact inferInstance; exact rfl) | (apply H.Af; (iterate 3 exact rfl); apply Rd1.ofRow; (repeat (exact .here _ _ _)); (iterate 2 exact rfl)) | (first | apply H.seq | apply H.Ab | apply H.nil | apply H.Aa) | ((apply H.cmp); (iterate 5 exact rfl)) | (first | apply H.Ak | apply H.ret | apply H.Be | apply H.Ao | apply H.Bx) | (apply H.Au; exact rfl; (omega)) | (apply H.Aw; exact rfl; (omega)))
    refine H.Ah (.here _ _) ?_
    refine H.Aj rfl rfl (fun _ h => h) ⟨?_, rfl, rfl⟩
    simp [Bod.mayK, *]
   | 5, hk =>
    repeat (first | ((apply H.Ad); (iterate 3 exact rfl)) | (apply H.Ag; (iterate 3 exact rfl); exact inferInstance; exact rfl) | (apply H.Af; (iterate 3 exact rfl); apply Rd1.ofRow; (repeat (exact .here _ _ _)); (iterate 2 exact rfl)) | (first | apply H.seq | apply H.Ab | apply H.nil | apply H.Aa) | ((apply H.cmp); (iterate 5 exact rfl)) | (first | apply H.Ak | apply H.ret | apply H.Be | apply H.Ao | apply H.Bx) | (apply H.Au; exact rfl; (omega)) | (apply H.Aw; exact rfl; (omega)))
    refine H.Ah (.here _ _) ?_
    refine H.Aj rfl rfl (fun _ h => h) ⟨?_, rfl, rfl⟩
    simp [Bod.mayK, *]
   | 6, hk =>
    by_cases h1 : 1 ≤ x.k
    ·skip
     repeat (first | ((first | apply H.Ac | apply H.Ad); (iterate 3 exact rfl)) | (apply H.Ag; (iterate 3 exact rfl); exact inferInstance; exact rfl) | (apply H.Af; (iterate 3 exact rfl); apply Rd1.ofRow; (repeat (exact .here _ _ _)); (iterate 2 exact rfl)) | (first | apply H.seq | apply H.Ab | apply H.nil | apply H.Aa) | ((apply H.cmp); (iterate 5 exact rfl)) | (apply H.Ax; (iterate 4 exact rfl)) | (first | apply H.Ak | apply H.ret | apply H.Be | apply H.Ao | apply H.Bx) | (apply H.Bi; (iterate 3 exact rfl); (assumption)) | (apply H.Au; exact rfl; (omega)) | (apply H.Aw; exact rfl; (omega)))
     refine H.Ah (.here _ _) ?_
     refine H.Aj rfl rfl (fun _ h => h) ⟨?_, rfl, rfl⟩
     simp [Bod.mayK, *]
    ·skip
     repeat (first | ((first | apply H.Ac | apply H.Ad); (iterate 3 exact rfl)) | (apply H.Ag; (iterate 3 exact rfl); exact inferInstance; exact rfl) | (apply H.Af; (iterate 3 exact rfl); apply Rd1.ofRow; (repeat (exact .here _ _ _)); (iterate 2 exact rfl)) | (first | apply H.seq | apply H.Ab | apply H.nil | apply H.Aa) | ((apply H.cmp); (iterate 5 exact rfl)) | (apply H.Bd; (iterate 2 exact rfl)) | ((apply H.Ay); (iterate 4 exact rfl)) | (first | apply H.Ak | apply H.ret | apply H.Be | apply H.Ao | apply H.Bx) | (apply H.gno; (iterate 3 exact rfl); (assumption)) | (apply H.Au; exact rfl; (omega)) | (apply H.Aw; exact rfl; (omega)))
     refine H.Ah (.here _ _) ?_
     refine H.Aj rfl rfl (fun _ h => h) ⟨?_, rfl, rfl⟩
     simp [Bod.mayK, *]
   | k + 7, hk =>
    repeat (first | ((apply H.Ad); (iterate 3 exact rfl)) | (apply H.Ag; (iterate 3 exact rfl); exact inferInstance; exact rfl) | (apply H.Af; (iterate 3 exact rfl); apply Rd1.ofRow; (repeat (exact .here _ _ _)); (iterate 2 exact rfl)) | (first | apply H.seq | apply H.Ab | apply H.nil | apply H.Aa) | ((apply H.cmp); (iterate 5 exact rfl)) | (first | apply H.Ak | apply H.ret | apply H.Ao | apply H.Ba) | (apply H.Aw; exact rfl; (omega)))
    refine H.Ah (.here _ _) ?_
    refine H.Aj rfl rfl (fun _ h => h) ⟨?_, rfl, rfl⟩
    simp [Bod.mayK, *]
   | 4, hk => exact absurd ⟨hk, hs, hv⟩ h4
  ·rw [decide_eq_false hv]
   repeat (first | ((apply HQ.Ac); (iterate 3 exact rfl)) | (apply HQ.Ag; (iterate 3 exact rfl); exact inferInstance; exact rfl) | (apply HQ.Af; (iterate 3 exact rfl); apply Rd1.ofRow; (repeat (exact .here _ _ _)); (iterate 2 exact rfl)) | ((apply HQ.cmp); (iterate 5 exact rfl)) | ((first | apply HQ.Ay | apply HQ.not); (iterate 4 exact rfl)))
   refine HQ.Ap rfl ?_
   refine HB.Bf (by kernel_rfl) ?_
   repeat (first | ((apply H.Ad); (iterate 3 exact rfl)) | (first | apply H.seq | apply H.Ab | apply H.nil | apply H.Aa) | (first | apply H.ret | apply H.Be) | (apply H.Au; exact rfl; (omega)))
   refine H.Ah (.here _ _) ?_
   exact H.Aj rfl rfl (fun _ h => h) ⟨rfl, rfl, rfl⟩
theorem rbody_fn {x : Bod} {q : Option Addr} {qc : Nat} (hq : QAt f q x.q) (hl : x.q.length ≤ 1000000000) :
  Fn Tryz.prog 77 [.agg (x.vals q qc).toArray] f F (Ret (.bool x.may) f F) := by
 by_cases h4 : x.kind.toNat = 4 ∧ Bod.eqB x.own x = true ∧ x.view < 1073741824
 ·exact rbody4_fn f F hq hl h4.1 h4.2.1 h4.2.2
 ·exact rbody0_fn f F hq hl h4
end
section
variable (f : Frag) (F : List HP)
theorem rmay_fn {m : Msg} {q : Option Addr} {qc : Nat} (hq : QAt f q m.body.q) (hl : m.body.q.length ≤ 1000000000) :
  Fn Tryz.prog 54 [.agg (m.vals q qc).toArray] f F (Ret (.bool (decide m.outer && m.body.may)) f F) := by
 by_cases h1 : 1 ≤ m.origin
 ·by_cases h2 : m.origin ≤ 11
  ·by_cases h3 : 1 ≤ m.number
   ·by_cases h4 : m.number ≤ 65536
    ·by_cases h5 : m.deps (m.origin.toNat - 1) = m.number - 1
     ·skip
      refine Fn.enter Tryz.func54 rfl Tryz.ntmps54 rfl (L := [(0, _)]) ⟨rfl, trivial⟩ fun base => ?_
      repeat ((first | apply H.seq | apply H.Ab))
      refine H.box (ls := m.vals q qc) rfl rfl rfl rfl fun mb => ?_
      repeat (first | ((apply H.Ad); (iterate 3 exact rfl)) | (first | apply H.seq | apply H.nil | apply H.Aa))
      refine H.Bz (by kernel_rfl) (by decide +kernel) (by repeat (first | exact zab | refine zaa ?_ | refine zac ?_ | refine zae ?_)) ?_
      repeat (first | ((apply HQ.Ac); (iterate 3 exact rfl)) | (apply HQ.Ag; (iterate 3 exact rfl); exact inferInstance; exact rfl) | (apply HQ.Af; (iterate 3 exact rfl); apply Rd1.ofRow; (repeat (exact .here _ _ _)); (iterate 2 exact rfl)) | ((apply HQ.Bu); exact rfl) | ((apply HQ.cmp); (iterate 5 exact rfl)) | ((apply HQ.ar; (iterate 4 exact rfl)); (first | (with_reducible apply wr_i64; omega) | (with_reducible apply wr_u64; omega)); exact rfl) | ((apply HQ.Ay); (iterate 4 exact rfl)) | (apply HQ.gno; (iterate 3 exact rfl); (omega)) | (refine HQ.Br (i := (m.origin.toNat - 1)) rfl rfl rfl (by omega) (by omega) rfl ?_) | (refine HQ.Af rfl rfl rfl (.of (zak (by repeat constructor)) (by rw [Nat.mul_one]; exact zam m.deps (by omega))) rfl ?_))
      repeat (first | ((apply H.Ad); (iterate 3 exact rfl)) | (first | apply H.seq | apply H.Ab | apply H.nil | apply H.Aa) | (first | apply H.Ak | apply H.Ao) | (apply H.Aw; exact rfl; (omega)))
      refine H.Bo (ι := Nat) (fun i => [(3, .int .i64 (i : Int)), (1, .pointer (some ⟨mb, 0, none⟩))]) (fun _ => f) (fun _ => row mb 47 (m.vals q qc) :: F) (fun i => i ≤ 11 ∧ ∀ j, j < i → m.deps j ≤ 65536) (fun i => 11 - i) 0 ⟨Nat.zero_le _, fun j hj => absurd hj (Nat.not_lt_zero j)⟩ ⟨rfl, rfl, trivial⟩ rfl rfl fun i hi => ?_
      obtain ⟨hi, hle⟩ : i ≤ 11 ∧ ∀ j, j < i → m.deps j ≤ 65536 := hi
      by_cases hlt : i < 11
      ·repeat (first | ((apply H.Ac); (iterate 3 exact rfl)) | (apply H.Ag; (iterate 3 exact rfl); exact inferInstance; exact rfl) | (first | apply H.seq | apply H.Ab | apply H.nil | apply H.Aa) | ((apply H.cmp); (iterate 5 exact rfl)) | (first | apply H.Ak | apply H.Ao) | (apply H.Au; exact rfl; (omega)))
       refine H.Br (i := i) rfl rfl rfl rfl hlt rfl ?_
       refine H.Af rfl rfl rfl (.of (zak (by repeat constructor)) (by rw [Nat.mul_one]; exact zam m.deps hlt)) rfl ?_
       by_cases h6 : m.deps i ≤ 65536
       ·repeat (first | ((first | apply H.Ac | apply H.Ad); (iterate 3 exact rfl)) | (first | apply H.Ab | apply H.nil | apply H.Aa) | ((apply H.cmp); (iterate 5 exact rfl)) | ((apply H.ar; (iterate 4 exact rfl)); (with_reducible apply zag; omega); exact rfl) | (first | apply H.Ak | apply H.Ba) | (apply H.Aw; exact rfl; (omega)))
        exact H.Bc (i + 1) ⟨by show i + 1 ≤ 11; omega, fun j hj => by
         by_cases e : j = i
         ·rw [e]; exact h6
         ·exact hle j (by have : j < i + 1 := hj; omega)⟩ (by show 11 - (i + 1) < 11 - i; omega) ⟨rfl, rfl, trivial⟩ rfl rfl
       ·repeat (first | ((apply H.Ad); (iterate 3 exact rfl)) | (first | apply H.seq | apply H.Ab | apply H.nil | apply H.Aa) | ((apply H.cmp); (iterate 5 exact rfl)) | (first | apply H.ret | apply H.Be | apply H.Bx | apply H.Cd) | (apply H.Au; exact rfl; (omega)))
        refine H.Ah (.here _ _) ?_
        refine H.Aj rfl rfl (fun _ h => h) ⟨?_, rfl, rfl⟩
        rw [decide_eq_false (fun h => h6 ((maxTo_le m.deps 65536 10).1 h.2.2.2.2.2 i (by omega)))]
        rfl
      ·have hi11 : i = 11 := by omega
       subst hi11
       have h7 : m.outer := ⟨h1, h2, h3, h4, h5, (maxTo_le m.deps 65536 10).2 fun j hj => hle j (by omega)⟩
       rw [decide_eq_true h7, Bool.true_and]
       repeat (first | ((apply H.Ac); (iterate 3 exact rfl)) | (apply H.Ag; (iterate 3 exact rfl); exact inferInstance; exact rfl) | (first | apply H.seq | apply H.Ab | apply H.nil | apply H.Aa) | ((apply H.cmp); (iterate 5 exact rfl)) | (apply H.Av; exact rfl) | (first | apply H.Bl | apply H.Bj | apply H.Bk | apply H.Bm))
       refine H.Al (ls := m.body.vals q qc) rfl rfl rfl (msg_body (by repeat constructor)) rfl rfl ?_
       refine H.Am rfl rfl rfl (rbody_fn f _ hq hl) ?_
       repeat (first | ((apply H.Ad); (iterate 3 exact rfl)) | (first | apply H.nil | apply H.Aa) | (apply H.ret))
       refine H.Ah (.here _ _) ?_
       exact H.Aj rfl rfl (fun _ h => h) ⟨rfl, rfl, rfl⟩
     ·skip
      refine Fn.enter Tryz.func54 rfl Tryz.ntmps54 rfl (L := [(0, _)]) ⟨rfl, trivial⟩ fun base => ?_
      repeat ((first | apply H.seq | apply H.Ab))
      refine H.box (ls := m.vals q qc) rfl rfl rfl rfl fun mb => ?_
      repeat (first | ((apply H.Ad); (iterate 3 exact rfl)) | (first | apply H.seq | apply H.nil | apply H.Aa))
      refine H.Bz (by kernel_rfl) (by decide +kernel) (by repeat (first | exact zab | refine zaa ?_ | refine zac ?_ | refine zae ?_)) ?_
      repeat (first | ((apply HQ.Ac); (iterate 3 exact rfl)) | (apply HQ.Ag; (iterate 3 exact rfl); exact inferInstance; exact rfl) | (apply HQ.Af; (iterate 3 exact rfl); apply Rd1.ofRow; (repeat (exact .here _ _ _)); (iterate 2 exact rfl)) | ((apply HQ.Bu); exact rfl) | ((apply HQ.cmp); (iterate 5 exact rfl)) | ((apply HQ.ar; (iterate 4 exact rfl)); (first | (with_reducible apply wr_i64; omega) | (with_reducible apply wr_u64; omega)); exact rfl) | ((apply HQ.Ay); (iterate 4 exact rfl)) | (apply HQ.gno; (iterate 3 exact rfl); (omega)) | (refine HQ.Br (i := (m.origin.toNat - 1)) rfl rfl rfl (by omega) (by omega) rfl ?_) | (refine HQ.Af rfl rfl rfl (.of (zak (by repeat constructor)) (by rw [Nat.mul_one]; exact zam m.deps (by omega))) rfl ?_))
      repeat (first | ((apply H.Ad); (iterate 3 exact rfl)) | (first | apply H.seq | apply H.Ab | apply H.nil | apply H.Aa) | (first | apply H.ret | apply H.Be) | (apply H.Au; exact rfl; (assumption)))
      refine H.Ah (.here _ _) ?_
      refine H.Aj rfl rfl (fun _ h => h) ⟨?_, rfl, rfl⟩
      simp [Msg.outer, *]
    ·skip
     refine Fn.enter Tryz.func54 rfl Tryz.ntmps54 rfl (L := [(0, _)]) ⟨rfl, trivial⟩ fun base => ?_
     repeat ((first | apply H.seq | apply H.Ab))
     refine H.box (ls := m.vals q qc) rfl rfl rfl rfl fun mb => ?_
     repeat (first | ((apply H.Ad); (iterate 3 exact rfl)) | (first | apply H.seq | apply H.nil | apply H.Aa))
     refine H.Bz (by kernel_rfl) (by decide +kernel) (by repeat (first | exact zab | refine zaa ?_ | refine zac ?_ | refine zae ?_)) ?_
     repeat (first | ((apply HQ.Ac); (iterate 3 exact rfl)) | (apply HQ.Ag; (iterate 3 exact rfl); exact inferInstance; exact rfl) | (apply HQ.Af; (iterate 3 exact rfl); apply Rd1.ofRow; (repeat (exact .here _ _ _)); (iterate 2 exact rfl)) | ((apply HQ.Bu); exact rfl) | ((apply HQ.cmp); (iterate 5 exact rfl)) | (apply HQ.Bd; (iterate 2 exact rfl)) | (apply HQ.Ax; (iterate 4 exact rfl)) | ((apply HQ.Ay); (iterate 4 exact rfl)) | (apply HQ.Bi; (iterate 3 exact rfl); (omega)) | (apply HQ.gno; (iterate 3 exact rfl); (omega)))
     repeat (first | ((apply H.Ad); (iterate 3 exact rfl)) | (first | apply H.seq | apply H.Ab | apply H.nil | apply H.Aa) | (apply H.Bh; exact rfl) | (first | apply H.ret | apply H.Be))
     refine H.Ah (.here _ _) ?_
     refine H.Aj rfl rfl (fun _ h => h) ⟨?_, rfl, rfl⟩
     simp [Msg.outer, *]
   ·skip
    refine Fn.enter Tryz.func54 rfl Tryz.ntmps54 rfl (L := [(0, _)]) ⟨rfl, trivial⟩ fun base => ?_
    repeat ((first | apply H.seq | apply H.Ab))
    refine H.box (ls := m.vals q qc) rfl rfl rfl rfl fun mb => ?_
    repeat (first | ((apply H.Ad); (iterate 3 exact rfl)) | (first | apply H.seq | apply H.nil | apply H.Aa))
    refine H.Bz (by kernel_rfl) (by decide +kernel) (by repeat (first | exact zab | refine zaa ?_ | refine zac ?_ | refine zae ?_)) ?_
    repeat (first | ((apply HQ.Ac); (iterate 3 exact rfl)) | (apply HQ.Ag; (iterate 3 exact rfl); exact inferInstance; exact rfl) | (apply HQ.Af; (iterate 3 exact rfl); apply Rd1.ofRow; (repeat (exact .here _ _ _)); (iterate 2 exact rfl)) | ((apply HQ.Bu); exact rfl) | ((apply HQ.cmp); (iterate 5 exact rfl)) | (apply HQ.Bd; (iterate 2 exact rfl)) | (apply HQ.Ax; (iterate 4 exact rfl)) | ((apply HQ.Ay); (iterate 4 exact rfl)) | (apply HQ.Bi; (iterate 3 exact rfl); (omega)) | (apply HQ.gno; (iterate 3 exact rfl); (omega)))
    repeat (first | ((apply H.Ad); (iterate 3 exact rfl)) | (first | apply H.seq | apply H.Ab | apply H.nil | apply H.Aa) | (apply H.Bh; exact rfl) | (first | apply H.ret | apply H.Be))
    refine H.Ah (.here _ _) ?_
    refine H.Aj rfl rfl (fun _ h => h) ⟨?_, rfl, rfl⟩
    simp [Msg.outer, *]
  ·skip
   refine Fn.enter Tryz.func54 rfl Tryz.ntmps54 rfl (L := [(0, _)]) ⟨rfl, trivial⟩ fun base => ?_
   repeat ((first | apply H.seq | apply H.Ab))
   refine H.box (ls := m.vals q qc) rfl rfl rfl rfl fun mb => ?_
   repeat (first | ((apply H.Ad); (iterate 3 exact rfl)) | (first | apply H.seq | apply H.nil | apply H.Aa))
   refine H.Bz (by kernel_rfl) (by decide +kernel) (by repeat (first | exact zab | refine zaa ?_ | refine zac ?_ | refine zae ?_)) ?_
   repeat (first | ((apply HQ.Ac); (iterate 3 exact rfl)) | (apply HQ.Ag; (iterate 3 exact rfl); exact inferInstance; exact rfl) | (apply HQ.Af; (iterate 3 exact rfl); apply Rd1.ofRow; (repeat (exact .here _ _ _)); (iterate 2 exact rfl)) | ((apply HQ.Bu); exact rfl) | ((apply HQ.cmp); (iterate 5 exact rfl)) | (apply HQ.Bd; (iterate 2 exact rfl)) | (apply HQ.Ax; (iterate 4 exact rfl)) | ((apply HQ.Ay); (iterate 4 exact rfl)) | (apply HQ.Bi; (iterate 3 exact rfl); (omega)) | (apply HQ.gno; (iterate 3 exact rfl); (omega)))
   repeat (first | ((apply H.Ad); (iterate 3 exact rfl)) | (first | apply H.seq | apply H.Ab | apply H.nil | apply H.Aa) | (apply H.Bh; exact rfl) | (first | apply H.ret | apply H.Be))
   refine H.Ah (.here _ _) ?_
   refine H.Aj rfl rfl (fun _ h => h) ⟨?_, rfl, rfl⟩
   simp [Msg.outer, *]
 ·skip
  refine Fn.enter Tryz.func54 rfl Tryz.ntmps54 rfl (L := [(0, _)]) ⟨rfl, trivial⟩ fun base => ?_
  repeat ((first | apply H.seq | apply H.Ab))
  refine H.box (ls := m.vals q qc) rfl rfl rfl rfl fun mb => ?_
  repeat (first | ((apply H.Ad); (iterate 3 exact rfl)) | (first | apply H.seq | apply H.nil | apply H.Aa))
  refine H.Bz (by kernel_rfl) (by decide +kernel) (by repeat (first | exact zab | refine zaa ?_ | refine zac ?_ | refine zae ?_)) ?_
  repeat (first | ((apply HQ.Ac); (iterate 3 exact rfl)) | (apply HQ.Ag; (iterate 3 exact rfl); exact inferInstance; exact rfl) | (apply HQ.Af; (iterate 3 exact rfl); apply Rd1.ofRow; (repeat (exact .here _ _ _)); (iterate 2 exact rfl)) | ((apply HQ.Bu); exact rfl) | ((apply HQ.cmp); (iterate 5 exact rfl)) | (apply HQ.Bd; (iterate 2 exact rfl)) | (apply HQ.Ax; (iterate 4 exact rfl)) | (apply HQ.Bi; (iterate 3 exact rfl); (omega)))
  repeat (first | ((apply H.Ad); (iterate 3 exact rfl)) | (first | apply H.seq | apply H.Ab | apply H.nil | apply H.Aa) | (apply H.Bh; exact rfl) | (first | apply H.ret | apply H.Be))
  refine H.Ah (.here _ _) ?_
  refine H.Aj rfl rfl (fun _ h => h) ⟨?_, rfl, rfl⟩
  simp [Msg.outer, *]
end
def depsB (d : Nat → Int) : Nat → List UInt8
 | 0 => []
 | i + 1 => depsB d i ++ be 8 (d i)
theorem depsB_len (d : Nat → Int) : ∀ n, (depsB d n).length = 8 * n
 | 0 => rfl
 | n + 1 => by simp only [depsB, List.length_append, be_len, depsB_len d n]; omega
def Msg.tagged (m : Msg) : List UInt8 := [b8 m.origin] ++ depsB m.deps 11 ++ [m.body.kind] ++ m.body.put
def Msg.may (m : Msg) : Bool := decide m.outer && m.body.may
def Msg.bytes (m : Msg) : List UInt8 := if m.may = true then m.tagged else []
theorem H.asSlc {P : Program} {base : World} {n : Nat} {L : Env} {f : Frag} {A : List HP} {K : Kont} {b k sz : Nat} {T : TypeId} {ls : List Value} (hl : ls.length = k * sz) (hk : k ≤ 9223372036854775807)
  (h : H P base n L f (slc (some ⟨b, 0, none⟩) k k T sz ls :: A) K) : H P base n L f (row b T ls :: A) K :=
 H.imp (A' := slc (some ⟨b, 0, none⟩) k k T sz ls :: A) (fun x ⟨m1, m2, d, e, a, r⟩ => ⟨m1, m2, d, e, row_slc hl hk a, r⟩) h
theorem b8_small {z : Int} (h : 0 ≤ z ∧ z < 256) : ((b8 z).toNat : Int) = z := by
 unfold b8
 rw [UInt8.toNat_ofNat']
 omega
theorem quo_len : ∀ (q : List (Int × Int)) (w : Int), w ≤ 11 → quo w q = true → (q.length : Int) ≤ 11 - w
 | [], w, hw, _ => by simp; omega
 | p :: r, w, hw, h => by
  unfold quo at h
  split at h
  ·cases h
  ·have ih := quo_len r p.1 (by omega) h
   rw [List.length_cons]; omega
theorem Bod.may_spec {x : Bod} (h : x.may = true) : Bod.eqB x.own x = true ∧ x.view < 1073741824 ∧ x.mayK x.kind.toNat = true := by
 unfold Bod.may at h
 simp only [Bool.and_eq_true, decide_eq_true_eq] at h
 exact ⟨h.1.1, h.1.2, h.2⟩
theorem Bod.eqB_q {a b : Bod} (h : Bod.eqB a b = true) : a.q = b.q := by
 unfold Bod.eqB at h
 simp only [Bool.and_eq_true, decide_eq_true_eq] at h
 exact h.1.2
theorem Bod.may_q {x : Bod} (h : x.may = true) : x.q.length ≤ 11 := by
 obtain ⟨h1, h2, h3⟩ := Bod.may_spec h
 have h4 := Bod.eqB_q h1
 unfold Bod.own at h4
 generalize hk : x.kind.toNat = k at h3 h4
 match k, h3, h4 with
 | 0, h3, _ => exact absurd h3 (by simp [Bod.mayK])
 | 1, _, h4 => have h4 : [] = x.q := h4; rw [← h4]; exact Nat.zero_le _
 | 2, _, h4 => have h4 : [] = x.q := h4; rw [← h4]; exact Nat.zero_le _
 | 3, _, h4 => have h4 : [] = x.q := h4; rw [← h4]; exact Nat.zero_le _
 | 5, _, h4 => have h4 : [] = x.q := h4; rw [← h4]; exact Nat.zero_le _
 | 6, _, h4 => have h4 : [] = x.q := h4; rw [← h4]; exact Nat.zero_le _
 | k + 7, h3, _ => exact absurd h3 (by simp [Bod.mayK])
 | 4, h3, _ =>
  simp only [Bod.mayK, Bool.and_eq_true, decide_eq_true_eq] at h3
  have := quo_len x.q 0 (by omega) h3.2.1
  omega
theorem Msg.may_body {m : Msg} (h : m.may = true) : m.body.may = true := by
 unfold Msg.may at h
 simp only [Bool.and_eq_true] at h
 exact h.2
section
variable (f : Frag) (F : List HP)
theorem rbytes_fn {m : Msg} {q : Option Addr} {qc : Nat} (hq : QAt f q m.body.q) (hl : m.body.q.length ≤ 1000000000) :
  Fn Tryz.prog 61 [.agg (m.vals q qc).toArray] f F (BytesR m.bytes f F) := by
 have hmay := fun G => rmay_fn (m := m) (qc := qc) f G hq hl
 unfold Msg.bytes
 have e0 : m.may = (decide m.outer && m.body.may) := rfl
 rw [← e0] at hmay
 by_cases hm : m.may = true
 ·rw [if_pos hm]
  rw [hm] at hmay
  refine Fn.enter Tryz.func61 rfl Tryz.ntmps61 rfl (L := [(0, _)]) ⟨rfl, trivial⟩ fun base => ?_
  repeat ((first | apply H.seq | apply H.Ab))
  refine H.box (ls := m.vals q qc) rfl rfl rfl rfl fun mb => ?_
  repeat (first | ((apply H.Ad); (iterate 3 exact rfl)) | (first | apply H.seq | apply H.Ab | apply H.nil | apply H.Aa))
  refine H.Al (ls := m.vals q qc) rfl rfl rfl (Rd.ofRow (by repeat constructor)) rfl rfl ?_
  refine H.Am rfl rfl rfl (hmay _) ?_
  repeat (first | (apply H.Ag; (iterate 3 exact rfl); exact inferInstance; exact rfl) | (apply H.Af; (iterate 3 exact rfl); apply Rd1.ofRow; (repeat (exact .here _ _ _)); (iterate 2 exact rfl)) | (first | apply H.seq | apply H.Ab | apply H.nil | apply H.Aa) | ((apply H.Bp; (iterate 2 exact rfl)); (rfl); exact rfl) | ((apply H.not); (iterate 4 exact rfl)) | (apply H.Av; exact rfl) | (apply H.Ak))
  rw [u8_b8]
  refine H.Bw (out := bytesV [b8 m.origin]) rfl rfl rfl rfl (by decide) (by decide) rfl rfl fun tb => ?_
  refine H.asSlc (k := 1) (sz := 1) rfl (by decide) ?_
  repeat (first | ((apply H.Ad); (iterate 3 exact rfl)) | (first | apply H.seq | apply H.Ab | apply H.nil | apply H.Aa) | (apply H.Ao))
  generalize hB0 : [b8 m.origin] = B0
  have hB0l : B0.length = 1 := by rw [← hB0]; rfl
  refine H.Ae (.there _ (.here _ _)) ?_
  refine H.Bo (ι := Nat × Option Addr × Nat) (fun i => [(4, .int .i64 (i.1 : Int)), (3, .slice i.2.1 (B0 ++ depsB m.deps i.1).length i.2.2), (1, .pointer (some ⟨mb, 0, none⟩))]) (fun _ => f)
   (fun i => row mb 47 (m.vals q qc) :: slc i.2.1 (B0 ++ depsB m.deps i.1).length i.2.2 5 1 (bytesV (B0 ++ depsB m.deps i.1)) :: F) (fun i => i.1 ≤ 11) (fun i => 11 - i.1) (0, some ⟨tb, 0, none⟩, 1) (Nat.zero_le _) ⟨rfl, ?_, rfl, trivial⟩ rfl ?_ fun i hi => ?_
  ·show some (Value.slice _ 1 1) = some (Value.slice _ (B0 ++ []).length 1)
   rw [List.append_nil, hB0l]
  ·show _ = _ :: slc _ (B0 ++ []).length 1 _ 1 (bytesV (B0 ++ [])) :: F
   rw [List.append_nil, hB0l]
  ·obtain ⟨i, p', c'⟩ := i
   have hi : i ≤ 11 := hi
   show H _ _ _ [(4, .int .i64 (i : Int)), (3, .slice p' (B0 ++ depsB m.deps i).length c'), _] _ (_ :: slc p' (B0 ++ depsB m.deps i).length c' _ 1 (bytesV (B0 ++ depsB m.deps i)) :: F) _
   have hal : (B0 ++ depsB m.deps i).length = 1 + 8 * i := by rw [List.length_append, depsB_len, hB0l]
   by_cases hlt : i < 11
   ·have e1 : B0 ++ depsB m.deps (i + 1) = (B0 ++ depsB m.deps i) ++ be 8 (m.deps i) := by simp only [depsB, List.append_assoc]
    generalize B0 ++ depsB m.deps i = acc at hal e1 ⊢
    repeat (first | ((apply H.Ac); (iterate 3 exact rfl)) | (apply H.Ag; (iterate 3 exact rfl); exact inferInstance; exact rfl) | (first | apply H.seq | apply H.Ab | apply H.nil | apply H.Aa) | ((apply H.cmp); (iterate 5 exact rfl)) | (first | apply H.Ak | apply H.Ao) | (apply H.Au; exact rfl; (omega)))
    refine H.Br (i := i) rfl rfl rfl rfl hlt rfl ?_
    refine H.Af rfl rfl rfl (.of (zak (by repeat constructor)) (by rw [Nat.mul_one]; exact zam m.deps hlt)) rfl ?_
    refine H.Bn rfl rfl rfl (zbb (l := acc) f _ (Src.slcS (by repeat constructor) (by rw [zaf]; exact (Nat.mul_one _).symm)) (by omega)) fun p1 c1 => ?_
    repeat (first | ((first | apply H.Ac | apply H.Ad); (iterate 3 exact rfl)) | (first | apply H.Ab | apply H.nil | apply H.Aa) | ((apply H.ar; (iterate 4 exact rfl)); (with_reducible apply zag; omega); exact rfl) | (apply H.Ba))
    refine H.Ah (x := slc p' _ c' _ _ _) (by repeat constructor) ?_
    refine H.Ae (.there _ (.here _ _)) ?_
    refine H.Bc (i + 1, p1, c1) (by show i + 1 ≤ 11; omega) (by show 11 - (i + 1) < 11 - i; omega) ⟨rfl, ?_, rfl, trivial⟩ rfl ?_
    ·show some _ = some (Value.slice p1 (B0 ++ depsB m.deps (i + 1)).length c1)
     rw [e1]
    ·show _ = _ :: slc p1 (B0 ++ depsB m.deps (i + 1)).length c1 _ 1 (bytesV (B0 ++ depsB m.deps (i + 1))) :: F
     rw [e1]
   ·have hi11 : i = 11 := by omega
    subst hi11
    generalize hacc : B0 ++ depsB m.deps 11 = acc at hal ⊢
    repeat (first | ((apply H.Ac); (iterate 3 exact rfl)) | (apply H.Ag; (iterate 3 exact rfl); exact inferInstance; exact rfl) | (first | apply H.seq | apply H.Ab | apply H.nil | apply H.Aa) | ((apply H.cmp); (iterate 5 exact rfl)) | (apply H.Av; exact rfl) | (first | apply H.Bl | apply H.Bj | apply H.Bk | apply H.Bm))
    refine H.Al (ls := m.body.vals q qc) rfl rfl rfl (msg_body (by repeat constructor)) rfl rfl ?_
    refine H.Bg (ls := (Bod.zero 0).vals none 0) rfl rfl rfl fun yb => ?_
    refine H.Bb (ls := (Bod.zero 0).vals none 0) (vs := m.body.vals q qc) (ls' := m.body.vals q qc) rfl rfl rfl (zad rfl) rfl rfl (Nat.le_refl 76) (by repeat constructor) ?_
    repeat (first | ((apply H.Ac); (iterate 3 exact rfl)) | (apply H.Ag; (iterate 3 exact rfl); exact inferInstance; exact rfl) | (apply H.Af; (iterate 3 exact rfl); apply Rd1.ofRow; (repeat (exact .here _ _ _)); (iterate 2 exact rfl)) | (first | apply H.seq | apply H.Ab | apply H.nil | apply H.Aa))
    refine H.Bw (out := bytesV [m.body.kind]) rfl rfl rfl rfl (by decide) (by decide) rfl rfl fun tb => ?_
    refine H.Bv (m := 1) (xs := bytesV acc) rfl rfl rfl rfl rfl (fun p' c' => (by repeat constructor)) (Src.slice (Rd.ofRow (by repeat constructor)) rfl) (zai _) rfl (by omega) (by omega) fun p2 c2 => ?_
    repeat (first | ((apply H.Ad); (iterate 3 exact rfl)) | (apply H.Ag; (iterate 3 exact rfl); exact inferInstance; exact rfl) | (apply H.Af; (iterate 3 exact rfl); apply Rd1.ofRow; (repeat (first | exact .here _ _ _ | apply At.there)); (iterate 2 exact rfl)) | (first | apply H.seq | apply H.Ab | apply H.nil | apply H.Aa) | ((apply H.cmp); (iterate 5 exact rfl)))
    refine H.Ah (x := row tb _ _) (by repeat constructor) ?_
    have e2 : (acc ++ [m.body.kind]).length = acc.length + 1 := by rw [List.length_append]; rfl
    have e3 : bytesV (acc ++ [m.body.kind]) = bytesV acc ++ bytesV [m.body.kind] := zah _ _
    show H _ _ _ ((33, _) :: (32, _) :: (31, _) :: (3, .slice p2 (acc.length + 1) c2) :: _) _ (_ :: _ :: slc p2 (acc.length + 1) c2 _ 1 (bytesV acc ++ bytesV [m.body.kind]) :: F) _
    rw [← e2, ← e3]
    have htag : m.tagged = (acc ++ [m.body.kind]) ++ m.body.putK m.body.kind.toNat := by rw [← hacc, ← hB0]; rfl
    rw [htag]
    have hal2 : (acc ++ [m.body.kind]).length = 90 := by omega
    generalize acc ++ [m.body.kind] = l0 at hal2 ⊢
    have hbm := Bod.may_spec (Msg.may_body hm)
    have hql := Bod.may_q (Msg.may_body hm)
    have hmk := hbm.2.2
    generalize hk : m.body.kind.toNat = kind at hmk
    match kind, hk, hmk with
    | 0, hk, hmk => exact absurd hmk (by simp [Bod.mayK])
    | k + 7, hk, hmk => exact absurd hmk (by simp [Bod.mayK])
    | 2, hk, hmk =>
     repeat (first | ((apply H.Ac); (iterate 3 exact rfl)) | (apply H.Ag; (iterate 3 exact rfl); exact inferInstance; exact rfl) | (apply H.Af; (iterate 3 exact rfl); apply Rd1.ofRow; (repeat (exact .here _ _ _)); (iterate 2 exact rfl)) | (apply H.Ab) | (apply H.Bh; exact rfl))
     refine H.Bn rfl rfl rfl (zbb (l := l0) f _ (Src.slcS (by repeat constructor) (by rw [zaf]; exact (Nat.mul_one _).symm)) (by omega)) fun p3 c3 => ?_
     refine H.Ah (x := slc p2 _ c2 _ _ _) (by repeat constructor) ?_
     have e4 : (l0 ++ be 8 m.body.view).length = 98 := by rw [List.length_append, be_len, hal2]
     generalize hl1 : l0 ++ be 8 m.body.view = l1 at e4
     repeat (first | ((first | apply H.Ac | apply H.Ad); (iterate 3 exact rfl)) | (apply H.Ag; (iterate 3 exact rfl); exact inferInstance; exact rfl) | (apply H.Af; (iterate 3 exact rfl); apply Rd1.ofRow; (repeat (first | exact .here _ _ _ | apply At.there)); (iterate 2 exact rfl)) | (first | apply H.seq | apply H.Ab | apply H.nil | apply H.Aa) | ((apply H.cmp); (iterate 5 exact rfl)) | (apply H.Ao) | (apply H.Au; exact rfl; (omega)) | (apply H.Aw; exact rfl; (omega)))
     refine H.Bn rfl rfl rfl (zbb (l := l1) f _ (Src.slcS (by repeat constructor) (by rw [zaf]; exact (Nat.mul_one _).symm)) (by omega)) fun p4 c4 => ?_
     refine H.Ah (x := slc p3 _ c3 _ _ _) (by repeat constructor) ?_
     repeat (first | ((first | apply H.Ac | apply H.Ad); (iterate 3 exact rfl)) | (first | apply H.seq | apply H.Ab | apply H.nil | apply H.Aa) | (first | apply H.ret | apply H.Ba))
     refine H.Ah (x := row yb _ _) (by repeat constructor) ?_
     refine H.Ah (x := row mb _ _) (by repeat constructor) ?_
     have e9 : l0 ++ m.body.putK 2 = l1 ++ be 8 m.body.k := by rw [← hl1]; simp only [Bod.putK, List.append_assoc]
     exact H.Aj rfl rfl (fun _ h => h) ⟨p4, c4, by rw [e9], rfl, by rw [e9]⟩
    | 3, hk, hmk =>
     repeat (first | ((apply H.Ac); (iterate 3 exact rfl)) | (apply H.Ag; (iterate 3 exact rfl); exact inferInstance; exact rfl) | (apply H.Af; (iterate 3 exact rfl); apply Rd1.ofRow; (repeat (exact .here _ _ _)); (iterate 2 exact rfl)) | (apply H.Ab) | (apply H.Bh; exact rfl))
     refine H.Bn rfl rfl rfl (zbb (l := l0) f _ (Src.slcS (by repeat constructor) (by rw [zaf]; exact (Nat.mul_one _).symm)) (by omega)) fun p3 c3 => ?_
     refine H.Ah (x := slc p2 _ c2 _ _ _) (by repeat constructor) ?_
     repeat (first | ((first | apply H.Ac | apply H.Ad); (iterate 3 exact rfl)) | (apply H.Ag; (iterate 3 exact rfl); exact inferInstance; exact rfl) | (apply H.Af; (iterate 3 exact rfl); apply Rd1.ofRow; (repeat (first | exact .here _ _ _ | apply At.there)); (iterate 2 exact rfl)) | (first | apply H.seq | apply H.Ab | apply H.nil | apply H.Aa) | ((apply H.cmp); (iterate 5 exact rfl)) | (first | apply H.Ak | apply H.ret | apply H.Ao | apply H.Ba) | (apply H.Aw; exact rfl; (omega)))
     refine H.Ah (x := row yb _ _) (by repeat constructor) ?_
     refine H.Ah (x := row mb _ _) (by repeat constructor) ?_
     exact H.Aj rfl rfl (fun _ h => h) ⟨p3, c3, rfl, rfl, rfl⟩
    | 5, hk, hmk =>
     repeat (first | ((apply H.Ac); (iterate 3 exact rfl)) | (apply H.Ag; (iterate 3 exact rfl); exact inferInstance; exact rfl) | (apply H.Af; (iterate 3 exact rfl); apply Rd1.ofRow; (repeat (exact .here _ _ _)); (iterate 2 exact rfl)) | (apply H.Ab) | (apply H.Bh; exact rfl))
     refine H.Bn rfl rfl rfl (zbb (l := l0) f _ (Src.slcS (by repeat constructor) (by rw [zaf]; exact (Nat.mul_one _).symm)) (by omega)) fun p3 c3 => ?_
     refine H.Ah (x := slc p2 _ c2 _ _ _) (by repeat constructor) ?_
     repeat (first | ((first | apply H.Ac | apply H.Ad); (iterate 3 exact rfl)) | (apply H.Ag; (iterate 3 exact rfl); exact inferInstance; exact rfl) | (apply H.Af; (iterate 3 exact rfl); apply Rd1.ofRow; (repeat (first | exact .here _ _ _ | apply At.there)); (iterate 2 exact rfl)) | (first | apply H.seq | apply H.Ab | apply H.nil | apply H.Aa) | ((apply H.cmp); (iterate 5 exact rfl)) | (first | apply H.Ak | apply H.ret | apply H.Ao | apply H.Ba) | (apply H.Aw; exact rfl; (omega)))
     refine H.Ah (x := row yb _ _) (by repeat constructor) ?_
     refine H.Ah (x := row mb _ _) (by repeat constructor) ?_
     exact H.Aj rfl rfl (fun _ h => h) ⟨p3, c3, rfl, rfl, rfl⟩
    | 6, hk, hmk =>
     repeat (first | ((apply H.Ad); (iterate 3 exact rfl)) | (apply H.Ag; (iterate 3 exact rfl); exact inferInstance; exact rfl) | (apply H.Af; (iterate 3 exact rfl); apply Rd1.ofRow; (repeat (exact .here _ _ _)); (iterate 2 exact rfl)) | (first | apply H.seq | apply H.Ab | apply H.nil | apply H.Aa) | ((apply H.cmp); (iterate 5 exact rfl)) | (apply H.Av; exact rfl) | (first | apply H.Ak | apply H.Ao) | (apply H.Au; exact rfl; (omega)) | (apply H.Aw; exact rfl; (omega)))
     refine H.Bt (by kernel_rfl) (by decide +kernel) (by repeat (first | exact zab | refine zaa ?_ | refine zac ?_ | refine zae ?_)) (S := [_]) rfl ?_
     refine HB.Aq [(0, false), (1, false), (2, false), (4, false), (5, false)] 3 (by kernel_rfl) ?_
     repeat (first | ((apply HQ.Ac); (iterate 3 exact rfl)) | (apply HQ.Ag; (iterate 3 exact rfl); exact inferInstance; exact rfl) | (apply HQ.Af; (iterate 3 exact rfl); apply Rd1.ofRow; (repeat (exact .here _ _ _)); (iterate 2 exact rfl)))
     refine HQ.Ci (lo := none) (hi := none) (mx := none) (lv := 0) (hv := 32) (mv := 32) rfl rfl rfl rfl rfl (fun h => by cases h) (by decide) (by decide) (by decide) rfl ?_
     refine HQ.Ap rfl ?_
     refine HB.ev1 (i := 3) (by kernel_rfl) rfl ?_
     refine H.Bn rfl rfl rfl (zbb (l := l0) f _ (Src.slcS (by repeat constructor) (by rw [zaf]; exact (Nat.mul_one _).symm)) (by omega)) fun p3 c3 => ?_
     repeat ((apply H.nil))
     refine H.Ah (x := slc p2 _ c2 _ _ _) (by repeat constructor) ?_
     refine H.Ae (x := row yb _ _) (by repeat constructor) ?_
     refine H.on0 rfl ?_
     have e4 : (l0 ++ be 8 m.body.k).length = 98 := by rw [List.length_append, be_len, hal2]
     generalize hl1 : l0 ++ be 8 m.body.k = l1 at e4
     refine HB.ev1 (i := 6) (by kernel_rfl) rfl ?_
     refine H.Bv (m := 32) (xs := bytesV l1) rfl rfl rfl rfl rfl (fun p' c' => (by repeat constructor)) (Src.slice (row_dig (by repeat constructor)) rfl) (zai _) rfl (by omega) (by omega) fun p4 c4 => ?_
     repeat ((apply H.nil))
     refine H.on0 rfl ?_
     refine HB.Aq [(7, false)] 0 (by kernel_rfl) ?_
     repeat (((apply HQ.Ad); (iterate 3 exact rfl)))
     refine HQ.Ap rfl ?_
     refine HB.Bf (by kernel_rfl) ?_
     repeat (first | ((first | apply H.Ac | apply H.Ad); (iterate 3 exact rfl)) | (first | apply H.seq | apply H.Ab | apply H.nil | apply H.Aa) | (first | apply H.ret | apply H.Ba))
     refine H.Ah (x := row yb _ _) (by repeat constructor) ?_
     refine H.Ah (x := row mb _ _) (by repeat constructor) ?_
     have e9 : l0 ++ m.body.putK 6 = l1 ++ b32L m.body.dig := by rw [← hl1]; simp only [Bod.putK, List.append_assoc]
     exact H.Aj rfl rfl (fun _ h => h) ⟨p4, c4, by rw [e9, List.length_append]; rfl, rfl, by rw [e9, List.length_append, zah]; rfl⟩
    | 1, hk, hmk =>
     have ha : m.body.req.asked := of_decide_eq_true hmk
     have hrl : m.body.req.bytes.length ≤ 1000 := by
      obtain ⟨_, _, _, _, ⟨k1, k2⟩, k3, k4⟩ := ha
      rw [Req.bytes_len]; omega
     repeat (first | ((apply H.Ac); (iterate 3 exact rfl)) | (apply H.Ag; (iterate 3 exact rfl); exact inferInstance; exact rfl) | (apply H.Af; (iterate 3 exact rfl); apply Rd1.ofRow; (repeat (exact .here _ _ _)); (iterate 2 exact rfl)) | (apply H.Ab) | (apply H.Bh; exact rfl))
     refine H.Bn rfl rfl rfl (zbb (l := l0) f _ (Src.slcS (by repeat constructor) (by rw [zaf]; exact (Nat.mul_one _).symm)) (by omega)) fun p3 c3 => ?_
     refine H.Ah (x := slc p2 _ c2 _ _ _) (by repeat constructor) ?_
     have e4 : (l0 ++ be 8 m.body.view).length = 98 := by rw [List.length_append, be_len, hal2]
     generalize hl1 : l0 ++ be 8 m.body.view = l1 at e4
     repeat (first | ((apply H.Ad); (iterate 3 exact rfl)) | (apply H.Ag; (iterate 3 exact rfl); exact inferInstance; exact rfl) | (apply H.Af; (iterate 3 exact rfl); apply Rd1.ofRow; (repeat (first | exact .here _ _ _ | apply At.there)); (iterate 2 exact rfl)) | (first | apply H.seq | apply H.Ab | apply H.nil | apply H.Aa) | ((apply H.cmp); (iterate 5 exact rfl)) | (apply H.Ao) | (apply H.Au; exact rfl; (omega)))
     refine H.Ae (x := row yb _ _) (by repeat constructor) ?_
     refine H.Bt (by kernel_rfl) (by decide +kernel) (by repeat (first | exact zab | refine zaa ?_ | refine zac ?_ | refine zae ?_)) (S := [_]) rfl ?_
     refine HB.Aq [(0, false), (1, false), (2, false), (4, false), (5, false), (6, false)] 3 (by kernel_rfl) ?_
     repeat (first | ((apply HQ.Ac); (iterate 3 exact rfl)) | (apply HQ.Ag; (iterate 3 exact rfl); exact inferInstance; exact rfl))
     refine HQ.Al (ls := m.body.req.vals) rfl rfl rfl (zay (by repeat constructor)) rfl rfl ?_
     repeat ((apply HQ.Ag; (iterate 3 exact rfl); exact inferInstance; exact rfl))
     refine HQ.Ci (lo := none) (hi := none) (mx := none) (lv := 0) (hv := 32) (mv := 32) rfl rfl rfl rfl rfl (fun h => by cases h) (by decide) (by decide) (by decide) rfl ?_
     refine HQ.Ap rfl ?_
     refine HB.ev1 (i := 3) (by kernel_rfl) rfl ?_
     refine H.Ae (x := slc p3 _ c3 _ _ _) (by repeat constructor) ?_
     refine H.Bn rfl rfl rfl (rrequest_fn (l := l1) f _ m.body.req ha (by omega)) fun p4 c4 => ?_
     have e5 : (l1 ++ m.body.req.bytes).length = l1.length + m.body.req.bytes.length := List.length_append
     generalize hl2 : l1 ++ m.body.req.bytes = l2 at e5
     repeat ((apply H.nil))
     refine H.Ae (x := row yb _ _) (by repeat constructor) ?_
     refine H.on0 rfl ?_
     refine HB.ev1 (i := 7) (by kernel_rfl) rfl ?_
     refine H.Bv (m := 32) (xs := bytesV l2) rfl rfl rfl rfl rfl (fun p' c' => (by repeat constructor)) (Src.slice (row_rtag (by repeat constructor)) rfl) (zai _) rfl (by omega) (by omega) fun p5 c5 => ?_
     repeat ((apply H.nil))
     refine H.on0 rfl ?_
     refine HB.Aq [(8, false)] 0 (by kernel_rfl) ?_
     repeat (((apply HQ.Ad); (iterate 3 exact rfl)))
     refine HQ.Ap rfl ?_
     refine HB.Bf (by kernel_rfl) ?_
     repeat (first | ((first | apply H.Ac | apply H.Ad); (iterate 3 exact rfl)) | (first | apply H.seq | apply H.Ab | apply H.nil | apply H.Aa) | (first | apply H.ret | apply H.Ba))
     refine H.Ah (x := row yb _ _) (by repeat constructor) ?_
     refine H.Ah (x := row mb _ _) (by repeat constructor) ?_
     have e9 : l0 ++ m.body.putK 1 = l2 ++ b32L m.body.req.tag := by rw [← hl2, ← hl1]; simp only [Bod.putK, List.append_assoc]
     exact H.Aj rfl rfl (fun _ h => h) ⟨p5, c5, by rw [e9, List.length_append]; rfl, rfl, by rw [e9, List.length_append, zah]; rfl⟩
    | 4, hk, hmk =>
     repeat (first | ((apply H.Ac); (iterate 3 exact rfl)) | (apply H.Ag; (iterate 3 exact rfl); exact inferInstance; exact rfl) | (apply H.Af; (iterate 3 exact rfl); apply Rd1.ofRow; (repeat (exact .here _ _ _)); (iterate 2 exact rfl)) | (apply H.Ab) | (apply H.Bh; exact rfl))
     refine H.Bn rfl rfl rfl (zbb (l := l0) f _ (Src.slcS (by repeat constructor) (by rw [zaf]; exact (Nat.mul_one _).symm)) (by omega)) fun p3 c3 => ?_
     refine H.Ah (x := slc p2 _ c2 _ _ _) (by repeat constructor) ?_
     have e4 : (l0 ++ be 8 m.body.view).length = 98 := by rw [List.length_append, be_len, hal2]
     generalize hl1 : l0 ++ be 8 m.body.view = l1 at e4
     repeat (first | ((first | apply H.Ac | apply H.Ad | apply H.Az); (iterate 3 exact rfl)) | (apply H.Ag; (iterate 3 exact rfl); exact inferInstance; exact rfl) | (apply H.Af; (iterate 3 exact rfl); apply Rd1.ofRow; (repeat (first | exact .here _ _ _ | apply At.there)); (iterate 2 exact rfl)) | (first | apply H.seq | apply H.Ab | apply H.nil | apply H.Aa) | ((apply H.cmp); (iterate 5 exact rfl)) | ((apply H.Bp; (iterate 2 exact rfl)); (with_reducible apply wr_u8; omega); exact rfl) | (apply H.Ao) | (apply H.Au; exact rfl; (omega)) | (apply H.Aw; exact rfl; (omega)))
     have hlv : Value.int .u8 ((m.body.q.length : Nat) : Int) = .int .u8 ((b8 m.body.q.length).toNat : Int) := by rw [b8_small (by omega)]
     refine H.know (d := 62) rfl hlv ?_
     refine H.Bw (out := bytesV [b8 m.body.q.length]) rfl rfl rfl rfl (by decide) (by decide) rfl rfl fun tb => ?_
     refine H.Bv (m := 1) (xs := bytesV l1) rfl rfl rfl rfl rfl (fun p' c' => (by repeat constructor)) (Src.slice (Rd.ofRow (.here _ _ _)) rfl) (zai _) rfl (by omega) (by omega) fun p4 c4 => ?_
     repeat (first | ((apply H.Ad); (iterate 3 exact rfl)) | (first | apply H.seq | apply H.Ab | apply H.nil | apply H.Aa) | (apply H.Ao))
     refine H.Ah (x := row tb _ _) (by repeat constructor) ?_
     have e5 : (l1 ++ [b8 m.body.q.length]).length = l1.length + 1 := by rw [List.length_append]; rfl
     have e6 : bytesV (l1 ++ [b8 m.body.q.length]) = bytesV l1 ++ bytesV [b8 m.body.q.length] := zah _ _
     generalize hl2 : l1 ++ [b8 m.body.q.length] = l2 at e5 e6
     refine H.Ae (x := row mb _ _) (by repeat constructor) ?_
     refine H.Ae (x := row yb _ _) (by repeat constructor) ?_
     refine H.Bo (ι := Nat × Option Addr × Nat) (fun i => [(6, .int .i64 (i.1 : Int)), (3, .slice i.2.1 (l2 ++ (m.body.q.take i.1).flatMap pairB).length i.2.2), (5, .pointer (some ⟨yb, 0, none⟩))]) (fun _ => f)
      (fun i => row yb 45 (m.body.vals q qc) :: row mb 47 (m.vals q qc) :: slc i.2.1 (l2 ++ (m.body.q.take i.1).flatMap pairB).length i.2.2 5 1 (bytesV (l2 ++ (m.body.q.take i.1).flatMap pairB)) :: F)
      (fun i => i.1 ≤ m.body.q.length ∧ (l2 ++ (m.body.q.take i.1).flatMap pairB).length = 99 + 9 * i.1) (fun i => m.body.q.length - i.1) (0, p4, c4) ⟨Nat.zero_le _, by show (l2 ++ []).length = 99; rw [List.append_nil]; omega⟩ ⟨rfl, ?_, rfl, trivial⟩ rfl ?_ fun i hi => ?_
     ·show some (Value.slice p4 (l1.length + 1) c4) = some (Value.slice p4 (l2 ++ []).length c4)
      rw [List.append_nil, e5]
     ·show _ = _ :: _ :: slc p4 (l2 ++ []).length c4 _ 1 (bytesV (l2 ++ [])) :: F
      rw [List.append_nil, e5, e6]
      rfl
     ·obtain ⟨i, p', c'⟩ := i
      obtain ⟨hi, hlen⟩ : i ≤ m.body.q.length ∧ (l2 ++ (m.body.q.take i).flatMap pairB).length = 99 + 9 * i := hi
      show H _ _ _ [(6, .int .i64 (i : Int)), (3, .slice p' (l2 ++ (m.body.q.take i).flatMap pairB).length c'), _] _ (_ :: _ :: slc p' (l2 ++ (m.body.q.take i).flatMap pairB).length c' _ 1 (bytesV (l2 ++ (m.body.q.take i).flatMap pairB)) :: F) _
      generalize hac : l2 ++ (m.body.q.take i).flatMap pairB = ac at hlen
      by_cases hlt : i < m.body.q.length
      ·obtain ⟨pr, hx⟩ : ∃ pr, m.body.q[i]? = some pr := ⟨m.body.q[i], List.getElem?_eq_getElem hlt⟩
       have e7 : l2 ++ (m.body.q.take (i + 1)).flatMap pairB = ac ++ [b8 pr.1] ++ be 8 pr.2 := by
        rw [List.take_add_one, hx, ← hac]; simp [pairB]
       obtain ⟨b, off, cs, T, fr, rfl, hfb, hcs⟩ := hq i pr hx
       have rd : ∀ A, Rd f A b (off + i * 2) (pairV pr) := fun A => Rd.imm hfb hcs
       clear hcs hfb
       repeat (first | ((first | apply H.Ac | apply H.Az); (iterate 3 exact rfl)) | (apply H.Ag; (iterate 3 exact rfl); exact inferInstance; exact rfl) | (apply H.Af; (iterate 3 exact rfl); apply Rd1.ofRow; (repeat (exact .here _ _ _)); (iterate 2 exact rfl)) | (first | apply H.seq | apply H.Ab | apply H.nil | apply H.Aa) | ((apply H.cmp); (iterate 5 exact rfl)) | (first | apply H.Ak | apply H.Ao) | (apply H.Au; exact rfl; (omega)))
       refine H.Bt (by kernel_rfl) (by decide +kernel) (by repeat (first | exact zab | refine zaa ?_ | refine zac ?_ | refine zae ?_)) (S := [_]) rfl ?_
       refine HB.Aq [(0, false), (1, false), (2, false), (3, false), (4, false), (5, false), (6, false), (7, false), (10, false), (11, false), (12, false), (13, false), (14, false), (15, false)] 4 (by kernel_rfl) ?_
       repeat (first | ((apply HQ.Ac); (iterate 3 exact rfl)) | (apply HQ.Ag; (iterate 3 exact rfl); exact inferInstance; exact rfl) | (apply HQ.Af; (iterate 3 exact rfl); apply Rd1.ofRow; (repeat (exact .here _ _ _)); (iterate 2 exact rfl)))
       refine HQ.Bs rfl rfl rfl rfl hlt rfl ?_
       repeat ((apply HQ.Ag; (iterate 3 exact rfl); exact inferInstance; exact rfl))
       refine HQ.Af rfl rfl rfl (.of (rd _) (i := 0) rfl) rfl ?_
       repeat (first | ((apply HQ.Ac); (iterate 3 exact rfl)) | (apply HQ.Ag; (iterate 3 exact rfl); exact inferInstance; exact rfl) | (apply HQ.Af; (iterate 3 exact rfl); apply Rd1.ofRow; (repeat (exact .here _ _ _)); (iterate 2 exact rfl)) | ((apply HQ.Bp; (iterate 2 exact rfl)); (rfl); exact rfl))
       rw [u8_b8]
       refine HQ.Bs rfl rfl rfl rfl hlt rfl ?_
       repeat ((apply HQ.Ag; (iterate 3 exact rfl); exact inferInstance; exact rfl))
       refine HQ.Af rfl rfl rfl (.of (rd _) (i := 1) rfl) rfl ?_
       refine HQ.Ap rfl ?_
       refine HB.ev1 (i := 8) (by kernel_rfl) rfl ?_
       refine H.Bw (out := bytesV [b8 pr.1]) rfl rfl rfl rfl (by decide) (by decide) rfl rfl fun tb => ?_
       repeat ((apply H.nil))
       refine H.Ae (x := row yb _ _) (by repeat constructor) ?_
       refine H.on0 rfl ?_
       refine HB.ev1 (i := 9) (by kernel_rfl) rfl ?_
       refine H.Bv (m := 1) (xs := bytesV ac) rfl rfl rfl rfl rfl (fun p' c' => (by repeat constructor)) (Src.slice (Rd.ofRow (.there _ (.here _ _ _))) rfl) (zai _) rfl (by omega) (by omega) fun p5 c5 => ?_
       repeat ((apply H.nil))
       refine H.Ah (x := row tb _ _) (by repeat constructor) ?_
       refine H.on0 rfl ?_
       refine HB.ev1 (i := 16) (by kernel_rfl) rfl ?_
       have f0 : (ac ++ [b8 pr.1]).length = ac.length + 1 := by rw [List.length_append]; rfl
       have f1 : bytesV (ac ++ [b8 pr.1]) = bytesV ac ++ bytesV [b8 pr.1] := zah _ _
       generalize ac ++ [b8 pr.1] = l4 at f0 f1 e7
       show H _ _ _ _ _ (row _ _ _ :: row _ _ _ :: slc p5 (ac.length + 1) c5 _ _ (bytesV ac ++ bytesV [b8 pr.1]) :: F) _
       rw [← f0, ← f1]
       refine H.Bn rfl rfl rfl (zbb (l := l4) f _ (Src.slcS (by repeat constructor) (by rw [zaf]; exact (Nat.mul_one _).symm)) (by omega)) fun p6 c6 => ?_
       repeat ((apply H.nil))
       refine H.Ah (x := slc p5 _ c5 _ _ _) (by repeat constructor) ?_
       refine H.Ae (x := row mb _ _) (by repeat constructor) ?_
       refine H.Ae (x := row yb _ _) (by repeat constructor) ?_
       refine H.on0 rfl ?_
       refine HB.Aq [(17, false)] 0 (by kernel_rfl) ?_
       repeat (((apply HQ.Ad); (iterate 3 exact rfl)))
       refine HQ.Ap rfl ?_
       refine HB.Bf (by kernel_rfl) ?_
       repeat (first | ((first | apply H.Ac | apply H.Ad); (iterate 3 exact rfl)) | (first | apply H.Ab | apply H.nil | apply H.Aa) | ((apply H.ar; (iterate 4 exact rfl)); (with_reducible apply zag; omega); exact rfl) | (apply H.Ba))
       refine H.Bc (i + 1, p6, c6) ⟨by show i + 1 ≤ m.body.q.length; omega, ?_⟩ (by show m.body.q.length - (i + 1) < m.body.q.length - i; omega) ⟨rfl, ?_, rfl, trivial⟩ rfl ?_
       ·show (l2 ++ (m.body.q.take (i + 1)).flatMap pairB).length = 99 + 9 * (i + 1)
        rw [e7, List.length_append, be_len]; omega
       ·show some _ = some (Value.slice p6 (l2 ++ (m.body.q.take (i + 1)).flatMap pairB).length c6)
        rw [e7]
       ·show _ = _ :: _ :: slc p6 (l2 ++ (m.body.q.take (i + 1)).flatMap pairB).length c6 _ 1 (bytesV (l2 ++ (m.body.q.take (i + 1)).flatMap pairB)) :: F
        rw [e7]
        rfl
      ·have hiq : i = m.body.q.length := by omega
       rw [hiq, List.take_length] at hac
       repeat (first | ((first | apply H.Ac | apply H.Ad | apply H.Az); (iterate 3 exact rfl)) | (apply H.Ag; (iterate 3 exact rfl); exact inferInstance; exact rfl) | (apply H.Af; (iterate 3 exact rfl); apply Rd1.ofRow; (repeat (exact .here _ _ _)); (iterate 2 exact rfl)) | (first | apply H.seq | apply H.Ab | apply H.nil | apply H.Aa) | ((apply H.cmp); (iterate 5 exact rfl)) | (first | apply H.ret | apply H.Bl | apply H.Bj | apply H.Ba | apply H.Bk | apply H.Bm) | (apply H.Aw; exact rfl; (omega)))
       refine H.Ah (x := row yb _ _) (by repeat constructor) ?_
       refine H.Ah (x := row mb _ _) (by repeat constructor) ?_
       have e9 : l0 ++ m.body.putK 4 = ac := by rw [← hac, ← hl2, ← hl1]; simp only [Bod.putK, List.append_assoc]
       exact H.Aj rfl rfl (fun _ h => h) ⟨p', c', by rw [e9], rfl, by rw [e9]⟩
 ·rw [if_neg hm]
  rw [Bool.eq_false_iff.2 hm] at hmay
  refine Fn.enter Tryz.func61 rfl Tryz.ntmps61 rfl (L := [(0, _)]) ⟨rfl, trivial⟩ fun base => ?_
  repeat ((first | apply H.seq | apply H.Ab))
  refine H.box (ls := m.vals q qc) rfl rfl rfl rfl fun mb => ?_
  repeat (first | ((apply H.Ad); (iterate 3 exact rfl)) | (first | apply H.seq | apply H.Ab | apply H.nil | apply H.Aa))
  refine H.Al (ls := m.vals q qc) rfl rfl rfl (Rd.ofRow (by repeat constructor)) rfl rfl ?_
  refine H.Am rfl rfl rfl (hmay _) ?_
  repeat (first | ((apply H.Ad); (iterate 3 exact rfl)) | (first | apply H.seq | apply H.Ab | apply H.nil | apply H.Aa) | ((apply H.not); (iterate 4 exact rfl)) | (apply H.Bh; exact rfl) | (first | apply H.ret | apply H.Be))
  refine H.Ah (.here _ _) ?_
  refine H.slc0 5 1 ?_
  exact H.Aj rfl rfl (fun _ h => h) ⟨none, 0, rfl, rfl, rfl⟩
end
theorem b32_get (t : Nat → UInt8) {i : Nat} (h : i < 32) : (b32 t)[i]? = some (.int .u8 ((t i).toNat : Nat)) := by
 match i, h with
 | 0, _ => rfl
 | 1, _ => rfl
 | 2, _ => rfl
 | 3, _ => rfl
 | 4, _ => rfl
 | 5, _ => rfl
 | 6, _ => rfl
 | 7, _ => rfl
 | 8, _ => rfl
 | 9, _ => rfl
 | 10, _ => rfl
 | 11, _ => rfl
 | 12, _ => rfl
 | 13, _ => rfl
 | 14, _ => rfl
 | 15, _ => rfl
 | 16, _ => rfl
 | 17, _ => rfl
 | 18, _ => rfl
 | 19, _ => rfl
 | 20, _ => rfl
 | 21, _ => rfl
 | 22, _ => rfl
 | 23, _ => rfl
 | 24, _ => rfl
 | 25, _ => rfl
 | 26, _ => rfl
 | 27, _ => rfl
 | 28, _ => rfl
 | 29, _ => rfl
 | 30, _ => rfl
 | 31, _ => rfl
 | n + 32, h => exact absurd h (by omega)
theorem tmod64 (n m : Nat) : ((n : Int)).tmod (m : Int) = ((n % m : Nat) : Int) := rfl
theorem tdiv64 (n m : Nat) : ((n : Int)).tdiv (m : Int) = ((n / m : Nat) : Int) := rfl
namespace Sha
theorem padded_len (b : List UInt8) : (padded b).length = b.length + 1 + padZ b.length + 8 := by
 unfold padded
 simp only [List.length_append, List.length_cons, List.length_nil, List.length_replicate, be_len]
theorem padded_mod (b : List UInt8) : (padded b).length % 64 = 0 := by
 rw [padded_len]; unfold padZ; omega
theorem pad_not {n i : Nat} (h : i < padZ n) : (n + 1 + i) % 64 ≠ 56 := by
 unfold padZ at h; omega
theorem pad_is (n : Nat) : (n + 1 + padZ n) % 64 = 56 := by
 unfold padZ; omega
theorem chunk_get (P : List UInt8) {j i : Nat} (hi : i < 64) : ((P.drop (64 * j)).take 64).getD i 0 = P.getD (64 * j + i) 0 := by
 rw [List.getD_eq_getElem?_getD, List.getElem?_take, if_pos hi, List.getElem?_drop, ← List.getD_eq_getElem?_getD]
end Sha
section
variable (f : Frag) (F : List HP)
def zb (n : Nat) : List Value := List.replicate n (.int .u8 0)
set_option maxHeartbeats 800000 in
theorem rsum_fn {p : Option Addr} {c : Nat} {b : List UInt8} (hs : Src Tryz.prog f F (.slice p b.length c) 1 b.length (bytesV b)) (hl : b.length ≤ 1000000000) :
  Fn Tryz.prog 111 [.slice p b.length c] f F (Ret (.agg (b32 (Sha.sum b)).toArray) f F) := by
 refine Fn.enter Tryz.func111 rfl Tryz.ntmps111 rfl (L := [(0, _)]) ⟨rfl, trivial⟩ fun base => ?_
 repeat ((first | apply H.seq | apply H.Ab))
 refine H.Bg (ls := zb 32) rfl rfl rfl fun ob => ?_
 repeat ((first | apply H.seq | apply H.Ab | apply H.nil | apply H.Aa))
 refine H.Bw rfl rfl rfl rfl (by decide) (by decide) rfl rfl fun eb => ?_
 refine H.asSlc (k := 0) (sz := 1) rfl (by decide) ?_
 repeat (((apply H.Ac); (iterate 3 exact rfl)))
 refine H.Bv (xs := []) rfl rfl rfl rfl rfl (fun p' c' => .here _ _ _) hs.cons.cons (zai b) rfl (by omega) (by omega) fun p1 c1 => ?_
 rw [Nat.zero_add, List.nil_append]
 refine H.Bw (out := bytesV [0x80]) rfl rfl rfl rfl (by decide) (by decide) rfl rfl fun tb => ?_
 refine H.Bv (m := 1) (xs := bytesV b) rfl rfl rfl rfl rfl (fun p' c' => (by repeat constructor)) (Src.slice (Rd.ofRow (.here _ _ _)) rfl) (zai _) rfl (by omega) (by omega) fun p2 c2 => ?_
 refine H.Ah (x := row tb _ _) (by repeat constructor) ?_
 repeat (first | ((apply H.Ad); (iterate 3 exact rfl)) | (first | apply H.seq | apply H.nil | apply H.Aa) | (apply H.Ao))
 have e1 : (b ++ [0x80]).length = b.length + 1 := by rw [List.length_append]; rfl
 have e2 : bytesV (b ++ [0x80]) = bytesV b ++ bytesV [0x80] := zah _ _
 refine H.Bo (ι := Nat × Option Addr × Nat) (fun i => [(3, .slice i.2.1 (b ++ [0x80] ++ List.replicate i.1 0).length i.2.2), (0, .slice p b.length c), (2, .pointer (some ⟨ob, 0, none⟩))]) (fun _ => f)
  (fun i => slc i.2.1 (b ++ [0x80] ++ List.replicate i.1 0).length i.2.2 5 1 (bytesV (b ++ [0x80] ++ List.replicate i.1 0)) :: row ob 40 (zb 32) :: F) (fun i => i.1 ≤ Sha.padZ b.length) (fun i => Sha.padZ b.length - i.1) (0, p2, c2) (Nat.zero_le _) ⟨?_, rfl, rfl, trivial⟩ rfl ?_ fun i hi => ?_
 ·show some (Value.slice p2 (b.length + 1) c2) = some (Value.slice p2 (b ++ [0x80] ++ []).length c2)
  rw [List.append_nil, e1]
 ·show _ = slc p2 (b ++ [0x80] ++ []).length c2 _ 1 (bytesV (b ++ [0x80] ++ [])) :: _
  rw [List.append_nil, e1, e2]
  rfl
 obtain ⟨i, p', c'⟩ := i
 have hi : i ≤ Sha.padZ b.length := hi
 have hpz : Sha.padZ b.length < 64 := Nat.mod_lt _ (by decide)
 show H _ _ _ [(3, .slice p' (b ++ [0x80] ++ List.replicate i 0).length c'), _, _] _ (slc p' (b ++ [0x80] ++ List.replicate i 0).length c' _ 1 (bytesV (b ++ [0x80] ++ List.replicate i 0)) :: _) _
 have hal : (b ++ [0x80] ++ List.replicate i 0).length = b.length + 1 + i := by rw [List.length_append, e1, List.length_replicate]
 by_cases hlt : i < Sha.padZ b.length
 ·have hnot := Sha.pad_not hlt
  have e3 : b ++ [0x80] ++ List.replicate (i + 1) 0 = (b ++ [0x80] ++ List.replicate i 0) ++ [0] := by rw [List.replicate_succ', ← List.append_assoc]
  generalize b ++ [0x80] ++ List.replicate i 0 = acc at hal e3 ⊢
  repeat (first | ((first | apply H.Ac | apply H.Az); (iterate 3 exact rfl)) | (first | apply H.seq | apply H.Ab))
  refine H.rem rfl rfl rfl (by decide) (tmod64 acc.length 64) rfl ?_
  repeat (first | ((apply H.Ac); (iterate 3 exact rfl)) | (first | apply H.Ab | apply H.nil | apply H.Aa) | ((apply H.cmp); (iterate 5 exact rfl)) | (first | apply H.Ak | apply H.Ao) | (apply H.Au; exact rfl; (omega)))
  refine H.Bw (out := bytesV [0]) rfl rfl rfl rfl (by decide) (by decide) rfl rfl fun tb => ?_
  refine H.Bv (m := 1) (xs := bytesV acc) rfl rfl rfl rfl rfl (fun p' c' => (by repeat constructor)) (Src.slice (Rd.ofRow (.here _ _ _)) rfl) (zai _) rfl (by omega) (by omega) fun p3 c3 => ?_
  refine H.Ah (x := row tb _ _) (by repeat constructor) ?_
  repeat (first | ((apply H.Ad); (iterate 3 exact rfl)) | (apply H.nil) | (apply H.Ba))
  refine H.Bc (i + 1, p3, c3) (by show i + 1 ≤ _; omega) (by show Sha.padZ b.length - (i + 1) < Sha.padZ b.length - i; omega) ⟨?_, rfl, rfl, trivial⟩ rfl ?_
  ·show some (Value.slice p3 (acc.length + 1) c3) = some (Value.slice p3 (b ++ [0x80] ++ List.replicate (i + 1) 0).length c3)
   rw [e3, List.length_append]; rfl
  ·show _ = slc p3 (b ++ [0x80] ++ List.replicate (i + 1) 0).length c3 _ 1 (bytesV (b ++ [0x80] ++ List.replicate (i + 1) 0)) :: _
   rw [e3, List.length_append, zah]; rfl
 ·have hip : i = Sha.padZ b.length := by omega
  subst hip
  have his := Sha.pad_is b.length
  have hpad : Sha.padded b = (b ++ [0x80] ++ List.replicate (Sha.padZ b.length) 0) ++ be 8 ((b.length * 8 : Nat) : Int) := rfl
  have hplen := Sha.padded_len b
  have hpmod := Sha.padded_mod b
  unfold Sha.sum
  generalize Sha.padded b = P at hpad hplen hpmod ⊢
  generalize b ++ [0x80] ++ List.replicate (Sha.padZ b.length) 0 = acc at hal hpad ⊢
  repeat (first | ((first | apply H.Ac | apply H.Az); (iterate 3 exact rfl)) | (first | apply H.seq | apply H.Ab))
  refine H.rem rfl rfl rfl (by decide) (tmod64 acc.length 64) rfl ?_
  repeat (first | ((first | apply H.Ac | apply H.Ad | apply H.Az); (iterate 3 exact rfl)) | (first | apply H.seq | apply H.Ab | apply H.nil | apply H.Aa) | ((apply H.cmp); (iterate 5 exact rfl)) | ((first | (apply H.ar; (iterate 4 exact rfl)) | (apply H.Bp; (iterate 2 exact rfl))); (with_reducible apply wr_u64; omega); exact rfl) | (first | apply H.Bl | apply H.Bj | apply H.Ao | apply H.Bk | apply H.Bm) | (apply H.Aw; exact rfl; (omega)))
  generalize hN : ((b.length * 8 : Nat) : Int) = N at hpad
  refine H.know (d := 4) (u := .int .u64 N) rfl (congrArg (Value.int .u64) (by omega)) ?_
  refine H.Bo (ι := Nat × Option Addr × Nat) (fun i => [(5, .int .i64 (7 - (i.1 : Int))), (3, .slice i.2.1 (acc ++ beTop 8 N i.1).length i.2.2), (4, .int .u64 N), (2, .pointer (some ⟨ob, 0, none⟩))]) (fun _ => f)
   (fun i => slc i.2.1 (acc ++ beTop 8 N i.1).length i.2.2 5 1 (bytesV (acc ++ beTop 8 N i.1)) :: row ob 40 (zb 32) :: F) (fun i => i.1 ≤ 8) (fun i => 8 - i.1) (0, p', c') (Nat.zero_le _) ⟨rfl, ?_, rfl, rfl, trivial⟩ rfl ?_ fun i hi => ?_
  ·show some (Value.slice p' acc.length c') = some (Value.slice p' (acc ++ []).length c')
   rw [List.append_nil]
  ·show _ = slc p' (acc ++ []).length c' _ 1 (bytesV (acc ++ [])) :: _
   rw [List.append_nil]
  obtain ⟨i, p', c'⟩ := i
  have hi : i ≤ 8 := hi
  show H _ _ _ [(5, .int .i64 (7 - (i : Int))), (3, .slice p' (acc ++ beTop 8 N i).length c'), _, _] _ (slc p' (acc ++ beTop 8 N i).length c' _ 1 (bytesV (acc ++ beTop 8 N i)) :: _) _
  have hcl : (acc ++ beTop 8 N i).length = acc.length + i := by rw [List.length_append, beTop_len]
  by_cases hlt : i < 8
  ·have hexp : min (8 * (7 - (i : Int))).toNat IntKind.u64.bits = 8 * (8 - 1 - i) := by simp only [IntKind.bits]; omega
   have hsh : N.fdiv (2 ^ (min (8 * (7 - (i : Int))).toNat IntKind.u64.bits)) = N.fdiv (2 ^ (8 * (8 - 1 - i))) := by rw [hexp]
   have e3 : acc ++ beTop 8 N (i + 1) = (acc ++ beTop 8 N i) ++ [byteAt N (8 - 1 - i)] := by simp only [beTop, List.append_assoc]
   generalize acc ++ beTop 8 N i = ac at hcl e3 ⊢
   repeat (first | ((apply H.Ac); (iterate 3 exact rfl)) | (first | apply H.seq | apply H.Ab | apply H.nil | apply H.Aa) | ((apply H.cmp); (iterate 5 exact rfl)) | ((first | (apply H.ar; (iterate 4 exact rfl)) | (apply H.Bp; (iterate 2 exact rfl))); (first | (with_reducible apply wr_i64; omega) | (with_reducible apply wr_u64; omega)); exact rfl) | (first | apply H.Ak | apply H.Ao) | (apply H.Au; exact rfl; (omega)))
   refine H.shift rfl rfl rfl rfl (by omega) hsh rfl ?_
   refine H.Bp rfl rfl (byteAt_wrap N (8 - 1 - i)) rfl ?_
   refine H.Bw (out := bytesV [byteAt N (8 - 1 - i)]) rfl rfl rfl rfl (by decide) (by decide) rfl rfl fun tb => ?_
   refine H.Bv (m := 1) (xs := bytesV ac) rfl rfl rfl rfl rfl (fun p' c' => (by repeat constructor)) (Src.slice (Rd.ofRow (.here _ _ _)) rfl) (zai _) rfl (by omega) (by omega) fun p3 c3 => ?_
   refine H.Ah (x := row tb _ _) (by repeat constructor) ?_
   repeat (first | ((first | apply H.Ac | apply H.Ad); (iterate 3 exact rfl)) | (first | apply H.Ab | apply H.nil | apply H.Aa) | ((apply H.ar; (iterate 4 exact rfl)); (with_reducible apply wr_i64; omega); exact rfl) | (apply H.Ba))
   refine H.know (d := 5) (u := .int .i64 (7 - ((i + 1 : Nat) : Int))) rfl (congrArg (Value.int .i64) (by omega)) ?_
   refine H.Bc (i + 1, p3, c3) (by show i + 1 ≤ 8; omega) (by show 8 - (i + 1) < 8 - i; omega) ⟨rfl, ?_, rfl, rfl, trivial⟩ rfl ?_
   ·show some (Value.slice p3 (ac.length + 1) c3) = some (Value.slice p3 (acc ++ beTop 8 N (i + 1)).length c3)
    rw [e3, List.length_append]; rfl
   ·show _ = slc p3 (acc ++ beTop 8 N (i + 1)).length c3 _ 1 (bytesV (acc ++ beTop 8 N (i + 1))) :: _
    rw [e3, List.length_append, zah]; rfl
  ·have hi8 : i = 8 := by omega
   subst hi8
   have hP : acc ++ beTop 8 N 8 = P := hpad.symm
   rw [hP]
   repeat (first | ((apply H.Ac); (iterate 3 exact rfl)) | (first | apply H.seq | apply H.Ab | apply H.nil | apply H.Aa) | ((apply H.cmp); (iterate 5 exact rfl)) | (apply H.Av; exact rfl) | (first | apply H.Bl | apply H.Bj | apply H.Bk | apply H.Bm))
   refine H.Am rfl rfl rfl (start_fn f _) ?_
   refine H.Bg (ls := List.replicate 8 (.int .u32 0)) rfl rfl rfl fun hb => ?_
   refine H.Bb (ls := List.replicate 8 (.int .u32 0)) (vs := Sha.start.vals) (ls' := Sha.start.vals) rfl rfl rfl (zad rfl) rfl rfl (Nat.le_refl 8) (by repeat constructor) ?_
   repeat (first | ((apply H.Ad); (iterate 3 exact rfl)) | (first | apply H.seq | apply H.Ab | apply H.nil | apply H.Aa) | (apply H.Ao))
   have hPl : P.length ≤ 2000000000 := by omega
   obtain ⟨nb, hnb⟩ : ∃ nb, P.length = 64 * nb := ⟨P.length / 64, by omega⟩
   have hdiv : P.length / 64 = nb := by omega
   rw [hdiv]
   refine H.Cf (.there _ (.here _ _ _)) (by omega) fun pb hp => ?_
   subst hp
   refine H.Bo (ι := Nat) (fun j => [(7, .int .i64 ((64 * j : Nat) : Int)), (3, .slice (some ⟨pb, 0, none⟩) P.length c'), (6, .pointer (some ⟨hb, 0, none⟩)), (2, .pointer (some ⟨ob, 0, none⟩))]) (fun _ => f)
    (fun j => row hb 223 (Sha.blocks Sha.start P j).vals :: slc (some ⟨pb, 0, none⟩) P.length c' 5 1 (bytesV P) :: row ob 40 (zb 32) :: F) (fun j => j ≤ nb) (fun j => nb - j) 0 (Nat.zero_le _) ⟨rfl, rfl, rfl, rfl, trivial⟩ rfl rfl fun j hj => ?_
   have hj : j ≤ nb := hj
   by_cases hlt : j < nb
   ·have hbk : Sha.blocks Sha.start P (j + 1) = Sha.block (Sha.blocks Sha.start P j) ((P.drop (64 * j)).take 64) := rfl
    have hcg : ∀ i, i < 64 → ((P.drop (64 * j)).take 64).getD i 0 = P.getD (64 * j + i) 0 := fun i hi => Sha.chunk_get P hi
    have hcl : ((P.drop (64 * j)).take 64).length = 64 := by rw [List.length_take, List.length_drop]; omega
    generalize (P.drop (64 * j)).take 64 = ch at hbk hcg hcl
    show H _ _ _ _ _ (row hb _ (Sha.blocks Sha.start P j).vals :: _) _
    generalize Sha.blocks Sha.start P j = sj at hbk ⊢
    repeat (first | ((first | apply H.Ac | apply H.Az); (iterate 3 exact rfl)) | (first | apply H.seq | apply H.Ab | apply H.nil | apply H.Aa) | ((apply H.cmp); (iterate 5 exact rfl)) | (first | apply H.Ak | apply H.Ao) | (apply H.Au; exact rfl; (omega)))
    refine H.Bg (ls := (bytesV ch).take 0 ++ (zb 64).drop 0) rfl rfl rfl fun ib => ?_
    repeat (first | ((apply H.Ad); (iterate 3 exact rfl)) | (first | apply H.seq | apply H.Ab | apply H.nil | apply H.Aa) | (apply H.Ao))
    refine H.Bo (ι := Nat) (fun i => [(9, .int .i64 (i : Int)), (8, .pointer (some ⟨ib, 0, none⟩)), (7, .int .i64 ((64 * j : Nat) : Int)), (3, .slice (some ⟨pb, 0, none⟩) P.length c'), (6, .pointer (some ⟨hb, 0, none⟩)), (2, .pointer (some ⟨ob, 0, none⟩))]) (fun _ => f)
     (fun i => row ib 225 ((bytesV ch).take i ++ (zb 64).drop i) :: row hb 223 sj.vals :: slc (some ⟨pb, 0, none⟩) P.length c' 5 1 (bytesV P) :: row ob 40 (zb 32) :: F) (fun i => i ≤ 64) (fun i => 64 - i) 0 (Nat.zero_le _) ⟨rfl, rfl, rfl, rfl, rfl, rfl, trivial⟩ rfl rfl fun i hi => ?_
    have hi : i ≤ 64 := hi
    by_cases hli : i < 64
    ·have hset : SetV ((bytesV ch).take i ++ (zb 64).drop i) i (.int .u8 ((P.getD (64 * j + i) 0).toNat : Nat)) ((bytesV ch).take (i + 1) ++ (zb 64).drop (i + 1)) := by
      rw [← hcg i hli]
      exact fill_set (zbf (by omega)) (by rw [zaf, hcl]; rfl)
     repeat (first | ((apply H.Ac); (iterate 3 exact rfl)) | (first | apply H.seq | apply H.Ab | apply H.nil | apply H.Aa) | ((apply H.cmp); (iterate 5 exact rfl)) | ((apply H.ar; (iterate 4 exact rfl)); (with_reducible apply wr_i64_nn; omega); exact rfl) | (first | apply H.Ak | apply H.Ao) | (apply H.Au; exact rfl; (omega)))
     refine H.Cj (i := 64 * j + i) rfl rfl rfl (by omega) (by omega) rfl ?_
     refine H.Af rfl rfl rfl (.of (Rd.ofSlc (.there _ (.there _ (.here _ _ _))) (by omega)) (zbf (by omega))) rfl ?_
     refine H.Br (i := i) rfl rfl rfl rfl hli rfl ?_
     refine H.Bq (ls' := (bytesV ch).take (i + 1) ++ (zb 64).drop (i + 1)) rfl rfl rfl rfl (by repeat constructor) (by rw [Nat.mul_one, Nat.zero_add]; exact hset) ?_
     repeat (first | ((first | apply H.Ac | apply H.Ad); (iterate 3 exact rfl)) | (first | apply H.Ab | apply H.nil | apply H.Aa) | ((apply H.ar; (iterate 4 exact rfl)); (with_reducible apply zag; omega); exact rfl) | (apply H.Ba))
     exact H.Bc (i + 1) (by show i + 1 ≤ 64; omega) (by show 64 - (i + 1) < 64 - i; omega) ⟨rfl, rfl, rfl, rfl, rfl, rfl, trivial⟩ rfl rfl
    ·have hi64 : i = 64 := by omega
     subst hi64
     have hfull : (bytesV ch).take 64 ++ (zb 64).drop 64 = bytesV ch := by
      rw [List.take_of_length_le (by rw [zaf, hcl]; exact Nat.le_refl _)]
      show bytesV ch ++ [] = _
      rw [List.append_nil]
     rw [hfull]
     repeat (first | ((apply H.Ac); (iterate 3 exact rfl)) | (first | apply H.seq | apply H.Ab | apply H.nil | apply H.Aa) | ((apply H.cmp); (iterate 5 exact rfl)) | (apply H.Av; exact rfl) | (first | apply H.Bl | apply H.Bj | apply H.Bk | apply H.Bm))
     refine H.Al (ls := sj.vals) rfl rfl rfl (Rd.ofRow (by repeat constructor)) rfl rfl ?_
     refine H.Al (ls := bytesV ch) rfl rfl rfl (Rd.ofRow (by repeat constructor)) (by rw [zaf, hcl]) rfl ?_
     refine H.Am rfl rfl rfl (block_fn f _ hcl) ?_
     refine H.Bb (ls := sj.vals) (vs := (Sha.block sj ch).vals) (ls' := (Sha.block sj ch).vals) rfl rfl rfl (zad rfl) rfl rfl (Nat.le_refl 8) (by repeat constructor) ?_
     repeat (first | ((first | apply H.Ac | apply H.Ad); (iterate 3 exact rfl)) | (first | apply H.Ab | apply H.nil | apply H.Aa) | ((apply H.ar; (iterate 4 exact rfl)); (with_reducible apply wr_i64; omega); exact rfl) | (apply H.Ba))
     refine H.Ah (x := row ib _ _) (by repeat constructor) ?_
     refine H.know (d := 7) (u := .int .i64 ((64 * (j + 1) : Nat) : Int)) rfl (congrArg (Value.int .i64) (by omega)) ?_
     exact H.Bc (j + 1) (by show j + 1 ≤ nb; omega) (by show nb - (j + 1) < nb - j; omega) ⟨rfl, rfl, rfl, rfl, trivial⟩ rfl (by rw [hbk])
   ·have hjn : j = nb := by omega
    subst hjn
    generalize Sha.blocks Sha.start P j = sj
    repeat (first | ((first | apply H.Ac | apply H.Az); (iterate 3 exact rfl)) | (first | apply H.seq | apply H.Ab | apply H.nil | apply H.Aa) | ((apply H.cmp); (iterate 5 exact rfl)) | (first | apply H.Bl | apply H.Bj | apply H.Bk | apply H.Bm) | (apply H.Aw; exact rfl; (omega)))
    refine H.Bg (ls := (b32 sj.out).take 0 ++ (zb 32).drop 0) rfl rfl rfl fun rb => ?_
    repeat (first | ((apply H.Ad); (iterate 3 exact rfl)) | (first | apply H.seq | apply H.Ab | apply H.nil | apply H.Aa) | (apply H.Ao))
    refine H.Bo (ι := Nat) (fun i => [(11, .int .i64 (i : Int)), (10, .pointer (some ⟨rb, 0, none⟩)), (6, .pointer (some ⟨hb, 0, none⟩)), (2, .pointer (some ⟨ob, 0, none⟩))]) (fun _ => f)
     (fun i => row rb 40 ((b32 sj.out).take i ++ (zb 32).drop i) :: row hb 223 sj.vals :: slc (some ⟨pb, 0, none⟩) P.length c' 5 1 (bytesV P) :: row ob 40 (zb 32) :: F) (fun i => i ≤ 32) (fun i => 32 - i) 0 (Nat.zero_le _) ⟨rfl, rfl, rfl, rfl, trivial⟩ rfl rfl fun i hi => ?_
    have hi : i ≤ 32 := hi
    by_cases hli : i < 32
    ·have hset : SetV ((b32 sj.out).take i ++ (zb 32).drop i) i (.int .u8 ((sj.out i).toNat : Nat)) ((b32 sj.out).take (i + 1) ++ (zb 32).drop (i + 1)) := fill_set (b32_get _ hli) rfl
     have hgv := Sha.S8.get_vals sj (i := i / 4) (by omega)
     unfold Sha.S8.out at hset
     repeat (first | ((apply H.Ac); (iterate 3 exact rfl)) | (first | apply H.seq | apply H.Ab | apply H.nil | apply H.Aa) | ((apply H.cmp); (iterate 5 exact rfl)) | (first | apply H.Ak | apply H.Ao) | (apply H.Au; exact rfl; (omega)))
     refine H.quo rfl rfl rfl (by decide) (z := ((i / 4 : Nat) : Int)) (by rw [show (4 : Int) = ((4 : Nat) : Int) from rfl, tdiv64, wr_i64 (by omega)]) rfl ?_
     refine H.Br (i := i / 4) rfl rfl rfl rfl (by omega) rfl ?_
     refine H.Af rfl rfl rfl (.of (Rd.ofRow (by repeat constructor)) (by rw [Nat.mul_one]; exact hgv)) rfl ?_
     repeat (((apply H.Ac); (iterate 3 exact rfl)))
     refine H.rem rfl rfl rfl (by decide) (tmod64 i 4) rfl ?_
     repeat (((first | (apply H.ar; (iterate 4 exact rfl)) | (apply H.Bp; (iterate 2 exact rfl))); (first | (with_reducible apply wr_i64; omega) | (with_reducible apply wr_u64; omega)); exact rfl))
     refine H.know (d := 76) (u := .int .u64 ((24 - 8 * (i % 4) : Nat) : Int)) rfl (congrArg (Value.int .u64) (by omega)) ?_
     refine H.shift rfl rfl rfl (u32_shr _ _ (by omega)) (by omega) rfl rfl ?_
     refine H.Bp rfl rfl (u8_ofU32 _) rfl ?_
     refine H.Br (i := i) rfl rfl rfl rfl hli rfl ?_
     refine H.Bq (ls' := (b32 sj.out).take (i + 1) ++ (zb 32).drop (i + 1)) rfl rfl rfl rfl (by repeat constructor) (by rw [Nat.mul_one, Nat.zero_add]; exact hset) ?_
     repeat (first | ((first | apply H.Ac | apply H.Ad); (iterate 3 exact rfl)) | (first | apply H.Ab | apply H.nil | apply H.Aa) | ((apply H.ar; (iterate 4 exact rfl)); (with_reducible apply zag; omega); exact rfl) | (apply H.Ba))
     exact H.Bc (i + 1) (by show i + 1 ≤ 32; omega) (by show 32 - (i + 1) < 32 - i; omega) ⟨rfl, rfl, rfl, rfl, trivial⟩ rfl rfl
    ·have hi32 : i = 32 := by omega
     subst hi32
     repeat (first | ((apply H.Ac); (iterate 3 exact rfl)) | (first | apply H.seq | apply H.Ab | apply H.nil | apply H.Aa) | ((apply H.cmp); (iterate 5 exact rfl)) | (apply H.Av; exact rfl) | (first | apply H.Bl | apply H.Bj | apply H.Bk | apply H.Bm))
     refine H.Al (ls := b32 sj.out) rfl rfl rfl (Rd.ofRow (by repeat constructor)) rfl rfl ?_
     refine H.Bb (ls := zb 32) (vs := b32 sj.out) (ls' := b32 sj.out) rfl rfl rfl (zad rfl) rfl rfl (Nat.le_refl 32) (by repeat constructor) ?_
     repeat (first | (first | apply H.nil | apply H.Aa) | (apply H.ret))
     refine H.Ah (.here _ _) ?_
     refine H.Ah (.here _ _) ?_
     refine H.Ah (.here _ _) ?_
     exact H.Ca rfl rfl rfl (Rd.ofRow (by repeat constructor)) rfl (fun _ s => s.drop (.here _ _)) ⟨rfl, rfl, rfl⟩
end
theorem Fn.frozen {P : Program} {fid : FuncId} {args : List Value} {f : Frag} {F F' : List HP} {x : HP} {v : Value} (h : ∀ g, x g → Dj f g → Fn P fid args (un f g) F (Ret v (un f g) F')) : Fn P fid args f (x :: F) (Ret v f (x :: F')) := fun base w s => by
 obtain ⟨g, hx, hd, s'⟩ := s.freeze (.here F x)
 refine (h g hx hd base w s').mono ?_
 rintro e w' ⟨u, f', A', rfl, ⟨rfl, rfl, rfl⟩, s2⟩
 exact ⟨_, f, _, rfl, ⟨rfl, rfl, rfl⟩, s2.thaw hx hd⟩
theorem row_bat {f g : Frag} {b : Nat} {T : TypeId} {l : List UInt8} (h : row b T (bytesV l) g) (hd : Dj f g) : BAt (un f g) (some ⟨b, 0, none⟩) l := by
 have hg : g = sing b (.cells (bytesV l).toArray T (0, 0)) := h
 refine .inr ⟨b, 0, (bytesV l).toArray, T, (0, 0), rfl, ?_, fun i hi => by simp⟩
 have : f b = none := by
  rcases hd b with h | h
  ·exact h
  ·rw [hg] at h
   simp [sing] at h
 unfold un
 rw [this, hg]
 simp [sing]
theorem fill_splice {a z : List Value} {i k : Nat} (hz : z.length = a.length) (h : i + k ≤ a.length) : splice (a.take i ++ z.drop i) i ((a.drop i).take k) = a.take (i + k) ++ z.drop (i + k) := by
 have hl : (a.take i).length = i := by rw [List.length_take]; omega
 have hk : ((a.drop i).take k).length = k := by rw [List.length_take, List.length_drop]; omega
 have d1 : (a.take i ++ z.drop i).drop (i + k) = z.drop (i + k) := by
  rw [List.drop_append, hl, @List.drop_eq_nil_of_le _ (a.take i) (i + k) (by rw [hl]; omega), List.nil_append, List.drop_drop]
  congr 1
  omega
 have t1 : (a.take i ++ z.drop i).take i = a.take i := by rw [List.take_append_of_le_length (by omega), List.take_of_length_le (by omega)]
 unfold splice
 rw [hk, t1, d1, List.take_add]
theorem padZ_lt (n : Nat) : Sha.padZ n < 64 := by unfold Sha.padZ; omega
theorem splice_all {ls vs : List Value} (h : vs.length = ls.length) : splice ls 0 vs = vs := by
 unfold splice
 rw [List.take_zero, List.nil_append, Nat.zero_add, h, List.drop_length, List.append_nil]
theorem hRow_one (s : Sha.S8) (part : List UInt8) (n all : Nat) : ∀ v ∈ hRow s part n all, one v = true := fun v hv => by
 unfold hRow at hv
 rw [List.mem_append, List.mem_append] at hv
 rcases hv with (hv | hv) | hv
 ·exact zad (l := s.vals) rfl v hv
 ·exact zai part v hv
 ·exact zad (l := [.int .i64 (n : Nat), .int .u64 (all : Nat)]) rfl v hv
def endB (b : List UInt8) (j : Nat) : List UInt8 := b ++ [0x80] ++ List.replicate j 0
theorem endB_len (b : List UInt8) (j : Nat) : (endB b j).length = b.length + 1 + j := by
 unfold endB
 rw [List.length_append, List.length_append, List.length_replicate]
 rfl
theorem endB_succ (b : List UInt8) (j : Nat) : endB b j ++ [0] = endB b (j + 1) := by
 unfold endB
 rw [List.append_assoc, List.replicate_succ']
theorem HSt.n_eq {b : List UInt8} {s : Sha.S8} {part : List UInt8} {n : Nat} (h : HSt b s part n) : n = b.length % 64 := by
 obtain ⟨⟨q, h1, _, _⟩, h4, _⟩ := h
 omega
theorem HSt.s_eq {b : List UInt8} {s : Sha.S8} {part : List UInt8} {n : Nat} (h : HSt b s part n) : s = Sha.blocks Sha.start b (b.length / 64) := by
 obtain ⟨⟨q, h1, h2, _⟩, h4, _⟩ := h
 rw [h2]
 congr 1
 omega
def four (x : UInt32) : List UInt8 := [(x >>> (UInt32.ofNat 24)).toUInt8, (x >>> (UInt32.ofNat 16)).toUInt8, (x >>> (UInt32.ofNat 8)).toUInt8, x.toUInt8]
theorem shr0 (x : UInt32) : x >>> (UInt32.ofNat 0) = x := by
 apply UInt32.toBitVec_inj.1
 simp
theorem four_out (s : Sha.S8) {i : Nat} (h : i < 8) : four (s.get i) = ((b32L s.out).drop (4 * i)).take 4 := by
 match i, h with
 | 0, _ => show _ = [s.out 0, s.out 1, s.out 2, s.out 3]; unfold four Sha.S8.out; rw [show (24 - 8 * (3 % 4)) = 0 from rfl, shr0]
 | 1, _ => show _ = [s.out 4, s.out 5, s.out 6, s.out 7]; unfold four Sha.S8.out; rw [show (24 - 8 * (7 % 4)) = 0 from rfl, shr0]
 | 2, _ => show _ = [s.out 8, s.out 9, s.out 10, s.out 11]; unfold four Sha.S8.out; rw [show (24 - 8 * (11 % 4)) = 0 from rfl, shr0]
 | 3, _ => show _ = [s.out 12, s.out 13, s.out 14, s.out 15]; unfold four Sha.S8.out; rw [show (24 - 8 * (15 % 4)) = 0 from rfl, shr0]
 | 4, _ => show _ = [s.out 16, s.out 17, s.out 18, s.out 19]; unfold four Sha.S8.out; rw [show (24 - 8 * (19 % 4)) = 0 from rfl, shr0]
 | 5, _ => show _ = [s.out 20, s.out 21, s.out 22, s.out 23]; unfold four Sha.S8.out; rw [show (24 - 8 * (23 % 4)) = 0 from rfl, shr0]
 | 6, _ => show _ = [s.out 24, s.out 25, s.out 26, s.out 27]; unfold four Sha.S8.out; rw [show (24 - 8 * (27 % 4)) = 0 from rfl, shr0]
 | 7, _ => show _ = [s.out 28, s.out 29, s.out 30, s.out 31]; unfold four Sha.S8.out; rw [show (24 - 8 * (31 % 4)) = 0 from rfl, shr0]
def outRow (t : Nat → UInt8) (i : Nat) : List Value := (bytesV (b32L t)).take i ++ (List.replicate 32 (.int .u8 0)).drop i
theorem outRow_splice (s : Sha.S8) {i : Nat} (h : i < 8) : splice (outRow s.out (4 * i)) (4 * i) (bytesV (four (s.get i))) = outRow s.out (4 * (i + 1)) := by
 rw [four_out s h]
 unfold outRow
 have e : bytesV (((b32L s.out).drop (4 * i)).take 4) = ((bytesV (b32L s.out)).drop (4 * i)).take 4 := by unfold bytesV; rw [List.map_take, List.map_drop]
 rw [e, fill_splice (by rw [List.length_replicate]; rfl) (by show 4 * i + 4 ≤ 32; omega), show 4 * (i + 1) = 4 * i + 4 by omega]
section
variable (f : Frag) (F : List HP)
theorem swriteO_fn (htab : TabAt f) {hb cb : Nat} {T : TypeId} {b c : List UInt8} {cap : Nat} (hcap : c.length ≤ cap) (hl : b.length + c.length ≤ 1000000000000) : Fn Tryz.prog 179 [.pointer (some ⟨hb, 0, none⟩), .slice (some ⟨cb, 0, none⟩) c.length cap] f (row cb T (bytesV c) :: hashH hb b :: F) (Ret (.tuple #[]) f (row cb T (bytesV c) :: hashH hb (b ++ c) :: F)) :=
 Fn.frozen fun g hg hd => swrite_fn (un f g) F (IntsAt.mono (Le.un f g) htab) (row_bat hg hd) hcap hl
set_option maxRecDepth 20000 in
set_option maxHeartbeats 1600000 in
theorem hsum_fn (htab : TabAt f) {hb : Nat} {b : List UInt8} (hl : b.length ≤ 1000000000) : Fn Tryz.prog 180 [.pointer (some ⟨hb, 0, none⟩)] f (hashH hb b :: F) (Ret (.agg (b32 (Sha.sum b)).toArray) f (hashH hb b :: F)) := by
 have e1 : IntKind.u64.wrap (((b.length : Nat) : Int) * 8) = ((b.length * 8 : Nat) : Int) := by rw [wr_u64 (by omega)]; omega
 have hpad := padZ_lt b.length
 refine Fn.enter Tryz.func180 rfl Tryz.ntmps180 rfl (L := [(0, _)]) ⟨rfl, trivial⟩ fun base => ?_
 repeat ((first | apply H.seq | apply H.Ab))
 refine H.Bg (ls := outRow (Sha.sum b) 0) rfl rfl rfl fun ob => ?_
 repeat ((first | apply H.seq | apply H.Ab | apply H.nil | apply H.Aa))
 refine H.callE rfl rfl rfl (snew_fn f _) fun eb => ?_
 repeat (first | ((first | apply H.Ac | apply H.Ad | apply H.Ar); (iterate 3 exact rfl)) | (first | apply H.seq | apply H.Ab | apply H.nil | apply H.Aa) | ((apply H.Ce); (iterate 5 exact rfl)) | (apply H.Bh; exact rfl))
 refine H.unpack fun i0 hi0 => ?_
 obtain ⟨s1, part1, n1⟩ := i0
 have hi0 : HSt [] s1 part1 n1 := hi0
 refine H.Ae (x := hashH hb b) (by repeat constructor) ?_
 refine H.unpack fun i1 hi1 => ?_
 obtain ⟨s0, part0, n0⟩ := i1
 have hi1 : HSt b s0 part0 n0 := hi1
 show H _ _ _ _ _ (row hb _ (hRow s0 part0 n0 b.length) :: _) _
 refine H.Al (ls := hRow s0 part0 n0 b.length) rfl rfl rfl (Rd.ofRow (by repeat constructor)) (hRow_len _ _ _ _ hi1.len) rfl ?_
 refine H.imp (hashH_fold hi1) ?_
 refine H.Ae (x := row ob _ _) (by repeat constructor) ?_
 refine H.Ae (x := row eb _ _) (by repeat constructor) ?_
 show H _ _ _ _ _ (row eb _ (hRow s1 part1 n1 0) :: _) _
 repeat (((apply H.Ar); (iterate 3 exact rfl)))
 refine H.Bb (ls := hRow s1 part1 n1 0) (vs := hRow s0 part0 n0 b.length) (ls' := hRow s0 part0 n0 b.length) rfl rfl rfl (hRow_one _ _ _ _) (hRow_len _ _ _ _ hi1.len) (splice_all (by rw [hRow_len _ _ _ _ hi1.len, hRow_len _ _ _ _ hi0.len])) (by rw [hRow_len _ _ _ _ hi1.len, hRow_len _ _ _ _ hi0.len]; decide) (by repeat constructor) ?_
 repeat (first | (refine H.Af rfl rfl rfl (.at0 (Rd.ofRow (by repeat constructor)) (hRow_all s0 part0 n0 b.length hi1.len)) rfl ?_) | (apply H.ar; (iterate 4 exact rfl); exact e1; exact rfl) | ((first | apply H.Ac | apply H.Ad | apply H.Ar); (iterate 3 exact rfl)) | (apply H.Ag; (iterate 3 exact rfl); exact inferInstance; exact rfl) | (first | apply H.seq | apply H.Ab | apply H.nil | apply H.Aa))
 refine H.Ae (x := row eb _ _) (by repeat constructor) ?_
 refine H.imp (hashH_fold hi1) ?_
 refine H.Bw (out := bytesV [0x80]) rfl rfl rfl rfl (by decide) (by decide) rfl rfl fun cb => ?_
 refine H.Am rfl rfl rfl (swriteO_fn f _ htab (c := [0x80]) (Nat.le_refl 1) (by show b.length + 1 ≤ _; omega)) ?_
 refine H.Ah (.here _ _) ?_
 clear hi0 hi1
 repeat (first | (first | apply H.seq | apply H.nil | apply H.Aa) | (apply H.Ao))
 refine H.Bo (ι := Nat) (fun j => [(3, .pointer (some ⟨eb, 0, none⟩)), (2, .pointer (some ⟨ob, 0, none⟩)), (4, .int .u64 ((b.length * 8 : Nat) : Int))]) (fun _ => f)
  (fun j => hashH eb (endB b j) :: row ob 40 (outRow (Sha.sum b) 0) :: hashH hb b :: F) (fun j => j ≤ Sha.padZ b.length) (fun j => Sha.padZ b.length - j) 0 (Nat.zero_le _) ⟨rfl, rfl, rfl, trivial⟩ rfl (by rw [show endB b 0 = b ++ [0x80] from List.append_nil _]) fun j hj => ?_
 have hj : j ≤ Sha.padZ b.length := hj
 refine H.unpack fun i1 hi1 => ?_
 obtain ⟨s0, part0, n0⟩ := i1
 have hi1 : HSt (endB b j) s0 part0 n0 := hi1
 have hn := hi1.n_eq
 rw [endB_len] at hn
 show H _ _ _ _ _ (row eb _ (hRow s0 part0 n0 (endB b j).length) :: _) _
 by_cases hlt : j < Sha.padZ b.length
 ·have hne : n0 ≠ 56 := by rw [hn]; exact Sha.pad_not hlt
  repeat (first | (refine H.Af rfl rfl rfl (.at0 (Rd.ofRow (by repeat constructor)) (hRow_n s0 part0 n0 _ hi1.len)) rfl ?_) | ((first | apply H.Ac | apply H.Ar); (iterate 3 exact rfl)) | (apply H.Ag; (iterate 3 exact rfl); exact inferInstance; exact rfl) | (first | apply H.seq | apply H.Ab | apply H.nil | apply H.Aa) | ((apply H.cmp); (iterate 5 exact rfl)) | (first | apply H.Ak | apply H.Ao) | (apply H.Au; exact rfl; (omega)))
  refine H.imp (hashH_fold hi1) ?_
  refine H.Bw (out := bytesV [0]) rfl rfl rfl rfl (by decide) (by decide) rfl rfl fun cb => ?_
  refine H.Am rfl rfl rfl (swriteO_fn f _ htab (c := [0]) (Nat.le_refl 1) (by rw [endB_len]; show b.length + 1 + j + 1 ≤ _; omega)) ?_
  refine H.Ah (.here _ _) ?_
  repeat (first | (apply H.nil) | (apply H.Ba))
  exact H.Bc (j + 1) (by show j + 1 ≤ _; omega) (by show Sha.padZ b.length - (j + 1) < Sha.padZ b.length - j; omega) ⟨rfl, rfl, rfl, trivial⟩ rfl (by rw [endB_succ]; rfl)
 ·have hjp : j = Sha.padZ b.length := by omega
  have hne : n0 = 56 := by rw [hn, hjp]; exact Sha.pad_is _
  repeat (first | (refine H.Af rfl rfl rfl (.at0 (Rd.ofRow (by repeat constructor)) (hRow_n s0 part0 n0 _ hi1.len)) rfl ?_) | ((first | apply H.Ac | apply H.Ad | apply H.Ar); (iterate 3 exact rfl)) | (apply H.Ag; (iterate 3 exact rfl); exact inferInstance; exact rfl) | (first | apply H.seq | apply H.Ab | apply H.nil | apply H.Aa) | ((apply H.cmp); (iterate 5 exact rfl)) | (first | apply H.Bl | apply H.Bj | apply H.Ao | apply H.Bk | apply H.Bm) | (apply H.Aw; exact rfl; (omega)))
  refine H.imp (hashH_fold hi1) ?_
  rw [hjp]
  clear hi1 hn hne hlt hj hjp
  have hel := endB_len b (Sha.padZ b.length)
  refine H.Bo (ι := Nat) (fun i => [(5, .int .i64 (7 - (i : Int))), (3, .pointer (some ⟨eb, 0, none⟩)), (2, .pointer (some ⟨ob, 0, none⟩)), (4, .int .u64 ((b.length * 8 : Nat) : Int))]) (fun _ => f)
   (fun i => hashH eb (endB b (Sha.padZ b.length) ++ beTop 8 ((b.length * 8 : Nat) : Int) i) :: row ob 40 (outRow (Sha.sum b) 0) :: hashH hb b :: F) (fun i => i ≤ 8) (fun i => 8 - i) 0 (Nat.zero_le _) ⟨rfl, rfl, rfl, rfl, trivial⟩ rfl (by rw [show beTop 8 ((b.length * 8 : Nat) : Int) 0 = [] from rfl, List.append_nil]; rfl) fun i hi => ?_
  have hi : i ≤ 8 := hi
  show H _ _ _ ((5, .int .i64 (7 - (i : Int))) :: _) _ _ _
  generalize hbits : ((b.length * 8 : Nat) : Int) = nb at *
  by_cases hlt : i < 8
  ·have e2 : IntKind.i64.wrap (8 * (7 - (i : Int))) = 8 * (7 - (i : Int)) := wr_i64 (by omega)
   have hexp : min (8 * (7 - (i : Int))).toNat IntKind.u64.bits = 8 * (8 - 1 - i) := by simp only [IntKind.bits]; omega
   have hsh : nb.fdiv (2 ^ (min (8 * (7 - (i : Int))).toNat IntKind.u64.bits)) = nb.fdiv (2 ^ (8 * (8 - 1 - i))) := by rw [hexp]
   repeat (first | (apply H.ar; (iterate 4 exact rfl); exact e2; exact rfl) | ((apply H.Ac); (iterate 3 exact rfl)) | (first | apply H.seq | apply H.Ab | apply H.nil | apply H.Aa) | ((apply H.cmp); (iterate 5 exact rfl)) | (first | apply H.Ak | apply H.Ao) | (apply H.Au; exact rfl; (omega)))
   refine H.shift rfl rfl rfl rfl (by omega) hsh rfl ?_
   refine H.Bp rfl rfl (byteAt_wrap nb (8 - 1 - i)) rfl ?_
   refine H.Bw (out := bytesV [byteAt nb (8 - 1 - i)]) rfl rfl rfl rfl (by decide) (by decide) rfl rfl fun cb => ?_
   refine H.Am rfl rfl rfl (swriteO_fn f _ htab (c := [byteAt nb (8 - 1 - i)]) (Nat.le_refl 1) (by rw [List.length_append, hel, beTop_len]; show _ + 1 ≤ _; omega)) ?_
   refine H.Ah (.here _ _) ?_
   repeat (first | ((first | apply H.Ac | apply H.Ad); (iterate 3 exact rfl)) | (first | apply H.Ab | apply H.nil | apply H.Aa) | ((apply H.ar; (iterate 4 exact rfl)); (with_reducible apply wr_i64; omega); exact rfl) | (apply H.Ba))
   refine H.know (d := 5) (u := .int .i64 (7 - ((i + 1 : Nat) : Int))) rfl (congrArg (Value.int .i64) (by omega)) ?_
   exact H.Bc (i + 1) (by show i + 1 ≤ 8; omega) (by show 8 - (i + 1) < 8 - i; omega) ⟨rfl, rfl, rfl, rfl, trivial⟩ rfl (by show _ = hashH eb (endB b (Sha.padZ b.length) ++ (beTop 8 nb i ++ [byteAt nb (8 - 1 - i)])) :: _; rw [List.append_assoc])
  ·have hi8 : i = 8 := by omega
   subst hi8
   repeat (first | ((first | apply H.Ac | apply H.Ar); (iterate 3 exact rfl)) | (apply H.Ag; (iterate 3 exact rfl); exact inferInstance; exact rfl) | (first | apply H.seq | apply H.Ab | apply H.nil | apply H.Aa) | ((apply H.cmp); (iterate 5 exact rfl)) | (apply H.Av; exact rfl) | (first | apply H.Bl | apply H.Bj | apply H.Bk | apply H.Bm))
   refine H.unpack fun i1 hi1 => ?_
   obtain ⟨s0, part0, n0⟩ := i1
   have hi1 : HSt (endB b (Sha.padZ b.length) ++ beTop 8 nb 8) s0 part0 n0 := hi1
   have hpd : endB b (Sha.padZ b.length) ++ beTop 8 nb 8 = Sha.padded b := by rw [← hbits]; rfl
   have hs := hi1.s_eq
   rw [hpd] at hs
   have hsum : Sha.sum b = s0.out := by rw [hs]; rfl
   rw [hsum]
   show H _ _ _ _ _ (row eb _ (hRow s0 part0 n0 _) :: _) _
   repeat (first | (refine H.Al (ls := s0.vals) rfl rfl rfl (hRow_rds (by repeat constructor)) rfl rfl ?_) | ((apply H.Ac); (iterate 3 exact rfl)) | (first | apply H.nil | apply H.Aa) | (apply H.Ao))
   clear hs hsum hpd hi1
   refine H.Ah (x := row eb _ _) (by repeat constructor) ?_
   refine H.Bo (ι := Nat) (fun i => [(48, .int .i64 (i : Int)), (47, .agg s0.vals.toArray), (2, .pointer (some ⟨ob, 0, none⟩))]) (fun _ => f)
    (fun i => row ob 40 (outRow s0.out (4 * i)) :: hashH hb b :: F) (fun i => i ≤ 8) (fun i => 8 - i) 0 (Nat.zero_le _) ⟨rfl, rfl, rfl, trivial⟩ rfl rfl fun i hi => ?_
   have hi : i ≤ 8 := hi
   by_cases hlt : i < 8
   ·have hg2 := Sha.S8.get_vals s0 hlt
    have hset := outRow_splice s0 hlt
    have e4 : IntKind.i64.wrap (4 * (i : Int)) = ((4 * i : Nat) : Int) := by rw [wr_i64 (by omega)]; omega
    show H _ _ _ _ _ (row ob _ (outRow s0.out (4 * i)) :: _) _
    generalize s0.get i = x at hg2 hset
    repeat (first | (apply H.ar; (iterate 4 exact rfl); exact e4; exact rfl) | ((first | apply H.Ac | apply H.Ad); (iterate 3 exact rfl)) | (first | apply H.seq | apply H.Ab | apply H.nil | apply H.Aa) | ((apply H.cmp); (iterate 5 exact rfl)) | (first | apply H.Ak | apply H.Ao) | (apply H.Au; exact rfl; (omega)) | (apply H.indexV (i := i); (iterate 4 exact rfl); exact hlt; exact rfl; exact hg2; exact rfl))
    refine H.Ci (lo := some (.tmp 53)) (mx := none) (hi := none) (lv := 4 * i) (hv := 32) (mv := 32) rfl rfl ⟨_, _, rfl, rfl⟩ rfl rfl (fun h => by cases h) (by omega) (by omega) (by decide) rfl ?_
    rw [slP_ne (by omega)]
    repeat (((apply H.Ac); (iterate 3 exact rfl)))
    refine H.shift (op := .shr) rfl rfl rfl (u32_shr x 24 (by decide)) (by decide) rfl rfl ?_
    refine H.Bp rfl rfl (u8_ofU32 _) rfl ?_
    repeat (((apply H.Ac); (iterate 3 exact rfl)))
    refine H.shift (op := .shr) rfl rfl rfl (u32_shr x 16 (by decide)) (by decide) rfl rfl ?_
    refine H.Bp rfl rfl (u8_ofU32 _) rfl ?_
    repeat (((apply H.Ac); (iterate 3 exact rfl)))
    refine H.shift (op := .shr) rfl rfl rfl (u32_shr x 8 (by decide)) (by decide) rfl rfl ?_
    refine H.Bp rfl rfl (u8_ofU32 _) rfl ?_
    repeat (first | (refine H.Bp rfl rfl (u8_ofU32 x) rfl ?_) | ((apply H.Ac); (iterate 3 exact rfl)))
    refine H.Bw (out := bytesV (four x)) rfl rfl rfl rfl (by decide) (by decide) rfl rfl fun cb => ?_
    refine H.copy (k0 := 4) (m := 4) (cs := bytesV (four x)) (ls := outRow s0.out (4 * i)) (ls' := outRow s0.out (4 * (i + 1))) rfl rfl rfl rfl
     (Src.slice (P := Tryz.prog) (f := f) (A := [row cb 5 (bytesV (four x))]) (sz := 1) (m := 4) (Rd.ofRow (by repeat constructor)) rfl).len (Nat.min_eq_left (by omega)) (Src.slice (m := 4) (Rd.ofRow (by repeat constructor)) rfl).copy
     (by rw [show 0 + 4 * i * 1 = 4 * i by omega]; exact hset) (by show 0 + 4 * i * 1 + 4 ≤ _; unfold outRow; rw [List.length_append, List.length_take, List.length_drop, List.length_replicate]; show _ ≤ min _ 32 + _; omega) (zai _) (by repeat constructor) ?_
    repeat (first | ((apply H.Ac); (iterate 3 exact rfl)) | (first | apply H.Ab | apply H.nil | apply H.Aa) | ((apply H.ar; (iterate 4 exact rfl)); (with_reducible apply zag; omega); exact rfl) | (apply H.Ba))
    refine H.Ah (x := row cb _ _) (by repeat constructor) ?_
    exact H.Bc (i + 1) (by show i + 1 ≤ 8; omega) (by show 8 - (i + 1) < 8 - i; omega) ⟨rfl, rfl, rfl, trivial⟩ rfl rfl
   ·have hi8 : i = 8 := by omega
    subst hi8
    repeat (first | (first | apply H.seq | apply H.Ab | apply H.nil | apply H.Aa) | ((apply H.cmp); (iterate 5 exact rfl)) | (apply H.Av; exact rfl) | (first | apply H.Bl | apply H.Bj | apply H.Bk | apply H.Bm))
    refine H.Al (ls := b32 s0.out) rfl rfl rfl (Rd.ofRow (by repeat constructor)) rfl rfl ?_
    refine H.Bb (ls := b32 s0.out) (vs := b32 s0.out) (ls' := b32 s0.out) rfl rfl rfl (zad rfl) rfl rfl (Nat.le_refl 32) (by repeat constructor) ?_
    repeat (first | (first | apply H.nil | apply H.Aa) | (apply H.ret))
    exact H.Ca rfl rfl rfl (Rd.ofRow (by repeat constructor)) rfl (fun _ s => s.drop (.here _ _)) ⟨rfl, rfl, rfl⟩
end
theorem u8_bv (x : UInt8) : BitVec.ofInt 8 (x.toNat : Int) = x.toBitVec := by
 simp [BitVec.ofInt_natCast]
theorem u8_wrapN (x : UInt8) : IntKind.u8.wrap ((x.toNat : Nat) : Int) = (x.toNat : Int) := by
 have := x.toNat_lt
 rw [wr_u8 (by omega)]
theorem u8_xor (x y : UInt8) : bitsI .xor .u8 (x.toNat : Int) (y.toNat : Int) = some (((x ^^^ y).toNat : Nat) : Int) := by
 have e : (BitVec.ofInt 8 (x.toNat : Int) ^^^ BitVec.ofInt 8 (y.toNat : Int)).toNat = (x ^^^ y).toNat := by rw [u8_bv, u8_bv]; rfl
 show some (IntKind.u8.wrap ((BitVec.ofInt 8 (x.toNat : Int) ^^^ BitVec.ofInt 8 (y.toNat : Int)).toNat : Int)) = _
 rw [e, u8_wrapN]
namespace Sha
def full (key : List UInt8) : List UInt8 := key ++ List.replicate (64 - key.length) 0
def turn (key : List UInt8) (t : UInt8) : List UInt8 := (full key).map (· ^^^ t)
def hmac (key b : List UInt8) : Nat → UInt8 := sum (turn key 0x5c ++ b32L (sum (turn key 0x36 ++ b)))
def word32 (word : List UInt8) (i : Int) : List UInt8 := b32L (sum (word ++ be 8 i))
def replicaW : List UInt8 := [114, 97, 116, 99, 104, 101, 116, 32, 114, 101, 112, 108, 105, 99, 97]
def numbered (i n : Int) (b : List UInt8) : Nat → UInt8 := hmac (word32 replicaW i) (be 8 n ++ b)
theorem full_len {key : List UInt8} (h : key.length ≤ 64) : (full key).length = 64 := by
 unfold full; rw [List.length_append, List.length_replicate]; omega
theorem turn_len {key : List UInt8} (h : key.length ≤ 64) (t : UInt8) : (turn key t).length = 64 := by
 unfold turn; rw [List.length_map, full_len h]
end Sha
section
variable (f : Frag) (F : List HP)
theorem with_fn {p : Option Addr} {c : Nat} {key : List UInt8} {t : UInt8} (hs : Src Tryz.prog f F (.slice p key.length c) 1 key.length (bytesV key)) (hl : key.length ≤ 64) :
  Fn Tryz.prog 112 [.slice p key.length c, .int .u8 (t.toNat : Nat)] f F (BytesR (Sha.turn key t) f F) := by
 refine Fn.enter Tryz.func112 rfl Tryz.ntmps112 rfl (L := [(0, _), (1, _)]) ⟨rfl, rfl, trivial⟩ fun base => ?_
 repeat (first | ((apply H.Ad); (iterate 3 exact rfl)) | (first | apply H.seq | apply H.Ab | apply H.nil | apply H.Aa))
 refine H.Bw rfl rfl rfl rfl (by decide) (by decide) rfl rfl fun eb => ?_
 refine H.asSlc (k := 0) (sz := 1) rfl (by decide) ?_
 repeat (((apply H.Ac); (iterate 3 exact rfl)))
 refine H.Bv (xs := []) rfl rfl rfl rfl rfl (fun p' c' => .here _ _ _) hs.cons (zai key) rfl (by omega) (by omega) fun p1 c1 => ?_
 rw [Nat.zero_add, List.nil_append]
 repeat (first | ((first | apply H.Ac | apply H.Ad | apply H.Az); (iterate 3 exact rfl)) | (first | apply H.seq | apply H.Ab | apply H.nil | apply H.Aa) | ((apply H.cmp); (iterate 5 exact rfl)) | (first | apply H.Ak | apply H.Ao) | (apply H.Aw; exact rfl; (omega)))
 refine H.Bo (ι := Nat × Option Addr × Nat) (fun i => [(5, .slice i.2.1 (key ++ List.replicate i.1 0).length i.2.2), (1, .int .u8 (t.toNat : Nat))]) (fun _ => f)
  (fun i => slc i.2.1 (key ++ List.replicate i.1 0).length i.2.2 5 1 (bytesV (key ++ List.replicate i.1 0)) :: F) (fun i => i.1 ≤ 64 - key.length) (fun i => 64 - key.length - i.1) (0, p1, c1) (Nat.zero_le _) ⟨?_, rfl, trivial⟩ rfl ?_ fun i hi => ?_
 ·show some (Value.slice p1 key.length c1) = some (Value.slice p1 (key ++ []).length c1)
  rw [List.append_nil]
 ·show _ = slc p1 (key ++ []).length c1 _ 1 (bytesV (key ++ [])) :: F
  rw [List.append_nil]
 obtain ⟨i, p', c'⟩ := i
 have hi : i ≤ 64 - key.length := hi
 show H _ _ _ [(5, .slice p' (key ++ List.replicate i 0).length c'), _] _ (slc p' (key ++ List.replicate i 0).length c' _ 1 (bytesV (key ++ List.replicate i 0)) :: _) _
 have hal : (key ++ List.replicate i 0).length = key.length + i := by rw [List.length_append, List.length_replicate]
 by_cases hlt : i < 64 - key.length
 ·have e3 : key ++ List.replicate (i + 1) 0 = (key ++ List.replicate i 0) ++ [0] := by rw [List.replicate_succ', ← List.append_assoc]
  generalize key ++ List.replicate i 0 = acc at hal e3 ⊢
  repeat (first | ((first | apply H.Ac | apply H.Az); (iterate 3 exact rfl)) | (first | apply H.seq | apply H.Ab | apply H.nil | apply H.Aa) | ((apply H.cmp); (iterate 5 exact rfl)) | (first | apply H.Ak | apply H.Ao) | (apply H.Au; exact rfl; (omega)))
  refine H.Bw (out := bytesV [0]) rfl rfl rfl rfl (by decide) (by decide) rfl rfl fun tb => ?_
  refine H.Bv (m := 1) (xs := bytesV acc) rfl rfl rfl rfl rfl (fun p' c' => (by repeat constructor)) (Src.slice (Rd.ofRow (.here _ _ _)) rfl) (zai _) rfl (by omega) (by omega) fun p3 c3 => ?_
  refine H.Ah (x := row tb _ _) (by repeat constructor) ?_
  repeat (first | ((apply H.Ad); (iterate 3 exact rfl)) | (apply H.nil) | (apply H.Ba))
  refine H.Bc (i + 1, p3, c3) (by show i + 1 ≤ _; omega) (by show 64 - key.length - (i + 1) < 64 - key.length - i; omega) ⟨?_, rfl, trivial⟩ rfl ?_
  ·show some (Value.slice p3 (acc.length + 1) c3) = some (Value.slice p3 (key ++ List.replicate (i + 1) 0).length c3)
   rw [e3, List.length_append]; rfl
  ·show _ = slc p3 (key ++ List.replicate (i + 1) 0).length c3 _ 1 (bytesV (key ++ List.replicate (i + 1) 0)) :: _
   rw [e3, List.length_append, zah]; rfl
 ·have hip : i = 64 - key.length := by omega
  subst hip
  have hfl := Sha.full_len hl
  have htl := Sha.turn_len hl t
  have hget : ∀ i, i < 64 → (Sha.turn key t).getD i 0 = (Sha.full key).getD i 0 ^^^ t := fun i hi => by
   unfold Sha.turn
   rw [List.getD_eq_getElem?_getD, List.getElem?_map, List.getElem?_eq_getElem (by rw [hfl]; exact hi), List.getD_eq_getElem?_getD, List.getElem?_eq_getElem (by rw [hfl]; exact hi)]
   rfl
  have hfk : key ++ List.replicate (64 - key.length) 0 = Sha.full key := rfl
  rw [hfk] at hal ⊢
  generalize Sha.full key = K at hfl hget hal ⊢
  generalize Sha.turn key t = T at htl hget ⊢
  repeat (first | ((first | apply H.Ac | apply H.Ad | apply H.Az); (iterate 3 exact rfl)) | (first | apply H.seq | apply H.Ab | apply H.nil | apply H.Aa) | ((apply H.cmp); (iterate 5 exact rfl)) | (first | apply H.Bl | apply H.Bj | apply H.Ao | apply H.Bk | apply H.Bm) | (apply H.Aw; exact rfl; (omega)))
  refine H.Cf (.here _ _ _) (by omega) fun kb hp => ?_
  subst hp
  refine H.Bo (ι := Nat) (fun i => [(7, .int .i64 (i : Int)), (5, .slice (some ⟨kb, 0, none⟩) K.length c'), (1, .int .u8 (t.toNat : Nat))]) (fun _ => f)
   (fun i => slc (some ⟨kb, 0, none⟩) K.length c' 5 1 ((bytesV T).take i ++ (bytesV K).drop i) :: F) (fun i => i ≤ 64) (fun i => 64 - i) 0 (Nat.zero_le _) ⟨rfl, rfl, rfl, trivial⟩ rfl rfl fun i hi => ?_
  have hi : i ≤ 64 := hi
  have hTK : (bytesV T).length = (bytesV K).length := by rw [zaf, zaf, hfl, htl]
  by_cases hli : i < 64
  ·have hset : SetV ((bytesV T).take i ++ (bytesV K).drop i) i (.int .u8 ((K.getD i 0 ^^^ t).toNat : Nat)) ((bytesV T).take (i + 1) ++ (bytesV K).drop (i + 1)) := by
    rw [← hget i hli]
    exact fill_set (zbf (by omega)) hTK
   have hg : ((bytesV T).take i ++ (bytesV K).drop i)[i]? = some (.int .u8 ((K.getD i 0).toNat : Nat)) := fill_get2 (Nat.le_refl _) hTK (zbf (by omega))
   show H _ _ _ _ _ (slc _ _ _ _ _ ((bytesV T).take i ++ (bytesV K).drop i) :: _) _
   repeat (first | ((apply H.Ac); (iterate 3 exact rfl)) | (first | apply H.seq | apply H.Ab | apply H.nil | apply H.Aa) | ((apply H.cmp); (iterate 5 exact rfl)) | (first | apply H.Ak | apply H.Ao) | (apply H.Au; exact rfl; (omega)))
   refine H.Cj (i := i) rfl rfl rfl rfl (by omega) rfl ?_
   refine H.Af rfl rfl rfl (.of (Rd.ofSlc (.here _ _ _) (by omega)) hg) rfl ?_
   repeat (((apply H.Ac); (iterate 3 exact rfl)))
   refine H.Cb rfl rfl rfl (u8_xor _ _) rfl rfl ?_
   refine H.Cj (i := i) rfl rfl rfl rfl (by omega) rfl ?_
   refine H.store_slc (xs' := (bytesV T).take (i + 1) ++ (bytesV K).drop (i + 1)) rfl rfl rfl rfl (.here _ _ _) (by rw [Nat.zero_add]; exact hset) ?_
   repeat (first | ((first | apply H.Ac | apply H.Ad); (iterate 3 exact rfl)) | (first | apply H.Ab | apply H.nil | apply H.Aa) | ((apply H.ar; (iterate 4 exact rfl)); (with_reducible apply zag; omega); exact rfl) | (apply H.Ba))
   exact H.Bc (i + 1) (by show i + 1 ≤ 64; omega) (by show 64 - (i + 1) < 64 - i; omega) ⟨rfl, rfl, rfl, trivial⟩ rfl rfl
  ·have hi64 : i = 64 := by omega
   subst hi64
   have hfull : (bytesV T).take 64 ++ (bytesV K).drop 64 = bytesV T := by
    rw [List.take_of_length_le (by rw [zaf, htl]; exact Nat.le_refl _), List.drop_eq_nil_of_le (by rw [zaf, hfl]; exact Nat.le_refl _), List.append_nil]
   rw [hfull]
   have hKT : K.length = T.length := by omega
   rw [hKT]
   repeat (first | ((first | apply H.Ac | apply H.Ad); (iterate 3 exact rfl)) | (first | apply H.seq | apply H.Ab | apply H.nil | apply H.Aa) | ((apply H.cmp); (iterate 5 exact rfl)) | (apply H.Av; exact rfl) | (first | apply H.ret | apply H.Bl | apply H.Bj | apply H.Bk | apply H.Bm))
   exact H.Aj rfl rfl (fun _ h => h) ⟨_, c', rfl, rfl, rfl⟩
theorem hmac_fn {p r : Option Addr} {c d : Nat} {key b : List UInt8} (hs : ∀ G, Src Tryz.prog f (G ++ F) (.slice p key.length c) 1 key.length (bytesV key)) (hs2 : ∀ G, Src Tryz.prog f (G ++ F) (.slice r b.length d) 1 b.length (bytesV b)) (hl : key.length ≤ 64) (hl2 : b.length ≤ 100000000) :
  Fn Tryz.prog 89 [.slice p key.length c, .slice r b.length d] f F (Ret (.agg (b32 (Sha.hmac key b)).toArray) f F) := by
 refine Fn.enter Tryz.func89 rfl Tryz.ntmps89 rfl (L := [(0, _), (1, _)]) ⟨rfl, rfl, trivial⟩ fun base => ?_
 repeat ((first | apply H.seq | apply H.Ab))
 refine H.Bg (ls := zb 32) rfl rfl rfl fun ob => ?_
 repeat (first | ((apply H.Ac); (iterate 3 exact rfl)) | (first | apply H.seq | apply H.Ab | apply H.nil | apply H.Aa))
 refine H.Bn rfl rfl rfl (with_fn (t := 0x36) f _ (hs [_]) hl) fun p1 c1 => ?_
 have h1 := Sha.turn_len hl 0x36
 generalize hT : Sha.turn key 0x36 = T at h1
 repeat (((apply H.Ac); (iterate 3 exact rfl)))
 refine H.Bv (xs := bytesV T) rfl rfl rfl rfl rfl (fun p' c' => .here _ _ _) (hs2 [_, _]) (zai b) rfl (by omega) (by omega) fun p2 c2 => ?_
 have e1 : (T ++ b).length = T.length + b.length := List.length_append
 have e2 : bytesV (T ++ b) = bytesV T ++ bytesV b := zah _ _
 rw [← e1, ← e2]
 refine H.Am rfl rfl rfl (rsum_fn f _ (b := T ++ b) (Src.slcS (.here _ _ _) (by rw [zaf]; exact (Nat.mul_one _).symm)) (by omega)) ?_
 refine H.Ah (.here _ _) ?_
 refine H.Bg (ls := zb 32) rfl rfl rfl fun ib => ?_
 refine H.Bb (ls := zb 32) (vs := b32 (Sha.sum (T ++ b))) (ls' := b32 (Sha.sum (T ++ b))) rfl rfl rfl (zad rfl) rfl rfl (Nat.le_refl 32) (by repeat constructor) ?_
 generalize hin : Sha.sum (T ++ b) = inn
 repeat ((first | apply H.seq | apply H.nil | apply H.Aa))
 refine H.Bt (by kernel_rfl) (by decide +kernel) (by repeat (first | exact zab | refine zaa ?_ | refine zac ?_ | refine zae ?_)) (S := [_]) rfl ?_
 refine HB.Aq [(0, false), (2, false)] 4 (by kernel_rfl) ?_
 repeat (((apply HQ.Ac); (iterate 3 exact rfl)))
 refine HQ.Ci (lo := none) (hi := none) (mx := none) (lv := 0) (hv := 32) (mv := 32) rfl rfl rfl rfl rfl (fun h => by cases h) (by decide) (by decide) (by decide) rfl ?_
 refine HQ.Ap rfl ?_
 refine HB.ev1 (i := 1) (by kernel_rfl) rfl ?_
 refine H.Bn rfl rfl rfl (with_fn (t := 0x5c) f _ (hs [_, _]) hl) fun p3 c3 => ?_
 have h2 := Sha.turn_len hl 0x5c
 generalize hT2 : Sha.turn key 0x5c = T2 at h2
 repeat ((apply H.nil))
 refine H.Ae (x := row ib _ _) (by repeat constructor) ?_
 refine H.on0 rfl ?_
 refine HB.ev1 (i := 3) (by kernel_rfl) rfl ?_
 refine H.Bv (xs := bytesV T2) (m := 32) (news := bytesV (b32L inn)) rfl rfl rfl rfl rfl (fun p' c' => (by repeat constructor)) (Src.slice (Rd.ofRow (.here _ _ _)) rfl) (zai _) rfl (by omega) (by omega) fun p4 c4 => ?_
 repeat ((apply H.nil))
 refine H.on0 rfl ?_
 refine HB.ev1 (i := 4) (by kernel_rfl) rfl ?_
 have e3 : (T2 ++ b32L inn).length = T2.length + 32 := by rw [List.length_append]; rfl
 have e4 : bytesV (T2 ++ b32L inn) = bytesV T2 ++ bytesV (b32L inn) := zah _ _
 have hfin : Sha.hmac key b = Sha.sum (T2 ++ b32L inn) := by unfold Sha.hmac; rw [hT, hT2, hin]
 rw [hfin]
 generalize T2 ++ b32L inn = l4 at e3 e4 ⊢
 rw [← e3, ← e4]
 refine H.Am rfl rfl rfl (rsum_fn f _ (b := l4) (Src.slcS (by repeat constructor) (by rw [zaf]; exact (Nat.mul_one _).symm)) (by omega)) ?_
 repeat ((apply H.nil))
 refine H.on0 rfl ?_
 refine HB.ev1 (i := 5) (by kernel_rfl) rfl ?_
 refine H.Bb (ls := zb 32) (vs := b32 (Sha.sum l4)) (ls' := b32 (Sha.sum l4)) rfl rfl rfl (zad rfl) rfl rfl (Nat.le_refl 32) (by repeat constructor) ?_
 repeat ((apply H.nil))
 refine H.on0 rfl ?_
 refine HB.Bf (by kernel_rfl) ?_
 repeat (first | (apply H.Aa) | (apply H.ret))
 refine H.Ah (.here _ _) ?_
 refine H.Ah (x := slc _ _ _ _ _ _) (by repeat constructor) ?_
 exact H.Ca rfl rfl rfl (Rd.ofRow (by repeat constructor)) rfl (fun _ s => s.drop (.here _ _)) ⟨rfl, rfl, rfl⟩
end
def Msg.signed (m : Msg) : Msg := if m.may = true then { m with tag := Sha.numbered m.origin m.number m.tagged } else m
theorem Msg.tagged_len {m : Msg} (h : m.may = true) : m.tagged.length ≤ 3000 := by
 have h1 := Bod.may_spec (Msg.may_body h)
 have h2 := Bod.may_q (Msg.may_body h)
 have h3 := (putK_len m.body m.body.kind.toNat h1.2.2 h2).2
 unfold Msg.tagged Bod.put
 simp only [List.length_append, List.length_cons, List.length_nil, depsB_len]
 omega
section
variable (f : Frag) (F : List HP)
theorem rkey_fn {w : ByteArray} {i most : Int} (h1 : 1 ≤ i) (h2 : i ≤ most) (h3 : most ≤ 1000) (hw : w.size ≤ 1000) :
  Fn Tryz.prog 113 [.string w, .int .i64 i, .int .i64 most] f F (BytesR (Sha.word32 w.data.toList i) f F) := by
 have hwl := zav w
 refine Fn.enter Tryz.func113 rfl Tryz.ntmps113 rfl (L := [(0, _), (1, _), (2, _)]) ⟨rfl, rfl, rfl, trivial⟩ fun base => ?_
 repeat (first | ((first | apply H.Ac | apply H.Ad); (iterate 3 exact rfl)) | (first | apply H.seq | apply H.Ab | apply H.nil | apply H.Aa) | ((apply H.cmp); (iterate 5 exact rfl)) | ((apply H.Ay); (iterate 4 exact rfl)) | (apply H.Ak) | (apply H.gno; (iterate 3 exact rfl); (omega)) | (apply H.Aw; exact rfl; (omega)))
 refine H.convSB rfl rfl rfl fun sb sc => ?_
 repeat (first | ((apply H.Ac); (iterate 3 exact rfl)) | ((apply H.Bp; (iterate 2 exact rfl)); (with_reducible apply wr_u64; omega); exact rfl))
 have hs : Src Tryz.prog f (strRow sb w sc 5 :: F) (.slice (some ⟨sb, 0, none⟩) w.data.toList.length sc) 1 w.data.toList.length (bytesV w.data.toList) := by
  rw [hwl]; exact Src.strRow (.here _ _ _)
 have hfn := zbb (n := i) f _ hs (by omega)
 rw [hwl] at hfn
 refine H.Bn rfl rfl rfl hfn fun p1 c1 => ?_
 have e1 : (w.data.toList ++ be 8 i).length ≤ 2000 := by rw [List.length_append, be_len, hwl]; omega
 unfold Sha.word32
 generalize w.data.toList ++ be 8 i = l1 at e1
 refine H.Am rfl rfl rfl (rsum_fn f _ (b := l1) (Src.slcS (.here _ _ _) (by rw [zaf]; exact (Nat.mul_one _).symm)) (by omega)) ?_
 refine H.Ah (.here _ _) ?_
 refine H.Ah (.here _ _) ?_
 refine H.Bg (ls := zb 32) rfl rfl rfl fun db => ?_
 refine H.Bb (ls := zb 32) (vs := b32 (Sha.sum l1)) (ls' := b32 (Sha.sum l1)) rfl rfl rfl (zad rfl) rfl rfl (Nat.le_refl 32) (by repeat constructor) ?_
 generalize Sha.sum l1 = d
 repeat ((first | apply H.seq | apply H.Ab | apply H.nil | apply H.Aa))
 refine H.Bw rfl rfl rfl rfl (by decide) (by decide) rfl rfl fun eb => ?_
 refine H.asSlc (k := 0) (sz := 1) rfl (by decide) ?_
 refine H.Ci (lo := none) (hi := none) (mx := none) (lv := 0) (hv := 32) (mv := 32) rfl rfl rfl rfl rfl (fun h => by cases h) (by decide) (by decide) (by decide) rfl ?_
 refine H.Bv (xs := []) (m := 32) (news := bytesV (b32L d)) rfl rfl rfl rfl rfl (fun p' c' => .here _ _ _) (Src.slice (Rd.ofRow (.there _ (.here _ _ _))) rfl) (zai _) rfl (by omega) (by omega) fun p4 c4 => ?_
 repeat (first | ((apply H.Ad); (iterate 3 exact rfl)) | (first | apply H.nil | apply H.Aa) | (apply H.ret))
 refine H.Ah (x := row db _ _) (by repeat constructor) ?_
 exact H.Aj rfl rfl (fun _ h => h) ⟨p4, c4, rfl, rfl, rfl⟩
theorem rreplica_fn {i : Int} (h1 : 1 ≤ i) (h2 : i ≤ 11) : Fn Tryz.prog 90 [.int .i64 i] f F (BytesR (Sha.word32 Sha.replicaW i) f F) := by
 refine Fn.enter Tryz.func90 rfl Tryz.ntmps90 rfl (L := [(0, _)]) ⟨rfl, trivial⟩ fun base => ?_
 repeat (first | ((first | apply H.Ac | apply H.Ad); (iterate 3 exact rfl)) | (first | apply H.seq | apply H.Ab | apply H.nil | apply H.Aa))
 refine H.Bn rfl rfl rfl (rkey_fn (w := ⟨#[114, 97, 116, 99, 104, 101, 116, 32, 114, 101, 112, 108, 105, 99, 97]⟩) f _ h1 h2 (by decide) (by decide)) fun p1 c1 => ?_
 repeat (first | ((apply H.Ad); (iterate 3 exact rfl)) | (first | apply H.nil | apply H.Aa) | (apply H.ret))
 exact H.Aj rfl rfl (fun _ h => h) ⟨p1, c1, rfl, rfl, rfl⟩
theorem rnumbered_fn {i n : Int} {r : Option Addr} {d : Nat} {b : List UInt8} (h1 : 1 ≤ i) (h2 : i ≤ 11) (hs : ∀ G, Src Tryz.prog f (G ++ F) (.slice r b.length d) 1 b.length (bytesV b)) (hl : b.length ≤ 10000000) :
  Fn Tryz.prog 64 [.int .i64 i, .int .u64 n, .slice r b.length d] f F (Ret (.agg (b32 (Sha.numbered i n b)).toArray) f F) := by
 refine Fn.enter Tryz.func64 rfl Tryz.ntmps64 rfl (L := [(0, _), (1, _), (2, _)]) ⟨rfl, rfl, rfl, trivial⟩ fun base => ?_
 repeat ((first | apply H.seq | apply H.Ab))
 refine H.Bg (ls := zb 32) rfl rfl rfl fun ob => ?_
 repeat (first | ((apply H.Ac); (iterate 3 exact rfl)) | (first | apply H.seq | apply H.Ab | apply H.nil | apply H.Aa))
 refine H.Bn rfl rfl rfl (rreplica_fn f _ h1 h2) fun p1 c1 => ?_
 repeat (((apply H.Ac); (iterate 3 exact rfl)))
 refine H.Bn rfl rfl rfl (zbb (l := []) (n := n) f _ Src.nil (by decide)) fun p2 c2 => ?_
 rw [List.nil_append]
 have h8 := be_len 8 n
 repeat (((apply H.Ac); (iterate 3 exact rfl)))
 refine H.Bv (xs := bytesV (be 8 n)) rfl rfl rfl rfl rfl (fun p' c' => .here _ _ _) (hs [_, _, _]) (zai b) rfl (by omega) (by omega) fun p3 c3 => ?_
 have e1 : (be 8 n ++ b).length = (be 8 n).length + b.length := List.length_append
 have e2 : bytesV (be 8 n ++ b) = bytesV (be 8 n) ++ bytesV b := zah _ _
 unfold Sha.numbered
 have hk : (Sha.word32 Sha.replicaW i).length = 32 := rfl
 generalize Sha.word32 Sha.replicaW i = key at hk ⊢
 generalize be 8 n ++ b = l1 at e1 e2 ⊢
 rw [← e1, ← e2]
 refine H.Am rfl rfl rfl (hmac_fn f _ (key := key) (b := l1) (fun G => Src.append (Src.slcS (.there _ (.here _ _ _)) (by rw [zaf]; exact (Nat.mul_one _).symm))) (fun G => Src.append (Src.slcS (.here _ _ _) (by rw [zaf]; exact (Nat.mul_one _).symm))) (by omega) (by omega)) ?_
 refine H.Ah (.here _ _) ?_
 refine H.Ah (.here _ _) ?_
 refine H.Bb (ls := zb 32) (vs := b32 (Sha.hmac key l1)) (ls' := b32 (Sha.hmac key l1)) rfl rfl rfl (zad rfl) rfl rfl (Nat.le_refl 32) (by repeat constructor) ?_
 repeat (first | (first | apply H.nil | apply H.Aa) | (apply H.ret))
 exact H.Ca rfl rfl rfl (Rd.ofRow (by repeat constructor)) rfl (fun _ s => s.drop (.here _ _)) ⟨rfl, rfl, rfl⟩
theorem splice_tag (m : Msg) (q : Option Addr) (qc : Nat) (t : Nat → UInt8) : splice (m.vals q qc) (0 + 89) (b32 t) = ({ m with tag := t } : Msg).vals q qc := by
 unfold Msg.vals
 generalize hp : ([.int .i64 m.origin, .int .u64 m.number] ++ v11 m.deps ++ m.body.vals q qc : List Value) = p
 have hl : p.length = 89 := by rw [← hp]; rfl
 unfold splice
 rw [Nat.zero_add, ← hl, List.take_left, List.drop_eq_nil_of_le (by rw [List.length_append]; exact Nat.le_refl _), List.append_nil]
theorem rtagged_fn {m : Msg} {q : Option Addr} {qc : Nat} (hq : QAt f q m.body.q) (hl : m.body.q.length ≤ 1000000000) :
  Fn Tryz.prog 33 [.agg (m.vals q qc).toArray] f F (Ret (.agg (m.signed.vals q qc).toArray) f F) := by
 have hmay := fun G => rmay_fn (m := m) (qc := qc) f G hq hl
 have e0 : m.may = (decide m.outer && m.body.may) := rfl
 rw [← e0] at hmay
 unfold Msg.signed
 by_cases hm : m.may = true
 ·rw [if_pos hm]
  have hbl := Msg.tagged_len hm
  have hout : m.outer := by
   unfold Msg.may at hm
   simp only [Bool.and_eq_true, decide_eq_true_eq] at hm
   exact hm.1
  have hby : ∀ G, Fn Tryz.prog 61 [.agg (m.vals q qc).toArray] f G (BytesR m.tagged f G) := fun G => by
   have := rbytes_fn (m := m) (qc := qc) f G hq hl
   unfold Msg.bytes at this
   rwa [if_pos hm] at this
  rw [hm] at hmay
  refine Fn.enter Tryz.func33 rfl Tryz.ntmps33 rfl (L := [(0, _)]) ⟨rfl, trivial⟩ fun base => ?_
  repeat ((first | apply H.seq | apply H.Ab))
  refine H.box (ls := m.vals q qc) rfl rfl rfl rfl fun mb => ?_
  refine H.Bg (ls := (⟨0, 0, fun _ => 0, Bod.zero 0, noTag⟩ : Msg).vals none 0) rfl rfl rfl fun ob => ?_
  repeat ((first | apply H.seq | apply H.Ab | apply H.nil | apply H.Aa))
  refine H.Al (ls := m.vals q qc) rfl rfl rfl (Rd.ofRow (by repeat constructor)) rfl rfl ?_
  refine H.Am rfl rfl rfl (hmay _) ?_
  repeat (first | (first | apply H.nil | apply H.Aa) | (apply H.Bh; exact rfl))
  refine H.Ae (x := row mb _ _) (by repeat constructor) ?_
  refine H.Ch [0, 1, 2, 3, 4, 5, 6] (by kernel_rfl) (by decide +kernel) (by repeat (first | exact zab | refine zaa ?_ | refine zac ?_ | refine zae ?_)) (S := [_]) rfl ?_
  refine HB.Aq [(0, false), (1, false), (2, false), (3, false), (4, false)] 4 (by kernel_rfl) ?_
  repeat (first | (apply HQ.Ag; (iterate 3 exact rfl); exact inferInstance; exact rfl) | (apply HQ.Af; (iterate 3 exact rfl); apply Rd1.ofRow; (repeat (exact .here _ _ _)); (iterate 2 exact rfl)))
  refine HQ.Al (ls := m.vals q qc) rfl rfl rfl (Rd.ofRow (by repeat constructor)) rfl rfl ?_
  refine HQ.Ap rfl ?_
  refine HB.ev1 (i := 5) (by kernel_rfl) rfl ?_
  refine H.Bn rfl rfl rfl (hby _) fun p1 c1 => ?_
  generalize m.tagged = tg at hbl ⊢
  repeat ((apply H.nil))
  refine H.Ae (x := row mb _ _) (by repeat constructor) ?_
  refine H.on0 rfl ?_
  refine HB.ev1 (i := 6) (by kernel_rfl) rfl ?_
  refine H.Am rfl rfl rfl (rnumbered_fn f _ hout.1 hout.2.1 (b := tg) (fun G => Src.append (Src.slcS (.there _ (.here _ _ _)) (by rw [zaf]; exact (Nat.mul_one _).symm))) (by omega)) ?_
  repeat ((apply H.nil))
  refine H.on0 rfl ?_
  refine HB.next [] (by kernel_rfl) (S' := []) rfl ?_
  refine HB.Aq [(7, false)] 1 (by kernel_rfl) ?_
  repeat ((apply HQ.Ag; (iterate 3 exact rfl); exact inferInstance; exact rfl))
  refine HQ.Ap rfl ?_
  refine HB.ev1 (i := 8) (by kernel_rfl) rfl ?_
  generalize Sha.numbered m.origin m.number tg = t
  refine H.Bb (ls := m.vals q qc) (vs := b32 t) (ls' := ({ m with tag := t } : Msg).vals q qc) rfl rfl rfl (zad rfl) rfl (splice_tag m q qc t) (show 89 + 32 ≤ 121 by decide) (by repeat constructor) ?_
  repeat ((apply H.nil))
  refine H.on0 rfl ?_
  refine HB.Bf (by kernel_rfl) ?_
  repeat ((first | apply H.seq | apply H.Ab | apply H.Aa))
  refine H.Al (ls := ({ m with tag := t } : Msg).vals q qc) rfl rfl rfl (Rd.ofRow (by repeat constructor)) rfl rfl ?_
  refine H.Bb (ls := (⟨0, 0, fun _ => 0, Bod.zero 0, noTag⟩ : Msg).vals none 0) (vs := ({ m with tag := t } : Msg).vals q qc) (ls' := ({ m with tag := t } : Msg).vals q qc) rfl rfl rfl (zad rfl) rfl rfl (Nat.le_refl 121) (by repeat constructor) ?_
  repeat (first | (first | apply H.nil | apply H.Aa) | (apply H.ret))
  refine H.Ah (x := row mb _ _) (by repeat constructor) ?_
  refine H.Ah (x := slc _ _ _ _ _ _) (by repeat constructor) ?_
  exact H.Ca rfl rfl rfl (Rd.ofRow (by repeat constructor)) rfl (fun _ s => s.drop (.here _ _)) ⟨rfl, rfl, rfl⟩
 ·rw [if_neg hm]
  rw [Bool.eq_false_iff.2 hm] at hmay
  refine Fn.enter Tryz.func33 rfl Tryz.ntmps33 rfl (L := [(0, _)]) ⟨rfl, trivial⟩ fun base => ?_
  repeat ((first | apply H.seq | apply H.Ab))
  refine H.box (ls := m.vals q qc) rfl rfl rfl rfl fun mb => ?_
  refine H.Bg (ls := (⟨0, 0, fun _ => 0, Bod.zero 0, noTag⟩ : Msg).vals none 0) rfl rfl rfl fun ob => ?_
  repeat ((first | apply H.seq | apply H.Ab | apply H.nil | apply H.Aa))
  refine H.Al (ls := m.vals q qc) rfl rfl rfl (Rd.ofRow (by repeat constructor)) rfl rfl ?_
  refine H.Am rfl rfl rfl (hmay _) ?_
  repeat (first | (first | apply H.seq | apply H.Ab | apply H.nil | apply H.Aa) | (apply H.Av; exact rfl) | (apply H.Ak))
  refine H.Al (ls := m.vals q qc) rfl rfl rfl (Rd.ofRow (by repeat constructor)) rfl rfl ?_
  refine H.Bb (ls := (⟨0, 0, fun _ => 0, Bod.zero 0, noTag⟩ : Msg).vals none 0) (vs := m.vals q qc) (ls' := m.vals q qc) rfl rfl rfl (zad rfl) rfl rfl (Nat.le_refl 121) (by repeat constructor) ?_
  repeat (first | (first | apply H.nil | apply H.Aa) | (apply H.ret))
  refine H.Ah (x := row mb _ _) (by repeat constructor) ?_
  exact H.Ca rfl rfl rfl (Rd.ofRow (by repeat constructor)) rfl (fun _ s => s.drop (.here _ _)) ⟨rfl, rfl, rfl⟩
end
section rules
variable {P : Program} {base : World} {n : Nat} {L : Env} {f : Frag} {A : List HP} {q : Post}
variable {l rest : List Oper} {d : Nat} {ty : TypeId} {pos : String} {af : Array Edge} {gd : Option (Nat × Bool)}
theorem H.makeS {t e : TypeId} {x y : Operand} {kl kc : IntKind} {u v : Int} {m sz bytes : Nat} {z : Value} {zs : List Value} [hu : Und P t (.slice e)] [hsz : Siz P e sz] [hb : Byt P e bytes] [hz : Zer P e z] (hw : want? l L gd = true)
  (hx : ev? L x = some (.int kl u)) (hy : ev? L y = some (.int kc v)) (hum : u = (m : Nat)) (hvm : v = (m : Nat)) (hzs : cellsL z = zs) (h0 : zs.length = sz) (h1 : 0 < sz) (hm : bytes * m ≤ 281474976710656) (h63 : m ≤ 9223372036854775807) (hd : Nat.ble (d + 1) n = true)
  (k : ∀ b, H P base n ((d, .slice (some ⟨b, 0, none⟩) m m) :: L) f (row b e (zeros zs m) :: A) (.ops l rest q)) : H P base n L f A (.ops l (⟨some d, .makeSlice t x y, ty, pos, af, gd⟩ :: rest) q) :=
 H.opE (fun b => .slice (some ⟨b, 0, none⟩) m m) (fun _ => f) (fun b => row b e (zeros zs m) :: A) (fun _ => True) hw hd (fun a w hfr s => by
  subst hzs; subst h0; subst hum; subst hvm
  obtain ⟨i, hi, hi1, hi2, hi3⟩ := info_of hsz hb hz
  have h4 : z.cells = (cellsL z).toArray := by rw [← cellsL_eq]
  have e1 := zeros_array (cellsL z) m h1
  refine ⟨w.heap.size, w.alloc (.cells (zeros (cellsL z) m).toArray e (0, 0)), trivial, ?_, s.alloc rfl rfl rfl rfl⟩
  have hbm : ((bytes * m : Nat) : Int) ≤ 281474976710656 := by omega
  rw [Int.natCast_mul] at hbm
  have hr := run_make (P := P) w t e i z hu.eq hi hi3 kl kc (m : Int) (m : Int) (by omega) (Int.le_refl _) (by rw [hi2]; exact hbm) (by omega)
  rw [Int.toNat_natCast, hi1, h4] at hr
  unfold madeCells at hr
  rw [e1] at hr
  show Sem.run P (Instr.makeSlice t (a.eval x) (a.eval y) >>= fun v => pure (Next.value v)) w = _
  simp only [hfr.eval hx, hfr.eval hy, Sem.run_bind, hr, Result.andThen_ok, Sem.run_pure]) (fun b _ => k b)
end rules
theorem strRow_bat {b c : Nat} {s : ByteArray} {T : TypeId} {f g : Frag} (h : strRow b s c T g) (hd : Dj f g) : BAt (un f g) (some ⟨b, 0, none⟩) s.data.toList := by
 have hg : g = sing b (.cells (bytesRow s c) T ((bytesRow s c).size, (bytesRow s c).size + 1)) := h
 refine .inr ⟨b, 0, bytesRow s c, T, ((bytesRow s c).size, (bytesRow s c).size + 1), rfl, ?_, fun i hi => ?_⟩
 ·have : f b = none := by
   rcases hd b with h | h
   ·exact h
   ·rw [hg] at h
    simp [sing] at h
  unfold un
  rw [this, hg]
  simp [sing]
 ·rw [Nat.zero_add]
  exact bytesRow_get s c (by rw [zav] at hi; exact hi)
theorem zeros_one (z : Value) : ∀ n : Nat, zeros [z] n = List.replicate n z
 | 0 => rfl
 | n + 1 => by rw [List.replicate_succ, ← zeros_one z n]; rfl
def parts2 (a b : List UInt8) : Nat → List UInt8
 | 0 => []
 | 1 => a
 | _ => a ++ b
def pt2 (pb : Nat) (p : Option Addr) (m c : Nat) (q : Option Addr) (k d : Nat) : HP := row pb 55 [.slice p m c, .slice q k d]
section
variable (f : Frag) (F : List HP)
theorem tdig_fn (htab : TabAt f) {pb : Nat} {p q : Option Addr} {c d : Nat} {a b : List UInt8} (ha : BAt f p a) (hb : BAt f q b) (hc : a.length ≤ c) (hd : b.length ≤ d) (hl : a.length + b.length ≤ 100000000) :
  Fn Tryz.prog 162 [.slice (some ⟨pb, 0, none⟩) 2 2] f (pt2 pb p a.length c q b.length d :: F) (Ret (.agg (b32 (Sha.sum (a ++ b))).toArray) f (pt2 pb p a.length c q b.length d :: F)) := by
 unfold pt2
 refine Fn.enter Tryz.func162 rfl Tryz.ntmps162 rfl (L := [(0, _)]) ⟨rfl, trivial⟩ fun base => ?_
 repeat ((first | apply H.seq | apply H.Ab))
 refine H.Bg (ls := zb 32) rfl rfl rfl fun ob => ?_
 repeat ((first | apply H.seq | apply H.Ab | apply H.nil | apply H.Aa))
 refine H.callE rfl rfl rfl (snew_fn f _) fun hb' => ?_
 repeat (first | ((first | apply H.Ac | apply H.Ad | apply H.Az); (iterate 3 exact rfl)) | (first | apply H.seq | apply H.Ab | apply H.nil | apply H.Aa) | (apply H.Ao))
 refine H.Bo (ι := Nat) (fun i => [(9, .int .i64 (i : Int)), (8, .int .i64 ((2 : Nat) : Int)), (7, .slice (some ⟨pb, 0, none⟩) 2 2), (3, .pointer (some ⟨hb', 0, none⟩)), (2, .pointer (some ⟨ob, 0, none⟩))]) (fun _ => f)
  (fun i => hashH hb' (parts2 a b i) :: row ob 40 (zb 32) :: row pb 55 [.slice p a.length c, .slice q b.length d] :: F) (fun i => i ≤ 2) (fun i => 2 - i) 0 (Nat.zero_le _) ⟨rfl, rfl, rfl, rfl, rfl, trivial⟩ rfl rfl fun i hi => ?_
 have hi : i ≤ 2 := hi
 match i, hi with
 | 0, _ =>
  repeat (first | (first | apply H.seq | apply H.Ab | apply H.nil | apply H.Aa) | ((apply H.cmp); (iterate 5 exact rfl)) | (apply H.Bh; exact rfl) | (first | apply H.Ak | apply H.Ao))
  refine H.Cj (i := 0) rfl rfl rfl rfl (by decide) rfl ?_
  refine H.Af rfl rfl rfl (Rd1.ofRow (by repeat constructor) rfl) rfl ?_
  repeat (first | ((first | apply H.Ac | apply H.Ad); (iterate 3 exact rfl)) | (first | apply H.Ab | apply H.nil | apply H.Aa))
  refine H.Am rfl rfl rfl (swrite_fn f _ htab (b := []) ha hc (by show 0 + a.length ≤ _; omega)) ?_
  repeat (first | ((apply H.Ac); (iterate 3 exact rfl)) | (first | apply H.Ab | apply H.nil | apply H.Aa) | ((apply H.ar; (iterate 4 exact rfl)); (with_reducible apply zag; omega); exact rfl) | (apply H.Ba))
  exact H.Bc 1 (by decide) (by decide) ⟨rfl, rfl, rfl, rfl, rfl, trivial⟩ rfl rfl
 | 1, _ =>
  repeat (first | (first | apply H.seq | apply H.Ab | apply H.nil | apply H.Aa) | ((apply H.cmp); (iterate 5 exact rfl)) | (apply H.Bh; exact rfl) | (first | apply H.Ak | apply H.Ao))
  refine H.Cj (i := 1) rfl rfl rfl rfl (by decide) rfl ?_
  refine H.Af rfl rfl rfl (Rd1.ofRow (by repeat constructor) rfl) rfl ?_
  repeat (first | ((first | apply H.Ac | apply H.Ad); (iterate 3 exact rfl)) | (first | apply H.Ab | apply H.nil | apply H.Aa))
  refine H.Am rfl rfl rfl (swrite_fn f _ htab (b := a) hb hd (by omega)) ?_
  repeat (first | ((apply H.Ac); (iterate 3 exact rfl)) | (first | apply H.Ab | apply H.nil | apply H.Aa) | ((apply H.ar; (iterate 4 exact rfl)); (with_reducible apply zag; omega); exact rfl) | (apply H.Ba))
  exact H.Bc 2 (by decide) (by decide) ⟨rfl, rfl, rfl, rfl, rfl, trivial⟩ rfl rfl
 | 2, _ =>
  have e2 : a ++ b = parts2 a b 2 := rfl
  have hpl : (parts2 a b 2).length ≤ 1000000000 := by show (a ++ b).length ≤ _; rw [List.length_append]; omega
  rw [e2]
  show H _ _ _ _ _ (hashH hb' (parts2 a b 2) :: _) _
  generalize parts2 a b 2 = ab at hpl ⊢
  repeat (first | ((apply H.Ac); (iterate 3 exact rfl)) | (first | apply H.seq | apply H.Ab | apply H.nil | apply H.Aa) | ((apply H.cmp); (iterate 5 exact rfl)) | (apply H.Av; exact rfl) | (first | apply H.Bl | apply H.Bj | apply H.Bk | apply H.Bm))
  refine H.Am rfl rfl rfl (hsum_fn f _ htab (b := ab) hpl) ?_
  refine H.Bb (ls := zb 32) (vs := b32 (Sha.sum ab)) (ls' := b32 (Sha.sum ab)) rfl rfl rfl (zad rfl) rfl rfl (Nat.le_refl 32) (by repeat constructor) ?_
  repeat (first | (first | apply H.nil | apply H.Aa) | (apply H.ret))
  refine H.Ah (x := hashH _ _) (by repeat constructor) ?_
  exact H.Ca rfl rfl rfl (Rd.ofRow (by repeat constructor)) rfl (fun _ s => s.drop (.here _ _)) ⟨rfl, rfl, rfl⟩
theorem turned_fn {p : Option Addr} {c : Nat} {key : List UInt8} {t : UInt8} (hk : BAt f p key) (hl : key.length ≤ 64) :
  Fn Tryz.prog 163 [.slice p key.length c, .int .u8 (t.toNat : Nat)] f F (BytesR (Sha.turn key t) f F) := by
 have hfirst := fun A => BAt.first (P := Tryz.prog) (A := A) (c := c) hk (Nat.le_refl _)
 rw [List.take_length] at hfirst
 have hlen := (BAt.src (P := Tryz.prog) (A := []) (c := c) hk).len
 have hspl : splice (zb 64) 0 (bytesV key) = bytesV (Sha.full key) := by
  unfold splice Sha.full zb
  rw [List.take_zero, List.nil_append, zah, zaf, Nat.zero_add, List.drop_replicate]
  congr 1
  unfold bytesV
  rw [List.map_replicate]
  rfl
 have hfl := Sha.full_len hl
 have htl := Sha.turn_len hl t
 have hget : ∀ i, i < 64 → (Sha.turn key t).getD i 0 = (Sha.full key).getD i 0 ^^^ t := fun i hi => by
  unfold Sha.turn
  rw [List.getD_eq_getElem?_getD, List.getElem?_map, List.getElem?_eq_getElem (by rw [hfl]; exact hi), List.getD_eq_getElem?_getD, List.getElem?_eq_getElem (by rw [hfl]; exact hi)]
  rfl
 refine Fn.enter Tryz.func163 rfl Tryz.ntmps163 rfl (L := [(0, _), (1, _)]) ⟨rfl, rfl, trivial⟩ fun base => ?_
 repeat (first | ((first | apply H.Ac | apply H.Ad | apply H.Az); (iterate 3 exact rfl)) | (first | apply H.seq | apply H.Ab | apply H.nil | apply H.Aa) | ((apply H.cmp); (iterate 5 exact rfl)) | (apply H.Ak) | (apply H.Aw; exact rfl; (omega)))
 refine H.makeS (m := 64) (zs := [.int .u8 0]) rfl rfl rfl rfl rfl rfl rfl (by decide) (by decide) (by decide) rfl fun rb => ?_
 rw [show zeros [Value.int .u8 0] 64 = zb 64 from zeros_one _ _]
 repeat (first | ((first | apply H.Ac | apply H.Ad); (iterate 3 exact rfl)) | (first | apply H.seq | apply H.Ab | apply H.nil | apply H.Aa))
 refine H.copy (k0 := key.length) (m := key.length) (cs := bytesV key) (ls := zb 64) (ls' := bytesV (Sha.full key)) rfl rfl rfl rfl hlen (Nat.min_eq_left hl) (hfirst _) hspl (by rw [zaf, show (zb 64).length = 64 from List.length_replicate]; omega) (zai _) (by repeat constructor) ?_
 refine H.asSlc (k := 64) (sz := 1) (by rw [zaf, hfl]) (by decide) ?_
 generalize Sha.full key = K at hfl hget hspl ⊢
 generalize Sha.turn key t = T at htl hget ⊢
 repeat (first | ((apply H.Ac); (iterate 3 exact rfl)) | (first | apply H.seq | apply H.Ab | apply H.nil | apply H.Aa) | (apply H.Ao))
 refine H.Bo (ι := Nat) (fun i => [(19, .int .i64 (i : Int)), (6, .slice (some ⟨rb, 0, none⟩) 64 64), (1, .int .u8 (t.toNat : Nat))]) (fun _ => f)
  (fun i => slc (some ⟨rb, 0, none⟩) 64 64 5 1 ((bytesV T).take i ++ (bytesV K).drop i) :: F) (fun i => i ≤ 64) (fun i => 64 - i) 0 (Nat.zero_le _) ⟨rfl, rfl, rfl, trivial⟩ rfl rfl fun i hi => ?_
 have hi : i ≤ 64 := hi
 have hTK : (bytesV T).length = (bytesV K).length := by rw [zaf, zaf, hfl, htl]
 by_cases hli : i < 64
 ·have hset : SetV ((bytesV T).take i ++ (bytesV K).drop i) i (.int .u8 ((K.getD i 0 ^^^ t).toNat : Nat)) ((bytesV T).take (i + 1) ++ (bytesV K).drop (i + 1)) := by
   rw [← hget i hli]
   exact fill_set (zbf (by omega)) hTK
  have hg : ((bytesV T).take i ++ (bytesV K).drop i)[i]? = some (.int .u8 ((K.getD i 0).toNat : Nat)) := fill_get2 (Nat.le_refl _) hTK (zbf (by omega))
  show H _ _ _ _ _ (slc _ _ _ _ _ ((bytesV T).take i ++ (bytesV K).drop i) :: _) _
  repeat (first | ((first | apply H.Ac | apply H.Ad); (iterate 3 exact rfl)) | (first | apply H.seq | apply H.Ab | apply H.nil | apply H.Aa) | ((apply H.cmp); (iterate 5 exact rfl)) | (first | apply H.Ak | apply H.Ao) | (apply H.Au; exact rfl; (omega)))
  refine H.Cj (i := i) rfl rfl rfl rfl (by omega) rfl ?_
  refine H.Af rfl rfl rfl (.of (Rd.ofSlc (.here _ _ _) (by omega)) hg) rfl ?_
  repeat (((apply H.Ac); (iterate 3 exact rfl)))
  refine H.Cb (op := .xor) rfl rfl rfl (u8_xor _ _) rfl rfl ?_
  refine H.Cj (i := i) rfl rfl rfl rfl (by omega) rfl ?_
  refine H.store_slc (xs' := (bytesV T).take (i + 1) ++ (bytesV K).drop (i + 1)) rfl rfl rfl rfl (.here _ _ _) (by rw [Nat.zero_add]; exact hset) ?_
  repeat (first | ((apply H.Ac); (iterate 3 exact rfl)) | (first | apply H.Ab | apply H.nil | apply H.Aa) | ((apply H.ar; (iterate 4 exact rfl)); (with_reducible apply zag; omega); exact rfl) | (apply H.Ba))
  exact H.Bc (i + 1) (by show i + 1 ≤ 64; omega) (by show 64 - (i + 1) < 64 - i; omega) ⟨rfl, rfl, rfl, trivial⟩ rfl rfl
 ·have hi64 : i = 64 := by omega
  subst hi64
  have hfull : (bytesV T).take 64 ++ (bytesV K).drop 64 = bytesV T := by
   rw [List.take_of_length_le (by rw [zaf, htl]; exact Nat.le_refl _), List.drop_eq_nil_of_le (by rw [zaf, hfl]; exact Nat.le_refl _), List.append_nil]
  rw [hfull]
  repeat (first | ((first | apply H.Ac | apply H.Ad); (iterate 3 exact rfl)) | (first | apply H.seq | apply H.Ab | apply H.nil | apply H.Aa) | ((apply H.cmp); (iterate 5 exact rfl)) | (apply H.Av; exact rfl) | (first | apply H.ret | apply H.Bl | apply H.Bj | apply H.Bk | apply H.Bm))
  refine H.Aj rfl rfl (A' := slc (some ⟨rb, 0, none⟩) T.length 64 5 1 (bytesV T) :: F) ?_ ⟨_, 64, by rw [htl], rfl, rfl⟩
  rw [htl]
  exact fun _ h => h
end
section rules
variable {P : Program} {base : World} {n : Nat} {L : Env} {f : Frag} {A : List HP} {q : Post}
variable {l rest : List Oper} {d : Nat} {ty : TypeId} {pos : String} {af : Array Edge} {gd : Option (Nat × Bool)}
theorem H.convSBc {s t e : TypeId} {x : Operand} {bs : ByteArray} [hs : Und P s .string] [ht : Und P t (.slice e)] [he : Und P e (.int .u8)] (hw : want? l L gd = true) (hx : ev? L x = some (.string bs)) (hd : Nat.ble (d + 1) n = true)
  (k : ∀ b c, bs.size ≤ c → H P base n ((d, .slice (some ⟨b, 0, none⟩) bs.size c) :: L) f (strRow b bs c e :: A) (.ops l rest q)) : H P base n L f A (.ops l (⟨some d, .convert s t x, ty, pos, af, gd⟩ :: rest) q) :=
 H.opE (ι := Nat × Nat) (fun i => .slice (some ⟨i.1, 0, none⟩) bs.size i.2) (fun _ => f) (fun i => strRow i.1 bs i.2 e :: A) (fun i => bs.size ≤ i.2) hw hd (fun a w hfr s' => by
  have h1 := run_bytes_of_string (P := P) w s t e bs hs.eq ht.eq he.eq
  have h2 : (execOp a.eval ⟨some d, .convert s t x, ty, pos, af, gd⟩).run P w = .ok (.value (.slice (some ⟨w.heap.size, 0, none⟩) bs.size (grownCap w bs.size 0 e))) (w.drew.alloc (.cells (bytesRow bs (grownCap w bs.size 0 e)) e ((bytesRow bs (grownCap w bs.size 0 e)).size, (bytesRow bs (grownCap w bs.size 0 e)).size + 1))) := by
   simp only [execOp, hfr.eval hx, Sem.run_bind, h1, Result.andThen_ok, Sem.run_pure]
  exact ⟨(w.heap.size, grownCap w bs.size 0 e), _, grownCap_ge w bs.size 0 e, h2, Sat.alloc (w := w) s' rfl rfl rfl rfl⟩) (fun i hi => k i.1 i.2 hi)
end rules
section
variable (f : Frag) (F : List HP)
theorem tdig_sb (htab : TabAt f) {pb : Nat} {p q : Option Addr} {c d : Nat} {a b : List UInt8} (hb : BAt f q b) (hc : a.length ≤ c) (hd : b.length ≤ d) (hl : a.length + b.length ≤ 100000000) :
  Fn Tryz.prog 162 [.slice (some ⟨pb, 0, none⟩) 2 2] f (slc p a.length c 5 1 (bytesV a) :: pt2 pb p a.length c q b.length d :: F) (Ret (.agg (b32 (Sha.sum (a ++ b))).toArray) f (slc p a.length c 5 1 (bytesV a) :: pt2 pb p a.length c q b.length d :: F)) :=
 Fn.frozen fun g hg hj => tdig_fn (un f g) F (IntsAt.mono (Le.un f g) htab) (slc_bat _ hg hj) (BAt.mono (Le.un f g) hb) hc hd hl
theorem tdig_sr (htab : TabAt f) {pb ib : Nat} {p : Option Addr} {c d : Nat} {a b : List UInt8} {T : TypeId} (hc : a.length ≤ c) (hd : b.length ≤ d) (hl : a.length + b.length ≤ 100000000) :
  Fn Tryz.prog 162 [.slice (some ⟨pb, 0, none⟩) 2 2] f (slc p a.length c 5 1 (bytesV a) :: row ib T (bytesV b) :: pt2 pb p a.length c (some ⟨ib, 0, none⟩) b.length d :: F)
   (Ret (.agg (b32 (Sha.sum (a ++ b))).toArray) f (slc p a.length c 5 1 (bytesV a) :: row ib T (bytesV b) :: pt2 pb p a.length c (some ⟨ib, 0, none⟩) b.length d :: F)) :=
 Fn.frozen fun g hg hj => Fn.frozen fun g2 hg2 hj2 => tdig_fn (un (un f g) g2) F (IntsAt.mono (Le.un _ g2) (IntsAt.mono (Le.un f g) htab)) (BAt.mono (Le.un _ g2) (slc_bat _ hg hj)) (row_bat hg2 hj2) hc hd hl
theorem tdig_ts (htab : TabAt f) {pb sb : Nat} {p : Option Addr} {c d : Nat} {a : ByteArray} {b : List UInt8} {T : TypeId} (hc : a.size ≤ c) (hd : b.length ≤ d) (hl : a.size + b.length ≤ 100000000) :
  Fn Tryz.prog 162 [.slice (some ⟨pb, 0, none⟩) 2 2] f (strRow sb a c T :: slc p b.length d 5 1 (bytesV b) :: pt2 pb (some ⟨sb, 0, none⟩) a.size c p b.length d :: F)
   (Ret (.agg (b32 (Sha.sum (a.data.toList ++ b))).toArray) f (strRow sb a c T :: slc p b.length d 5 1 (bytesV b) :: pt2 pb (some ⟨sb, 0, none⟩) a.size c p b.length d :: F)) :=
 Fn.frozen fun g hg hj => Fn.frozen fun g2 hg2 hj2 => by
  have h := tdig_fn (un (un f g) g2) F (pb := pb) (c := c) (IntsAt.mono (Le.un _ g2) (IntsAt.mono (Le.un f g) htab)) (BAt.mono (Le.un _ g2) (strRow_bat hg hj)) (slc_bat _ hg2 hj2) (by rw [zav]; exact hc) hd (by rw [zav]; exact hl)
  rwa [zav] at h
theorem thmac_fn (htab : TabAt f) {p r : Option Addr} {c d : Nat} {key b : List UInt8} (hk : BAt f p key) (hb : BAt f r b) (hd : b.length ≤ d) (hl : key.length ≤ 64) (hl2 : b.length ≤ 10000000) :
  Fn Tryz.prog 123 [.slice p key.length c, .slice r b.length d] f F (Ret (.agg (b32 (Sha.hmac key b)).toArray) f F) := by
 refine Fn.enter Tryz.func123 rfl Tryz.ntmps123 rfl (L := [(0, _), (1, _)]) ⟨rfl, rfl, trivial⟩ fun base => ?_
 repeat ((first | apply H.seq | apply H.Ab))
 refine H.Bg (ls := zb 32) rfl rfl rfl fun ob => ?_
 repeat (first | ((apply H.Ac); (iterate 3 exact rfl)) | (first | apply H.seq | apply H.Ab | apply H.nil | apply H.Aa))
 refine H.Bn rfl rfl rfl (turned_fn (t := 0x36) f _ hk hl) fun p1 c1 => ?_
 have h1 := Sha.turn_len hl 0x36
 generalize hT : Sha.turn key 0x36 = T at h1
 refine H.slc_cap (.here _ _ _) fun hc1 _ _ => ?_
 repeat (((apply H.Ac); (iterate 3 exact rfl)))
 refine H.Bw (out := [.slice p1 T.length c1, .slice r b.length d]) rfl rfl rfl rfl (by decide) (by decide) rfl rfl fun pb => ?_
 refine H.Ae (x := slc _ _ _ _ _ _) (by repeat constructor) ?_
 refine H.Am rfl rfl rfl (tdig_sb f _ htab (a := T) (b := b) hb hc1 hd (by omega)) ?_
 refine H.Ah (x := slc _ _ _ _ _ _) (by repeat constructor) ?_
 refine H.Ah (x := pt2 _ _ _ _ _ _ _) (by repeat constructor) ?_
 refine H.Bg (ls := zb 32) rfl rfl rfl fun ib => ?_
 refine H.Bb (ls := zb 32) (vs := b32 (Sha.sum (T ++ b))) (ls' := b32 (Sha.sum (T ++ b))) rfl rfl rfl (zad rfl) rfl rfl (Nat.le_refl 32) (by repeat constructor) ?_
 generalize hin : Sha.sum (T ++ b) = inn
 repeat ((first | apply H.seq | apply H.nil | apply H.Aa))
 refine H.Bt (by kernel_rfl) (by decide +kernel) (by repeat (first | exact zab | refine zaa ?_ | refine zac ?_ | refine zae ?_)) (S := [_]) rfl ?_
 refine HB.Aq [(0, false), (2, false)] 4 (by kernel_rfl) ?_
 repeat (((apply HQ.Ac); (iterate 3 exact rfl)))
 refine HQ.Ci (lo := none) (hi := none) (mx := none) (lv := 0) (hv := 32) (mv := 32) rfl rfl rfl rfl rfl (fun h => by cases h) (by decide) (by decide) (by decide) rfl ?_
 refine HQ.Ap rfl ?_
 refine HB.ev1 (i := 1) (by kernel_rfl) rfl ?_
 refine H.Bn rfl rfl rfl (turned_fn (t := 0x5c) f _ hk hl) fun p3 c3 => ?_
 have h2 := Sha.turn_len hl 0x5c
 generalize hT2 : Sha.turn key 0x5c = T2 at h2
 refine H.slc_cap (.here _ _ _) fun hc3 _ _ => ?_
 repeat ((apply H.nil))
 refine H.Ae (x := row ib _ _) (by repeat constructor) ?_
 refine H.on0 rfl ?_
 refine HB.ev1 (i := 3) (by kernel_rfl) rfl ?_
 refine H.Bw (out := [.slice p3 T2.length c3, .slice (some ⟨ib, 0, none⟩) 32 32]) rfl rfl rfl rfl (by decide) (by decide) rfl rfl fun pb2 => ?_
 repeat ((apply H.nil))
 refine H.Ae (x := row ib _ _) (by repeat constructor) ?_
 refine H.on0 rfl ?_
 refine HB.ev1 (i := 4) (by kernel_rfl) rfl ?_
 refine H.Ae (x := slc _ _ _ _ _ _) (by repeat constructor) ?_
 have hfin : Sha.hmac key b = Sha.sum (T2 ++ b32L inn) := by unfold Sha.hmac; rw [hT, hT2, hin]
 rw [hfin]
 refine H.Am rfl rfl rfl (tdig_sr f _ htab (a := T2) (b := b32L inn) (d := 32) hc3 (Nat.le_refl 32) (by show T2.length + 32 ≤ _; omega)) ?_
 generalize T2 ++ b32L inn = l4
 repeat ((apply H.nil))
 refine H.Ae (x := row ib _ _) (by repeat constructor) ?_
 refine H.on0 rfl ?_
 refine HB.ev1 (i := 5) (by kernel_rfl) rfl ?_
 refine H.Bb (ls := zb 32) (vs := b32 (Sha.sum l4)) (ls' := b32 (Sha.sum l4)) rfl rfl rfl (zad rfl) rfl rfl (Nat.le_refl 32) (by repeat constructor) ?_
 repeat ((apply H.nil))
 refine H.on0 rfl ?_
 refine HB.Bf (by kernel_rfl) ?_
 repeat (first | (apply H.Aa) | (apply H.ret))
 refine H.Ah (x := slc _ _ _ _ _ _) (by repeat constructor) ?_
 refine H.Ah (x := row ib _ _) (by repeat constructor) ?_
 refine H.Ah (x := pt2 _ _ _ _ _ _ _) (by repeat constructor) ?_
 exact H.Ca rfl rfl rfl (Rd.ofRow (by repeat constructor)) rfl (fun _ s => s.drop (.here _ _)) ⟨rfl, rfl, rfl⟩
theorem tkey_fn (htab : TabAt f) {w : ByteArray} {i most : Int} (h1 : 1 ≤ i) (h2 : i ≤ most) (h3 : most ≤ 1000) (hw : w.size ≤ 1000) :
  Fn Tryz.prog 161 [.string w, .int .i64 i, .int .i64 most] f F (BytesR (Sha.word32 w.data.toList i) f F) := by
 refine Fn.enter Tryz.func161 rfl Tryz.ntmps161 rfl (L := [(0, _), (1, _), (2, _)]) ⟨rfl, rfl, rfl, trivial⟩ fun base => ?_
 repeat (first | ((first | apply H.Ac | apply H.Ad); (iterate 3 exact rfl)) | (first | apply H.seq | apply H.Ab | apply H.nil | apply H.Aa) | ((apply H.cmp); (iterate 5 exact rfl)) | ((apply H.Ay); (iterate 4 exact rfl)) | (apply H.Ak) | (apply H.gno; (iterate 3 exact rfl); (omega)) | (apply H.Aw; exact rfl; (omega)))
 refine H.convSBc rfl rfl rfl fun sb sc hsc => ?_
 repeat (first | ((apply H.Ac); (iterate 3 exact rfl)) | ((apply H.Bp; (iterate 2 exact rfl)); (with_reducible apply wr_u64; omega); exact rfl))
 refine H.Bn rfl rfl rfl (word_fn (l := []) (n := i) f _ Src.nil (fun _ => rfl) (by decide)) fun p1 c1 => ?_
 rw [List.nil_append]
 have h8 := be_len 8 i
 unfold Sha.word32
 generalize be 8 i = l1 at h8 ⊢
 refine H.slc_cap (.here _ _ _) fun hc1 _ _ => ?_
 skip
 refine H.Bw (out := [.slice (some ⟨sb, 0, none⟩) w.size sc, .slice p1 l1.length c1]) rfl rfl rfl rfl (by decide) (by decide) rfl rfl fun pb => ?_
 refine H.Ae (x := slc _ _ _ _ _ _) (by repeat constructor) ?_
 refine H.Ae (x := strRow _ _ _ _) (by repeat constructor) ?_
 refine H.Am rfl rfl rfl (tdig_ts f _ htab (a := w) (b := l1) hsc hc1 (by omega)) ?_
 refine H.Ah (x := strRow _ _ _ _) (by repeat constructor) ?_
 refine H.Ah (x := slc _ _ _ _ _ _) (by repeat constructor) ?_
 refine H.Ah (x := pt2 _ _ _ _ _ _ _) (by repeat constructor) ?_
 generalize w.data.toList ++ l1 = l2
 refine H.Bg (ls := zb 32) rfl rfl rfl fun db => ?_
 refine H.Bb (ls := zb 32) (vs := b32 (Sha.sum l2)) (ls' := b32 (Sha.sum l2)) rfl rfl rfl (zad rfl) rfl rfl (Nat.le_refl 32) (by repeat constructor) ?_
 generalize Sha.sum l2 = d
 repeat ((first | apply H.seq | apply H.Ab | apply H.nil | apply H.Aa))
 refine H.Ci (lo := none) (hi := none) (mx := none) (lv := 0) (hv := 32) (mv := 32) rfl rfl rfl rfl rfl (fun h => by cases h) (by decide) (by decide) (by decide) rfl ?_
 refine H.Bn rfl rfl rfl (cloneB_fn f _ (l := b32L d) (Src.slice (m := 32) (Rd.ofRow (.here _ _ _)) rfl) (fun h => by cases h) (by show 32 ≤ _; decide)) fun p4 c4 => ?_
 repeat (first | ((apply H.Ad); (iterate 3 exact rfl)) | (first | apply H.nil | apply H.Aa) | (apply H.ret))
 refine H.Ah (x := row db _ _) (by repeat constructor) ?_
 exact H.Aj rfl rfl (fun _ h => h) ⟨p4, c4, rfl, rfl, rfl⟩
theorem treplica_fn (htab : TabAt f) {i : Int} (h1 : 1 ≤ i) (h2 : i ≤ 11) : Fn Tryz.prog 122 [.int .i64 i] f F (BytesR (Sha.word32 Sha.replicaW i) f F) := by
 refine Fn.enter Tryz.func122 rfl Tryz.ntmps122 rfl (L := [(0, _)]) ⟨rfl, trivial⟩ fun base => ?_
 repeat (first | ((first | apply H.Ac | apply H.Ad); (iterate 3 exact rfl)) | (first | apply H.seq | apply H.Ab | apply H.nil | apply H.Aa))
 refine H.Bn rfl rfl rfl (tkey_fn (w := ⟨#[114, 97, 116, 99, 104, 101, 116, 32, 114, 101, 112, 108, 105, 99, 97]⟩) f _ htab h1 h2 (by decide) (by decide)) fun p1 c1 => ?_
 repeat (first | ((apply H.Ad); (iterate 3 exact rfl)) | (first | apply H.nil | apply H.Aa) | (apply H.ret))
 exact H.Aj rfl rfl (fun _ h => h) ⟨p1, c1, rfl, rfl, rfl⟩
end
end Go.Proofs.YtoigpgdmignaoaaGreatDoor
