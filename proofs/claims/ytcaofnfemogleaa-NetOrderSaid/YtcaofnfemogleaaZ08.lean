/- Layer 24: NetOrder. -/
import Derived.Test.YtcaofnfemogleaaZ07
namespace Go.Proofs.Ytcaofnfemogleaa
set_option linter.unusedSectionVars false
set_option linter.unusedSimpArgs false
set_option linter.unusedVariables false
open Go
def byV (x : Int) : List Value := [.int .u8 x]
/-- A packet without messages. -/
def opk (i : Nat) (a b : Int) : Pkt := ⟨1 + a, 1 + b, fun k => if k = 0 then (i : Int) else 0, [], none, 0⟩
def opkL (i : Nat) (a b : Int) : List Value := [.int .i64 (1 + a), .int .i64 (1 + b), .int .u64 i, .int .u64 0, .int .u64 0, .int .u64 0, .int .u64 0, .int .u64 0, .int .u64 0, .int .u64 0, .int .u64 0, .int .u64 0, .int .u64 0, .slice none 0 0]
theorem good_nil {f : Frag} {p : Pkt} (h : p.msgs = []) : p.Good f := by
  refine ⟨?_, ?_, ?_⟩
  · rw [h]; exact ListAt.nil f _
  · rw [h]; exact fun x hx => by cases hx
  · rw [h]; exact Nat.zero_le _
def ordLost (i1 j1 : Int) : Nat → Bool := updB (updB (fun _ => false) (i1.toNat * 12 + j1.toNat) true) (j1.toNat * 12 + i1.toNat) true
def lostAt (h : Nat) (i1 j1 : Int) (i : Nat) : Nat → Bool := if h < i ∧ i1 ≠ j1 then ordLost i1 j1 else fun _ => false
theorem lostAt_zero (h : Nat) (i1 j1 : Int) : lostAt h i1 j1 0 = fun _ => false := by
  unfold lostAt
  rw [if_neg (by omega)]
theorem opk_may {i : Nat} {a b : Int} (ha : 0 ≤ a ∧ a ≤ 5) (hb : 0 ≤ b ∧ b ≤ 5) (hab : 1 + a ≠ 1 + b) : (opk i a b).core.may = true := by
  show (([] : List Msg).all Msg.may && (decide (pairP (1 + a) (1 + b)) && decide (([] : List Msg).length ≤ 8))) = true
  have : pairP (1 + a) (1 + b) := by unfold pairP; omega
  rw [decide_eq_true this]
  rfl
theorem ordLost_get {a b c d : Int} (ha : 0 ≤ a ∧ a ≤ 5) (hb : 0 ≤ b ∧ b ≤ 5) (hc : 0 ≤ c ∧ c ≤ 5) (hd : 0 ≤ d ∧ d ≤ 5) : ordLost (1 + c) (1 + d) ((1 + a).toNat * 12 + (1 + b).toNat) = decide ((a = c ∧ b = d) ∨ (a = d ∧ b = c)) := by
  unfold ordLost updB
  by_cases h1 : a = d ∧ b = c
  · rw [if_pos (by rw [h1.1, h1.2]), decide_eq_true (.inr h1)]
  · rw [if_neg (by omega)]
    by_cases h2 : a = c ∧ b = d
    · rw [if_pos (by rw [h2.1, h2.2]), decide_eq_true (.inl h2)]
    · rw [if_neg (by omega), decide_eq_false (by omega)]
theorem put_lost {c : NetC} {i : Nat} {a b : Int} (ha : 0 ≤ a ∧ a ≤ 5) (hb : 0 ≤ b ∧ b ≤ 5) (hab : 1 + a ≠ 1 + b) (hl : c.lost ((1 + a).toNat * 12 + (1 + b).toNat) = true) : c.put (opk i a b).core = (0, c) := by
  unfold NetC.put
  rw [if_pos (opk_may ha hb hab)]
  exact if_pos hl
theorem put_goes {c : NetC} {i : Nat} {a b : Int} (ha : 0 ≤ a ∧ a ≤ 5) (hb : 0 ≤ b ∧ b ≤ 5) (hab : 1 + a ≠ 1 + b) (hl : c.lost ((1 + a).toNat * 12 + (1 + b).toNat) = false) (hn : c.row.length < 256) : c.put (opk i a b).core = (0, ⟨c.row ++ [(opk i a b).core], c.lost⟩) := by
  unfold NetC.put
  rw [if_pos (opk_may ha hb hab)]
  have : ¬ c.lost ((1 + a).toNat * 12 + (1 + b).toNat) = true := by rw [hl]; decide
  refine (if_neg this).trans ?_
  unfold NetC.push
  rw [if_neg (by omega)]
theorem twice_goes {c : NetC} {k : Nat} {p : Core} (hp : c.row[k]? = some p) (hn : c.row.length < 256) : c.twice (k : Int) = (0, ⟨c.row ++ [p], c.lost⟩) := by
  unfold NetC.twice
  rw [if_pos (by omega), Int.toNat_natCast, hp]
  unfold NetC.push
  show (if 256 ≤ c.row.length then _ else _) = _
  rw [if_neg (by omega)]
theorem cut_goes {l : List Core} {c d : Int} (hc : 0 ≤ c ∧ c ≤ 5) (hd : 0 ≤ d ∧ d ≤ 5) (h : ¬ 1 + c = 1 + d) : (⟨l, fun _ => false⟩ : NetC).cut (1 + c) (1 + d) = (0, ⟨l, ordLost (1 + c) (1 + d)⟩) := by
  unfold NetC.cut
  rw [if_pos (by unfold pairP; omega)]
  rfl
theorem psl_snoc {p : Option Addr} {c : Nat} {l : List Pkt} {x : Pkt} : slc p (l.length + 1) c 34 14 (l.flatMap Pkt.vals ++ x.vals) = psl p c (l ++ [x]) := by
  unfold psl
  rw [List.length_append, List.flatMap_append, List.flatMap_cons, List.flatMap_nil, List.append_nil]
  rfl
theorem msgs_snoc {l : List Pkt} {x : Pkt} (h : ∀ p ∈ l, p.msgs = []) (hx : x.msgs = []) : ∀ p ∈ l ++ [x], p.msgs = [] := fun p hp => by
  rw [List.mem_append, List.mem_singleton] at hp
  rcases hp with hp | rfl
  · exact h p hp
  · exact hx
theorem core_row {N : NetM} {l : List Core} {c : Nat → Bool} (h : N.core = ⟨l, c⟩) : N.core.row = l ∧ N.core.lost = c ∧ N.row.length = l.length := by
  have h1 := NetM.core_len N
  rw [h] at h1 ⊢
  exact ⟨rfl, rfl, h1.symm⟩
theorem tm6 {z : Int} (h0 : 0 ≤ z) : 0 ≤ z.tmod 6 ∧ z.tmod 6 ≤ 5 := by
  rcases tmod6 h0 with h | h | h | h | h | h <;> rw [h] <;> decide
theorem heal_put : (⟨[], fun _ => false⟩ : NetC).put (⟨1, 2, fun _ => 0, [], none, 0⟩ : Pkt).core = (0, ⟨[(⟨1, 2, fun _ => 0, [], none, 0⟩ : Pkt).core], fun _ => false⟩) :=
  NetC.put_ok rfl rfl (by decide)
section
variable (f : Frag) (F : List HP)
set_option maxRecDepth 20000 in
set_option maxHeartbeats 16000000 in
theorem netOrder_fn {p0 p1 p3 : Option Addr} {c0 c1 c3 : Nat} {xs ys ts : List Int} {cut : Int} (hxs : ListAt f p0 1 byV xs) (hys : ListAt f p1 1 byV ys) (hts : ListAt f p3 1 byV ts) (hx0 : ∀ x ∈ xs, 0 ≤ x ∧ x ≤ 255) (hy0 : ∀ x ∈ ys, 0 ≤ x ∧ x ≤ 255) (ht0 : ∀ x ∈ ts, 0 ≤ x ∧ x ≤ 255) (hcut : 0 ≤ cut ∧ cut ≤ 255) :
    Fn Try.prog 3 [.slice p0 xs.length c0, .slice p1 ys.length c1, .int .u8 cut, .slice p3 ts.length c3] f F (Ret (.bool true) f F) := by
  by_cases h1 : 60 < xs.length
  · refine Fn.enter Try.func3 rfl Try.ntmps3 rfl (L := [(0, _), (1, _), (2, _), (3, _)]) ⟨rfl, rfl, rfl, rfl, trivial⟩ fun base => ?_
    repeat (first | ((first | apply H.move | apply H.assign | apply H.len_slice); (iterate 3 exact rfl)) | (first | apply H.seq | apply H.region | apply H.nil | apply H.then_normal) | ((apply H.cmp); (iterate 5 exact rfl)) | (apply H.pass; (iterate 2 exact rfl)) | (apply H.pickT; (iterate 4 exact rfl)) | (apply H.cond_true; exact rfl) | (apply H.gyes; (iterate 3 exact rfl); (omega)))
    refine H.callR rfl rfl rfl (works_fn f _) ?_
    repeat (first | ((apply H.assign); (iterate 3 exact rfl)) | (first | apply H.nil | apply H.then_normal) | (first | apply H.ret | apply H.then_ret))
    exact H.ret1 rfl rfl (fun _ h => h) ⟨rfl, rfl, rfl⟩
  by_cases h2 : ¬ ys.length = xs.length
  · refine Fn.enter Try.func3 rfl Try.ntmps3 rfl (L := [(0, _), (1, _), (2, _), (3, _)]) ⟨rfl, rfl, rfl, rfl, trivial⟩ fun base => ?_
    repeat (first | ((first | apply H.move | apply H.assign | apply H.len_slice); (iterate 3 exact rfl)) | (first | apply H.seq | apply H.region | apply H.nil | apply H.then_normal) | ((apply H.cmp); (iterate 5 exact rfl)) | (apply H.pass; (iterate 2 exact rfl)) | (apply H.pickT; (iterate 4 exact rfl)) | ((apply H.pickF); (iterate 4 exact rfl)) | (apply H.cond_true; exact rfl) | (apply H.gyes; (iterate 3 exact rfl); (omega)) | (apply H.gno; (iterate 3 exact rfl); (omega)))
    refine H.callR rfl rfl rfl (works_fn f _) ?_
    repeat (first | ((apply H.assign); (iterate 3 exact rfl)) | (first | apply H.nil | apply H.then_normal) | (first | apply H.ret | apply H.then_ret))
    exact H.ret1 rfl rfl (fun _ h => h) ⟨rfl, rfl, rfl⟩
  have h2 : ys.length = xs.length := Classical.not_not.1 h2
  by_cases h3 : 20 < ts.length
  · refine Fn.enter Try.func3 rfl Try.ntmps3 rfl (L := [(0, _), (1, _), (2, _), (3, _)]) ⟨rfl, rfl, rfl, rfl, trivial⟩ fun base => ?_
    repeat (first | ((first | apply H.move | apply H.assign | apply H.len_slice); (iterate 3 exact rfl)) | (first | apply H.seq | apply H.region | apply H.nil | apply H.then_normal) | ((apply H.cmp); (iterate 5 exact rfl)) | ((apply H.pickF); (iterate 4 exact rfl)) | (apply H.gno; (iterate 3 exact rfl); (omega)) | (apply H.cond_yes; exact rfl; (omega)))
    refine H.callR rfl rfl rfl (works_fn f _) ?_
    repeat (first | ((apply H.assign); (iterate 3 exact rfl)) | (first | apply H.nil | apply H.then_normal) | (first | apply H.ret | apply H.then_ret))
    exact H.ret1 rfl rfl (fun _ h => h) ⟨rfl, rfl, rfl⟩
  obtain ⟨c, hc⟩ : ∃ c, cut.tmod 6 = c := ⟨_, rfl⟩
  have hc5 : 0 ≤ c ∧ c ≤ 5 := by rw [← hc]; exact tm6 hcut.1
  obtain ⟨q, hq⟩ : ∃ q, cut.tdiv 6 = q := ⟨_, rfl⟩
  have hq5 : 0 ≤ q ∧ q ≤ 43 := by rw [← hq, Int.tdiv_eq_ediv_of_nonneg hcut.1]; omega
  obtain ⟨d, hd⟩ : ∃ d, (q + c + 1).tmod 6 = d := ⟨_, rfl⟩
  have hd5 : 0 ≤ d ∧ d ≤ 5 := by rw [← hd]; exact tm6 (by omega)
  have hquo : IntKind.wrap .i64 (cut.tdiv 6) = q := by rw [hq]; exact wr_i64 (by omega)
  have hhalf : IntKind.wrap .i64 (((xs.length : Nat) : Int).tdiv 2) = ((xs.length / 2 : Nat) : Int) := by
    rw [show (2 : Int) = ((2 : Nat) : Int) from rfl, tdiv64, wr_i64 (by omega)]
  refine Fn.enter Try.func3 rfl Try.ntmps3 rfl (L := [(0, _), (1, _), (2, _), (3, _)]) ⟨rfl, rfl, rfl, rfl, trivial⟩ fun base => ?_
  repeat (first | ((first | apply H.move | apply H.assign | apply H.len_slice); (iterate 3 exact rfl)) | (first | apply H.seq | apply H.region | apply H.nil | apply H.then_normal) | ((apply H.cmp); (iterate 5 exact rfl)) | ((apply H.pickF); (iterate 4 exact rfl)) | (apply H.skip) | (apply H.gno; (iterate 3 exact rfl); (omega)) | (apply H.cond_no; exact rfl; (omega)))
  refine H.callE rfl rfl rfl (netNew_fn f F f) fun nb => ?_
  repeat (first | ((first | apply H.move | apply H.assign); (iterate 3 exact rfl)) | (first | apply H.seq | apply H.region | apply H.nil | apply H.then_normal) | ((first | (apply H.ar; (iterate 4 exact rfl)) | (apply H.conv_int; (iterate 2 exact rfl))); (with_reducible apply wr_i64; omega); exact rfl) | (apply H.block) | (refine H.rem rfl rfl rfl (by decide) hc rfl ?_) | (refine H.rem rfl rfl rfl (by decide) hd rfl ?_) | (refine H.quo rfl rfl rfl (by decide) hquo rfl ?_))
  refine H.slc0 34 14 ?_
  refine H.front (x := netH _ _ _) (by repeat (first | exact .here _ _ | apply Pull.there)) ?_
  refine H.loop (ι := Nat × Frag × NetM × List Pkt × Option Addr × Nat) (fun s => [(13, .int .i64 (s.1 : Int)), (0, .slice p0 xs.length c0), (1, .slice p1 ys.length c1), (3, .slice p3 ts.length c3), (9, .pointer (some ⟨nb, 0, none⟩)), (10, .slice s.2.2.2.2.1 s.2.2.2.1.length s.2.2.2.2.2), (11, .int .i64 (1 + c)), (12, .int .i64 (1 + d))]) (fun s => s.2.1)
    (fun s => netH s.2.1 nb s.2.2.1 :: psl s.2.2.2.2.1 s.2.2.2.2.2 s.2.2.2.1 :: F) (fun s => s.1 ≤ xs.length ∧ Le f s.2.1 ∧ s.2.2.1.core = ⟨s.2.2.2.1.map Pkt.core, lostAt (xs.length / 2) (1 + c) (1 + d) s.1⟩ ∧ s.2.2.2.1.length ≤ s.1 ∧ ∀ p ∈ s.2.2.2.1, p.msgs = []) (fun s => xs.length - s.1)
    (0, f, NetM.new, [], none, 0) ⟨Nat.zero_le _, Le.refl f, by rw [lostAt_zero]; rfl, Nat.le_refl _, fun p hp => by cases hp⟩ ⟨rfl, rfl, rfl, rfl, rfl, rfl, rfl, rfl, trivial⟩ rfl rfl fun s hs => ?_
  obtain ⟨i, e, N, want, wp, wc⟩ := s
  obtain ⟨hi, hle, hN, hwl, hws⟩ : i ≤ xs.length ∧ Le f e ∧ N.core = ⟨want.map Pkt.core, lostAt (xs.length / 2) (1 + c) (1 + d) i⟩ ∧ want.length ≤ i ∧ ∀ p ∈ want, p.msgs = [] := hs
  show H _ _ _ [(13, .int .i64 (i : Int)), _, _, _, _, (10, .slice wp want.length wc), _, _] e (netH e nb N :: psl wp wc want :: F) _
  repeat (first | ((first | apply H.move | apply H.len_slice); (iterate 3 exact rfl)) | (first | apply H.seq | apply H.region | apply H.nil | apply H.then_normal) | ((apply H.cmp); (iterate 5 exact rfl)))
  by_cases hlt : i < xs.length
  · have hx : xs[i]? = some xs[i] := List.getElem?_eq_getElem hlt
    have hy : ys[i]? = some (ys[i]'(by omega)) := List.getElem?_eq_getElem (by omega)
    generalize xs[i] = x at hx
    generalize ys[i]'(by omega) = y at hy
    have hxb := hx0 x (List.mem_of_getElem? hx)
    have hyb := hy0 y (List.mem_of_getElem? hy)
    obtain ⟨a, hra⟩ : ∃ a, x.tmod 6 = a := ⟨_, rfl⟩
    obtain ⟨b, hrb⟩ : ∃ b, y.tmod 6 = b := ⟨_, rfl⟩
    have ha : 0 ≤ a ∧ a ≤ 5 := by rw [← hra]; exact tm6 hxb.1
    have hb : 0 ≤ b ∧ b ≤ 5 := by rw [← hrb]; exact tm6 hyb.1
    obtain ⟨b0, o0, cs0, T0, fr0, hp0, hf0, hcs0⟩ := hxs i x hx
    obtain ⟨b1, o1, cs1, T1, fr1, hp1, hf1, hcs1⟩ := hys i y hy
    have rdA : ∀ A, Rd1 e A b0 (o0 + i * 1) (.int .u8 x) := fun A => Rd1.of (l := byV x) (i := 0) (Rd.imm (hle b0 _ hf0) hcs0) rfl
    have rdB : ∀ A, Rd1 e A b1 (o1 + i * 1) (.int .u8 y) := fun A => Rd1.of (l := byV y) (i := 0) (Rd.imm (hle b1 _ hf1) hcs1) rfl
    clear hcs0 hcs1 hf0 hf1
    subst hp0
    subst hp1
    clear hxs hys
    refine H.cond_yes rfl (by omega) ?_
    repeat (first | apply H.skip | apply H.then_normal | apply H.seq | apply H.block)
    refine H.cut (ι := NetM) (fun _ => [(75, .bool false), (13, .int .i64 (i : Int)), (0, .slice (some ⟨b0, o0, none⟩) xs.length c0), (1, .slice (some ⟨b1, o1, none⟩) ys.length c1), (3, .slice p3 ts.length c3), (9, .pointer (some ⟨nb, 0, none⟩)), (10, .slice wp want.length wc), (11, .int .i64 (1 + c)), (12, .int .i64 (1 + d))]) (fun _ => e) (fun N1 => netH e nb N1 :: psl wp wc want :: F) (fun N1 => N1.core = ⟨want.map Pkt.core, lostAt (xs.length / 2) (1 + c) (1 + d) (i + 1)⟩) _ (fun N1 hN1 => ?_) ?_
    · have hrow1 := core_row hN1
      rw [List.length_map] at hrow1
      clear hN
      repeat (first | (first | apply H.seq | apply H.then_normal) | (apply H.cond_false; exact rfl) | (apply H.skip))
      refine H.drawB (by kernel_rfl) (by decide +kernel) (by first | exact blind_fn | exact blind_seq blind_fn | exact blind_seq (blind_seq blind_fn) | (repeat (first | exact blind_fn | refine blind_seq ?_ | refine blind_block ?_ | refine blind_loop ?_))) (S := []) rfl ?_
      refine HB.quiet [(0, false), (1, false), (2, false), (3, false), (4, false), (5, false), (6, false), (7, false), (8, false), (9, false), (10, false), (11, false), (12, false), (13, false), (14, false), (15, false), (16, false), (17, false)] 2 (by kernel_rfl) ?_
      repeat (first | ((apply HQ.move); (iterate 3 exact rfl)) | ((first | apply HQ.cmp | apply HQ.build); (iterate 5 exact rfl)) | ((first | (apply HQ.ar; (iterate 4 exact rfl)) | (apply HQ.conv_int; (iterate 2 exact rfl))); (first | (with_reducible apply wr_i64; omega) | (with_reducible apply wr_u64; omega)); exact rfl) | (refine HQ.index_slice rfl rfl rfl rfl hlt rfl ?_) | (refine HQ.index_slice (i := i) rfl rfl rfl rfl (by omega) rfl ?_) | (refine HQ.load1 rfl rfl rfl (rdA _) rfl ?_) | (refine HQ.load1 rfl rfl rfl (rdB _) rfl ?_) | (refine HQ.rem rfl rfl rfl (by decide) hra rfl ?_) | (refine HQ.rem rfl rfl rfl (by decide) hrb rfl ?_) | (refine HQ.buildA rfl rfl rfl rfl rfl ?_))
      refine HQ.more rfl ?_
      refine HB.ev1 (i := 18) (by kernel_rfl) rfl ?_
      refine H.alloc (ls := Pkt.zero.vals) rfl rfl rfl fun ob => ?_
      repeat ((apply H.nil))
      refine H.on0 rfl ?_
      refine HB.ev1 (i := 19) (by kernel_rfl) rfl ?_
      refine H.storeN (ls := Pkt.zero.vals) (vs := opkL i a b) (ls' := opkL i a b) rfl rfl rfl (allOne_mem rfl) rfl rfl (Nat.le_refl 14) (by repeat (first | exact .here _ _ _ | apply At.there)) ?_
      repeat ((apply H.nil))
      refine H.on0 rfl ?_
      refine HB.done (by kernel_rfl) ?_
      by_cases hab : 1 + a = 1 + b
      · skip
        repeat (first | ((first | apply H.move | apply H.assign); (iterate 3 exact rfl)) | (apply H.fieldAddr; (iterate 3 exact rfl); exact inferInstance; exact rfl) | (apply H.load1; (iterate 3 exact rfl); apply Rd1.ofRow; (repeat (exact .here _ _ _)); (iterate 2 exact rfl)) | (first | apply H.seq | apply H.region | apply H.nil | apply H.then_normal) | ((apply H.cmp); (iterate 5 exact rfl)) | ((apply H.ar; (iterate 4 exact rfl)); (with_reducible apply wr_i64_n1; omega); exact rfl) | (first | apply H.then_exit | apply H.exit | apply H.in_hit) | (apply H.cond_yes; exact rfl; (assumption)))
        refine H.drop (x := row ob _ _) (by repeat (first | exact .here _ _ | apply Pull.there)) ?_
        exact H.again (i + 1, e, N1, want, wp, wc) ⟨by show i + 1 ≤ xs.length; omega, hle, by show N1.core = _; rw [show N1.core = ⟨N1.core.row, N1.core.lost⟩ from rfl, hrow1.1, hrow1.2.1], by show want.length ≤ i + 1; omega, hws⟩ (by show xs.length - (i + 1) < xs.length - i; omega) ⟨rfl, rfl, rfl, rfl, rfl, rfl, rfl, rfl, trivial⟩ rfl rfl
      · have hput := fun G => netPut_fn e G e nb N1 (Le.refl e) (good_nil (f := e) (p := opk i a b) rfl)
        repeat (first | ((apply H.move); (iterate 3 exact rfl)) | (apply H.fieldAddr; (iterate 3 exact rfl); exact inferInstance; exact rfl) | (apply H.load1; (iterate 3 exact rfl); apply Rd1.ofRow; (repeat (exact .here _ _ _)); (iterate 2 exact rfl)) | (first | apply H.seq | apply H.region | apply H.nil | apply H.then_normal) | ((apply H.cmp); (iterate 5 exact rfl)) | (apply H.skip) | (apply H.cond_no; exact rfl; (assumption)))
        refine H.loadN (ls := (opk i a b).vals) rfl rfl rfl (Rd.ofRow (by repeat (first | exact .here _ _ _ | apply At.there))) rfl rfl ?_
        refine H.front (x := netH _ _ _) (by repeat (first | exact .here _ _ | apply Pull.there)) ?_
        refine H.call rfl rfl rfl (hput _) fun v f2 A' hrr => ?_
        obtain ⟨g, N2, hv, hN2, hd1, hf2, rfl⟩ := hrr
        have hle2 : Le f f2 := by rw [hf2]; exact Le.trans hle (Le.un e g)
        rw [← hf2]
        clear hf2 hd1 rdA rdB hput
        by_cases hlost : lostAt (xs.length / 2) (1 + c) (1 + d) (i + 1) ((1 + a).toNat * 12 + (1 + b).toNat) = true
        · have hlt2 := hlost
          unfold lostAt at hlost
          have hh : (xs.length / 2 < i + 1 ∧ 1 + c ≠ 1 + d) := by
            by_cases hh : xs.length / 2 < i + 1 ∧ 1 + c ≠ 1 + d
            · exact hh
            · rw [if_neg hh] at hlost; cases hlost
          rw [if_pos hh, ordLost_get ha hb hc5 hd5, decide_eq_true_eq] at hlost
          rw [put_lost ha hb hab (by rw [hrow1.2.1]; exact hlt2)] at hv
          have hv : v = .int .i64 0 := hv
          subst hv
          obtain ⟨hh1, hh2⟩ := hh
          by_cases hk : a = c
          · skip
            repeat (first | ((first | apply H.move | apply H.assign | apply H.len_slice); (iterate 3 exact rfl)) | (apply H.fieldAddr; (iterate 3 exact rfl); exact inferInstance; exact rfl) | (apply H.load1; (iterate 3 exact rfl); apply Rd1.ofRow; (repeat (first | exact .here _ _ _ | apply At.there)); (iterate 2 exact rfl)) | (first | apply H.seq | apply H.region | apply H.nil | apply H.then_normal) | ((apply H.cmp); (iterate 5 exact rfl)) | ((apply H.ar; (iterate 4 exact rfl)); (with_reducible apply wr_i64_n1; omega); exact rfl) | (apply H.pass; (iterate 2 exact rfl)) | (apply H.pickT; (iterate 4 exact rfl)) | ((apply H.not); (iterate 4 exact rfl)) | (apply H.cond_false; exact rfl) | (first | apply H.skip | apply H.in_normal) | (apply H.gyes; (iterate 3 exact rfl); (first | assumption | omega)) | (refine H.quo rfl rfl rfl (by decide) hhalf rfl ?_))
            skip
            refine H.drop (x := row ob _ _) (by repeat (first | exact .here _ _ | apply Pull.there)) ?_
            exact H.again (i + 1, f2, N2, want, wp, wc) ⟨by show i + 1 ≤ xs.length; omega, hle2, by rw [hN2, put_lost ha hb hab (by rw [hrow1.2.1]; exact hlt2)]; exact hN1, by show want.length ≤ i + 1; omega, hws⟩ (by show xs.length - (i + 1) < xs.length - i; omega) ⟨rfl, rfl, rfl, rfl, rfl, rfl, rfl, rfl, trivial⟩ rfl rfl
          · skip
            repeat (first | (refine H.not_yes rfl rfl (by omega) rfl ?_) | ((first | apply H.move | apply H.assign | apply H.len_slice); (iterate 3 exact rfl)) | (apply H.fieldAddr; (iterate 3 exact rfl); exact inferInstance; exact rfl) | (apply H.load1; (iterate 3 exact rfl); apply Rd1.ofRow; (repeat (first | exact .here _ _ _ | apply At.there)); (iterate 2 exact rfl)) | (first | apply H.seq | apply H.region | apply H.nil | apply H.then_normal) | ((apply H.cmp); (iterate 5 exact rfl)) | ((apply H.ar; (iterate 4 exact rfl)); (with_reducible apply wr_i64_n1; omega); exact rfl) | (apply H.pass; (iterate 2 exact rfl)) | (apply H.pickT; (iterate 4 exact rfl)) | ((apply H.pickF); (iterate 4 exact rfl)) | (apply H.cond_false; exact rfl) | (first | apply H.skip | apply H.in_normal) | (apply H.gyes; (iterate 3 exact rfl); (first | assumption | omega)) | (apply H.gno; (iterate 3 exact rfl); (omega)) | (refine H.quo rfl rfl rfl (by decide) hhalf rfl ?_))
            skip
            refine H.drop (x := row ob _ _) (by repeat (first | exact .here _ _ | apply Pull.there)) ?_
            exact H.again (i + 1, f2, N2, want, wp, wc) ⟨by show i + 1 ≤ xs.length; omega, hle2, by rw [hN2, put_lost ha hb hab (by rw [hrow1.2.1]; exact hlt2)]; exact hN1, by show want.length ≤ i + 1; omega, hws⟩ (by show xs.length - (i + 1) < xs.length - i; omega) ⟨rfl, rfl, rfl, rfl, rfl, rfl, rfl, rfl, trivial⟩ rfl rfl
        · have hgo := put_goes (c := N1.core) (i := i) ha hb hab (by rw [hrow1.2.1]; simpa using hlost) (by rw [hrow1.1, List.length_map]; omega)
          rw [hgo] at hv
          have hv : v = .int .i64 0 := hv
          subst hv
          rw [hrow1.1, hrow1.2.1] at hgo
          have hno : ¬ (xs.length / 2 ≤ i ∧ ¬ (1 + c = 1 + d) ∧ ((a = c ∧ b = d) ∨ (a = d ∧ b = c))) := fun ⟨k1, k2, k3⟩ => by
            apply hlost
            unfold lostAt
            rw [if_pos ⟨by omega, k2⟩, ordLost_get ha hb hc5 hd5, decide_eq_true k3]
          clear hlost
          by_cases k1 : i < xs.length / 2
          · skip
            repeat (first | ((first | apply H.move | apply H.assign | apply H.len_slice); (iterate 3 exact rfl)) | (first | apply H.seq | apply H.region | apply H.nil | apply H.then_normal) | ((apply H.cmp); (iterate 5 exact rfl)) | (apply H.pass; (iterate 2 exact rfl)) | ((first | apply H.pickF | apply H.not); (iterate 4 exact rfl)) | (apply H.cond_true; exact rfl) | (apply H.cond_false; exact rfl) | (apply H.skip) | (apply H.gno; (iterate 3 exact rfl); (omega)) | (refine H.quo rfl rfl rfl (by decide) hhalf rfl ?_))
            repeat ((refine H.loadN (ls := (opk i a b).vals) rfl rfl rfl (Rd.ofRow (by repeat (first | exact .here _ _ _ | apply At.there))) rfl rfl ?_))
            refine H.buildSlice (out := (opk i a b).vals) rfl rfl rfl rfl (by decide) (by decide) rfl rfl fun eb => ?_
            skip
            refine H.append (sz := 14) (xs := want.flatMap Pkt.vals) (news := (opk i a b).vals) rfl rfl rfl rfl rfl (fun p' c' => (by repeat (first | exact .here _ _ _ | apply At.there))) (Src.slice (m := 1) (Rd.ofRow (by repeat (first | exact .here _ _ _ | apply At.there))) rfl) (allOne_mem rfl) rfl (by omega) (by omega) fun p' c' => ?_
            rw [psl_snoc]
            repeat (first | ((first | apply H.move | apply H.assign); (iterate 3 exact rfl)) | (first | apply H.region | apply H.nil | apply H.then_normal) | ((apply H.ar; (iterate 4 exact rfl)); (with_reducible apply wr_i64_n1; omega); exact rfl) | (apply H.in_normal))
            refine H.drop (x := row eb _ _) (by repeat (first | exact .here _ _ | apply Pull.there)) ?_
            refine H.drop (x := row ob _ _) (by repeat (first | exact .here _ _ | apply Pull.there)) ?_
            exact H.again (i + 1, f2, N2, want ++ [opk i a b], p', c') ⟨by show i + 1 ≤ xs.length; omega, hle2, by rw [hN2, hgo, List.map_append]; rfl, by show (want ++ [opk i a b]).length ≤ i + 1; rw [List.length_append]; show want.length + 1 ≤ i + 1; omega, msgs_snoc hws rfl⟩ (by show xs.length - (i + 1) < xs.length - i; omega) ⟨rfl, rfl, rfl, rfl, rfl, by show some (Value.slice p' (want.length + 1) c') = some (Value.slice p' (want ++ [opk i a b]).length c'); rw [List.length_append]; rfl, rfl, rfl, trivial⟩ rfl rfl
          by_cases k2 : 1 + c = 1 + d
          · skip
            repeat (first | ((first | apply H.move | apply H.assign | apply H.len_slice); (iterate 3 exact rfl)) | (first | apply H.seq | apply H.region | apply H.nil | apply H.then_normal) | ((apply H.cmp); (iterate 5 exact rfl)) | (apply H.pass; (iterate 2 exact rfl)) | (apply H.pickT; (iterate 4 exact rfl)) | ((first | apply H.pickF | apply H.not); (iterate 4 exact rfl)) | (apply H.cond_true; exact rfl) | (apply H.cond_false; exact rfl) | (apply H.skip) | (apply H.gyes; (iterate 3 exact rfl); (omega)) | (apply H.gno; (iterate 3 exact rfl); (omega)) | (refine H.quo rfl rfl rfl (by decide) hhalf rfl ?_))
            repeat ((refine H.loadN (ls := (opk i a b).vals) rfl rfl rfl (Rd.ofRow (by repeat (first | exact .here _ _ _ | apply At.there))) rfl rfl ?_))
            refine H.buildSlice (out := (opk i a b).vals) rfl rfl rfl rfl (by decide) (by decide) rfl rfl fun eb => ?_
            skip
            refine H.append (sz := 14) (xs := want.flatMap Pkt.vals) (news := (opk i a b).vals) rfl rfl rfl rfl rfl (fun p' c' => (by repeat (first | exact .here _ _ _ | apply At.there))) (Src.slice (m := 1) (Rd.ofRow (by repeat (first | exact .here _ _ _ | apply At.there))) rfl) (allOne_mem rfl) rfl (by omega) (by omega) fun p' c' => ?_
            rw [psl_snoc]
            repeat (first | ((first | apply H.move | apply H.assign); (iterate 3 exact rfl)) | (first | apply H.region | apply H.nil | apply H.then_normal) | ((apply H.ar; (iterate 4 exact rfl)); (with_reducible apply wr_i64_n1; omega); exact rfl) | (apply H.in_normal))
            refine H.drop (x := row eb _ _) (by repeat (first | exact .here _ _ | apply Pull.there)) ?_
            refine H.drop (x := row ob _ _) (by repeat (first | exact .here _ _ | apply Pull.there)) ?_
            exact H.again (i + 1, f2, N2, want ++ [opk i a b], p', c') ⟨by show i + 1 ≤ xs.length; omega, hle2, by rw [hN2, hgo, List.map_append]; rfl, by show (want ++ [opk i a b]).length ≤ i + 1; rw [List.length_append]; show want.length + 1 ≤ i + 1; omega, msgs_snoc hws rfl⟩ (by show xs.length - (i + 1) < xs.length - i; omega) ⟨rfl, rfl, rfl, rfl, rfl, by show some (Value.slice p' (want.length + 1) c') = some (Value.slice p' (want ++ [opk i a b]).length c'); rw [List.length_append]; rfl, rfl, rfl, trivial⟩ rfl rfl
          by_cases k3 : a = c
          · skip
            repeat (first | ((first | apply H.move | apply H.assign | apply H.len_slice); (iterate 3 exact rfl)) | (apply H.fieldAddr; (iterate 3 exact rfl); exact inferInstance; exact rfl) | (apply H.load1; (iterate 3 exact rfl); apply Rd1.ofRow; (repeat (first | exact .here _ _ _ | apply At.there)); (iterate 2 exact rfl)) | (first | apply H.seq | apply H.region | apply H.nil | apply H.then_normal) | ((apply H.cmp); (iterate 5 exact rfl)) | (apply H.pass; (iterate 2 exact rfl)) | (apply H.pickT; (iterate 4 exact rfl)) | ((first | apply H.pickF | apply H.not); (iterate 4 exact rfl)) | (apply H.cond_true; exact rfl) | (apply H.cond_false; exact rfl) | (apply H.skip) | (apply H.gyes; (iterate 3 exact rfl); (first | assumption | omega)) | (apply H.gno; (iterate 3 exact rfl); (omega)) | (refine H.quo rfl rfl rfl (by decide) hhalf rfl ?_))
            repeat ((refine H.loadN (ls := (opk i a b).vals) rfl rfl rfl (Rd.ofRow (by repeat (first | exact .here _ _ _ | apply At.there))) rfl rfl ?_))
            refine H.buildSlice (out := (opk i a b).vals) rfl rfl rfl rfl (by decide) (by decide) rfl rfl fun eb => ?_
            skip
            refine H.append (sz := 14) (xs := want.flatMap Pkt.vals) (news := (opk i a b).vals) rfl rfl rfl rfl rfl (fun p' c' => (by repeat (first | exact .here _ _ _ | apply At.there))) (Src.slice (m := 1) (Rd.ofRow (by repeat (first | exact .here _ _ _ | apply At.there))) rfl) (allOne_mem rfl) rfl (by omega) (by omega) fun p' c' => ?_
            rw [psl_snoc]
            repeat (first | ((first | apply H.move | apply H.assign); (iterate 3 exact rfl)) | (first | apply H.region | apply H.nil | apply H.then_normal) | ((apply H.ar; (iterate 4 exact rfl)); (with_reducible apply wr_i64_n1; omega); exact rfl) | (apply H.in_normal))
            refine H.drop (x := row eb _ _) (by repeat (first | exact .here _ _ | apply Pull.there)) ?_
            refine H.drop (x := row ob _ _) (by repeat (first | exact .here _ _ | apply Pull.there)) ?_
            exact H.again (i + 1, f2, N2, want ++ [opk i a b], p', c') ⟨by show i + 1 ≤ xs.length; omega, hle2, by rw [hN2, hgo, List.map_append]; rfl, by show (want ++ [opk i a b]).length ≤ i + 1; rw [List.length_append]; show want.length + 1 ≤ i + 1; omega, msgs_snoc hws rfl⟩ (by show xs.length - (i + 1) < xs.length - i; omega) ⟨rfl, rfl, rfl, rfl, rfl, by show some (Value.slice p' (want.length + 1) c') = some (Value.slice p' (want ++ [opk i a b]).length c'); rw [List.length_append]; rfl, rfl, rfl, trivial⟩ rfl rfl
          by_cases k4 : a = d
          · skip
            repeat (first | (refine H.not_no rfl rfl (by omega) rfl ?_) | ((first | apply H.move | apply H.assign | apply H.len_slice); (iterate 3 exact rfl)) | (apply H.fieldAddr; (iterate 3 exact rfl); exact inferInstance; exact rfl) | (apply H.load1; (iterate 3 exact rfl); apply Rd1.ofRow; (repeat (first | exact .here _ _ _ | apply At.there)); (iterate 2 exact rfl)) | (first | apply H.seq | apply H.region | apply H.nil | apply H.then_normal) | ((apply H.cmp); (iterate 5 exact rfl)) | (apply H.pass; (iterate 2 exact rfl)) | (apply H.pickT; (iterate 4 exact rfl)) | ((apply H.pickF); (iterate 4 exact rfl)) | (apply H.cond_true; exact rfl) | (apply H.cond_false; exact rfl) | (apply H.skip) | (apply H.gyes; (iterate 3 exact rfl); (first | assumption | omega)) | (apply H.gno; (iterate 3 exact rfl); (omega)) | (refine H.quo rfl rfl rfl (by decide) hhalf rfl ?_))
            repeat ((refine H.loadN (ls := (opk i a b).vals) rfl rfl rfl (Rd.ofRow (by repeat (first | exact .here _ _ _ | apply At.there))) rfl rfl ?_))
            refine H.buildSlice (out := (opk i a b).vals) rfl rfl rfl rfl (by decide) (by decide) rfl rfl fun eb => ?_
            skip
            refine H.append (sz := 14) (xs := want.flatMap Pkt.vals) (news := (opk i a b).vals) rfl rfl rfl rfl rfl (fun p' c' => (by repeat (first | exact .here _ _ _ | apply At.there))) (Src.slice (m := 1) (Rd.ofRow (by repeat (first | exact .here _ _ _ | apply At.there))) rfl) (allOne_mem rfl) rfl (by omega) (by omega) fun p' c' => ?_
            rw [psl_snoc]
            repeat (first | ((first | apply H.move | apply H.assign); (iterate 3 exact rfl)) | (first | apply H.region | apply H.nil | apply H.then_normal) | ((apply H.ar; (iterate 4 exact rfl)); (with_reducible apply wr_i64_n1; omega); exact rfl) | (apply H.in_normal))
            refine H.drop (x := row eb _ _) (by repeat (first | exact .here _ _ | apply Pull.there)) ?_
            refine H.drop (x := row ob _ _) (by repeat (first | exact .here _ _ | apply Pull.there)) ?_
            exact H.again (i + 1, f2, N2, want ++ [opk i a b], p', c') ⟨by show i + 1 ≤ xs.length; omega, hle2, by rw [hN2, hgo, List.map_append]; rfl, by show (want ++ [opk i a b]).length ≤ i + 1; rw [List.length_append]; show want.length + 1 ≤ i + 1; omega, msgs_snoc hws rfl⟩ (by show xs.length - (i + 1) < xs.length - i; omega) ⟨rfl, rfl, rfl, rfl, rfl, by show some (Value.slice p' (want.length + 1) c') = some (Value.slice p' (want ++ [opk i a b]).length c'); rw [List.length_append]; rfl, rfl, rfl, trivial⟩ rfl rfl
          · skip
            repeat (first | ((first | apply H.move | apply H.assign | apply H.len_slice); (iterate 3 exact rfl)) | (apply H.fieldAddr; (iterate 3 exact rfl); exact inferInstance; exact rfl) | (apply H.load1; (iterate 3 exact rfl); apply Rd1.ofRow; (repeat (first | exact .here _ _ _ | apply At.there)); (iterate 2 exact rfl)) | (first | apply H.seq | apply H.region | apply H.nil | apply H.then_normal) | ((apply H.cmp); (iterate 5 exact rfl)) | (apply H.pass; (iterate 2 exact rfl)) | (apply H.pickT; (iterate 4 exact rfl)) | ((first | apply H.pickF | apply H.not); (iterate 4 exact rfl)) | (apply H.cond_true; exact rfl) | (apply H.cond_false; exact rfl) | (apply H.skip) | (apply H.gyes; (iterate 3 exact rfl); (first | assumption | omega)) | (apply H.gno; (iterate 3 exact rfl); (omega)) | (refine H.quo rfl rfl rfl (by decide) hhalf rfl ?_))
            repeat ((refine H.loadN (ls := (opk i a b).vals) rfl rfl rfl (Rd.ofRow (by repeat (first | exact .here _ _ _ | apply At.there))) rfl rfl ?_))
            refine H.buildSlice (out := (opk i a b).vals) rfl rfl rfl rfl (by decide) (by decide) rfl rfl fun eb => ?_
            skip
            refine H.append (sz := 14) (xs := want.flatMap Pkt.vals) (news := (opk i a b).vals) rfl rfl rfl rfl rfl (fun p' c' => (by repeat (first | exact .here _ _ _ | apply At.there))) (Src.slice (m := 1) (Rd.ofRow (by repeat (first | exact .here _ _ _ | apply At.there))) rfl) (allOne_mem rfl) rfl (by omega) (by omega) fun p' c' => ?_
            rw [psl_snoc]
            repeat (first | ((first | apply H.move | apply H.assign); (iterate 3 exact rfl)) | (first | apply H.region | apply H.nil | apply H.then_normal) | ((apply H.ar; (iterate 4 exact rfl)); (with_reducible apply wr_i64_n1; omega); exact rfl) | (apply H.in_normal))
            refine H.drop (x := row eb _ _) (by repeat (first | exact .here _ _ | apply Pull.there)) ?_
            refine H.drop (x := row ob _ _) (by repeat (first | exact .here _ _ | apply Pull.there)) ?_
            exact H.again (i + 1, f2, N2, want ++ [opk i a b], p', c') ⟨by show i + 1 ≤ xs.length; omega, hle2, by rw [hN2, hgo, List.map_append]; rfl, by show (want ++ [opk i a b]).length ≤ i + 1; rw [List.length_append]; show want.length + 1 ≤ i + 1; omega, msgs_snoc hws rfl⟩ (by show xs.length - (i + 1) < xs.length - i; omega) ⟨rfl, rfl, rfl, rfl, rfl, by show some (Value.slice p' (want.length + 1) c') = some (Value.slice p' (want ++ [opk i a b]).length c'); rw [List.length_append]; rfl, rfl, rfl, trivial⟩ rfl rfl
    · by_cases k1 : i = xs.length / 2
      · by_cases k2 : 1 + c = 1 + d
        · have hN1 : N.core = ⟨want.map Pkt.core, lostAt (xs.length / 2) (1 + c) (1 + d) (i + 1)⟩ := by
            rw [hN]; unfold lostAt; rw [if_neg (by omega), if_neg (by omega)]
          clear hN
          generalize N = N1 at hN1 ⊢
          repeat (first | ((first | apply H.move | apply H.len_slice); (iterate 3 exact rfl)) | (first | apply H.region | apply H.nil) | ((apply H.cmp); (iterate 5 exact rfl)) | (apply H.pass; (iterate 2 exact rfl)) | (apply H.pickT; (iterate 4 exact rfl)) | ((apply H.pickF); (iterate 4 exact rfl)) | (apply H.gyes; (iterate 3 exact rfl); (omega)) | (apply H.gno; (iterate 3 exact rfl); (omega)) | (refine H.quo rfl rfl rfl (by decide) hhalf rfl ?_))
          exact H.meet N1 hN1 ⟨rfl, rfl, rfl, rfl, rfl, rfl, rfl, rfl, rfl, trivial⟩ rfl rfl
        · skip
          repeat (first | ((first | apply H.move | apply H.len_slice); (iterate 3 exact rfl)) | (apply H.region) | ((apply H.cmp); (iterate 5 exact rfl)) | (apply H.pickT; (iterate 4 exact rfl)) | (apply H.gyes; (iterate 3 exact rfl); (first | assumption | omega)) | (refine H.quo rfl rfl rfl (by decide) hhalf rfl ?_))
          refine H.call rfl rfl rfl (netCut_fn e _ e nb N (1 + c) (1 + d)) fun v f2 A' hrr => ?_
          obtain ⟨N1, hv, hN1, hf2, rfl⟩ := hrr
          rw [hf2]
          have hN0 : N.core = ⟨want.map Pkt.core, fun _ => false⟩ := by
            rw [hN]; unfold lostAt; rw [if_neg (by omega)]
          rw [hN0, cut_goes hc5 hd5 k2] at hv hN1
          have hv : v = .int .i64 0 := hv
          subst hv
          have hN1 : N1.core = ⟨want.map Pkt.core, lostAt (xs.length / 2) (1 + c) (1 + d) (i + 1)⟩ := by
            rw [hN1]; unfold lostAt; rw [if_pos (by omega)]
          clear hN hN0 hf2
          repeat (first | (apply H.nil) | ((apply H.cmp); (iterate 5 exact rfl)) | (apply H.pickT; (iterate 4 exact rfl)))
          exact H.meet N1 hN1 ⟨rfl, rfl, rfl, rfl, rfl, rfl, rfl, rfl, rfl, trivial⟩ rfl rfl
      · have hN1 : N.core = ⟨want.map Pkt.core, lostAt (xs.length / 2) (1 + c) (1 + d) (i + 1)⟩ := by
          rw [hN]; unfold lostAt
          by_cases k3 : xs.length / 2 < i
          · by_cases k2 : 1 + c = 1 + d
            · rw [if_neg (by omega), if_neg (by omega)]
            · rw [if_pos ⟨k3, k2⟩, if_pos ⟨by omega, k2⟩]
          · rw [if_neg (by omega), if_neg (by omega)]
        clear hN
        generalize N = N1 at hN1 ⊢
        repeat (first | ((first | apply H.move | apply H.len_slice); (iterate 3 exact rfl)) | (first | apply H.region | apply H.nil) | ((apply H.cmp); (iterate 5 exact rfl)) | (apply H.pass; (iterate 2 exact rfl)) | ((apply H.pickF); (iterate 4 exact rfl)) | (apply H.gno; (iterate 3 exact rfl); (omega)) | (refine H.quo rfl rfl rfl (by decide) hhalf rfl ?_))
        exact H.meet N1 hN1 ⟨rfl, rfl, rfl, rfl, rfl, rfl, rfl, rfl, rfl, trivial⟩ rfl rfl
  · have hil : i = xs.length := by omega
    clear hxs hys hi
    generalize lostAt (xs.length / 2) (1 + c) (1 + d) i = LL at hN
    have hwl : want.length ≤ 60 := by omega
    repeat (first | ((apply H.assign); (iterate 3 exact rfl)) | (first | apply H.seq | apply H.region | apply H.nil | apply H.then_normal) | (first | apply H.then_exit | apply H.exit | apply H.block | apply H.in_hit | apply H.loop_exit) | (apply H.cond_no; exact rfl; (omega)))
    refine H.cutB (ι := Frag × NetM × List Pkt × Option Addr × Nat) (fun s => [(9, .pointer (some ⟨nb, 0, none⟩)), (10, .slice s.2.2.2.1 s.2.2.1.length s.2.2.2.2)]) (fun s => s.1) (fun s => netH s.1 nb s.2.1 :: psl s.2.2.2.1 s.2.2.2.2 s.2.2.1 :: F) (fun s => Le f s.1 ∧ s.2.1.core = ⟨s.2.2.1.map Pkt.core, LL⟩ ∧ s.2.2.1.length ≤ 80 ∧ ∀ p ∈ s.2.2.1, p.msgs = []) _ (fun s hs => ?_) ?_
    · clear hle hN hwl hws
      obtain ⟨e, N, want, wp, wc⟩ := s
      obtain ⟨hle, hN, hwl, hws⟩ : Le f e ∧ N.core = ⟨want.map Pkt.core, LL⟩ ∧ want.length ≤ 80 ∧ ∀ p ∈ want, p.msgs = [] := hs
      show H _ _ _ [_, (10, .slice wp want.length wc)] e (netH e nb N :: psl wp wc want :: F) _
      have hrow := core_row hN
      rw [List.length_map] at hrow
      have hlen := hrow.2.2
      repeat (first | ((apply H.move); (iterate 3 exact rfl)) | (first | apply H.seq | apply H.region))
      refine H.callR rfl rfl rfl (netLen_fn _ _ _ nb N) ?_
      repeat (first | ((first | apply H.move | apply H.assign | apply H.len_slice); (iterate 3 exact rfl)) | (first | apply H.seq | apply H.region | apply H.nil | apply H.then_normal) | ((apply H.cmp); (iterate 5 exact rfl)) | (first | apply H.skip | apply H.block) | (apply H.cond_no; exact rfl; (omega)))
      refine H.loop (ι := Nat × NetM) (fun s => [(18, .int .i64 (s.1 : Int)), (9, .pointer (some ⟨nb, 0, none⟩)), (10, .slice wp want.length wc)]) (fun _ => e) (fun s => netH e nb s.2 :: psl wp wc want :: F) (fun s => s.1 ≤ want.length ∧ s.2.core = ⟨(want.drop s.1).map Pkt.core, LL⟩) (fun s => want.length - s.1)
        (0, N) ⟨Nat.zero_le _, hN⟩ ⟨rfl, rfl, rfl, trivial⟩ rfl rfl fun s hs => ?_
      clear hN hrow hlen
      obtain ⟨k, N⟩ := s
      obtain ⟨hk, hN⟩ : k ≤ want.length ∧ N.core = ⟨(want.drop k).map Pkt.core, LL⟩ := hs
      show H _ _ _ [(18, .int .i64 (k : Int)), _, _] e (netH e nb N :: psl wp wc want :: F) _
      by_cases hklt : k < want.length
      · obtain ⟨y, hy⟩ : ∃ y, want[k]? = some y := ⟨_, List.getElem?_eq_getElem hklt⟩
        have hym := hws y (List.mem_of_getElem? hy)
        have hdrop : want.drop k = y :: want.drop (k + 1) := by
          rw [List.drop_eq_getElem_cons hklt]
          rw [List.getElem?_eq_getElem hklt] at hy
          rw [Option.some.inj hy]
        have htake := fun G => netTake_fn e G e nb N 0
        unfold TakeR at htake
        rw [show N.core.got 0 = some y.core by rw [hN, hdrop]; rfl, show N.core.took 0 = ⟨(want.drop (k + 1)).map Pkt.core, LL⟩ by rw [hN, hdrop]; rfl] at htake
        repeat (first | ((first | apply H.move | apply H.len_slice); (iterate 3 exact rfl)) | (first | apply H.seq | apply H.region | apply H.nil | apply H.then_normal) | ((apply H.cmp); (iterate 5 exact rfl)) | (first | apply H.skip | apply H.block) | (apply H.cond_yes; exact rfl; (omega)))
        refine H.call rfl rfl rfl (htake _) fun v f1 A' hr => ?_
        obtain ⟨p1, N1, rfl, hp1, hg1, hN1, hf1, rfl⟩ := hr
        rw [hf1]
        have hp1 : p1.core = y.core := hp1
        clear htake hf1
        repeat (first | ((apply H.move); (iterate 3 exact rfl)) | ((apply H.extract); (iterate 4 exact rfl)))
        refine H.alloc (ls := Pkt.zero.vals) rfl rfl rfl fun pb => ?_
        refine H.storeN (ls := Pkt.zero.vals) (vs := p1.vals) (ls' := p1.vals) rfl rfl rfl (allOne_mem rfl) rfl rfl (Nat.le_refl 14) (by repeat (first | exact .here _ _ _ | apply At.there)) ?_
        repeat (first | ((apply H.assign); (iterate 3 exact rfl)) | (first | apply H.seq | apply H.nil | apply H.then_normal))
        have hsame := fun G => sameP_fn e G hg1 (good_nil (f := e) hym)
        rw [hp1, Core.eqB_refl] at hsame
        refine H.front (x := psl _ _ _) (by repeat (first | exact .here _ _ | apply Pull.there)) ?_
        show H _ _ _ _ _ (slc wp want.length wc _ 14 (want.flatMap Pkt.vals) :: _) _
        refine H.slc_some (.here _ _ _) (by omega) fun wb hwb => ?_
        subst hwb
        refine H.drawB (by kernel_rfl) (by decide +kernel) (by first | exact blind_fn | exact blind_seq blind_fn | exact blind_seq (blind_seq blind_fn) | (repeat (first | exact blind_fn | refine blind_seq ?_ | refine blind_block ?_ | refine blind_loop ?_))) (S := [_, _]) rfl ?_
        refine HB.quiet [(0, false), (1, false), (2, false), (3, false), (4, false), (5, false), (6, false), (7, false)] 3 (by kernel_rfl) ?_
        repeat (first | (refine HQ.not (c := false) rfl rfl rfl rfl ?_) | ((apply HQ.move); (iterate 3 exact rfl)) | (refine HQ.index0 rfl rfl rfl rfl hklt rfl ?_) | (refine HQ.loadN (ls := p1.vals) rfl rfl rfl (Rd.ofRow (by repeat (first | exact .here _ _ _ | apply At.there))) rfl rfl ?_) | (refine HQ.loadN (ls := y.vals) rfl rfl rfl (Rd.slcElem Pkt.len (by decide) (by repeat (first | exact .here _ _ _ | apply At.there)) hy) (Pkt.len y) rfl ?_))
        refine HQ.more rfl ?_
        refine HB.ev1 (i := 8) (by kernel_rfl) rfl ?_
        repeat (first | (apply H.nil) | (refine H.callR rfl rfl rfl (hsame _) ?_))
        refine H.on0 rfl ?_
        refine HB.quiet [(9, false), (10, false)] 0 (by kernel_rfl) ?_
        repeat (first | (refine HQ.not (c := false) rfl rfl rfl rfl ?_) | ((apply HQ.pickF); (iterate 4 exact rfl)))
        refine HQ.more rfl ?_
        refine HB.done (by kernel_rfl) ?_
        clear hsame
        repeat (first | ((first | apply H.move | apply H.assign); (iterate 3 exact rfl)) | (first | apply H.region | apply H.nil | apply H.then_normal) | ((apply H.ar; (iterate 4 exact rfl)); (with_reducible apply wr_i64_n1; omega); exact rfl) | (apply H.cond_false; exact rfl) | (first | apply H.skip | apply H.in_normal))
        refine H.drop (x := row pb _ _) (by repeat (first | exact .here _ _ | apply Pull.there)) ?_
        refine H.front (x := netH _ _ _) (by repeat (first | exact .here _ _ | apply Pull.there)) ?_
        exact H.again (k + 1, N1) ⟨by show k + 1 ≤ want.length; omega, hN1⟩ (by show want.length - (k + 1) < want.length - k; omega) ⟨rfl, rfl, rfl, trivial⟩ rfl rfl
      · have hkk : k = want.length := by omega
        have hnil : (⟨N.row, fun _ => false⟩ : NetM).core = ⟨[], fun _ => false⟩ := by
          have h := (core_row hN).1
          rw [hkk, List.drop_length] at h
          show (⟨N.core.row, fun _ => false⟩ : NetC) = _
          rw [h]
          rfl
        clear hN
        repeat (first | ((first | apply H.move | apply H.len_slice); (iterate 3 exact rfl)) | (first | apply H.seq | apply H.region | apply H.nil | apply H.then_normal) | ((apply H.cmp); (iterate 5 exact rfl)) | (first | apply H.then_exit | apply H.exit | apply H.in_hit | apply H.loop_exit) | (apply H.cond_no; exact rfl; (omega)))
        refine H.callR rfl rfl rfl (netHeal_fn e _ e nb N) ?_
        generalize (⟨N.row, fun _ => false⟩ : NetM) = N1 at hnil ⊢
        repeat (first | ((apply H.move); (iterate 3 exact rfl)) | (first | apply H.seq | apply H.region | apply H.nil | apply H.then_normal) | ((apply H.build); (iterate 5 exact rfl)))
        refine H.call rfl rfl rfl (netPut_fn e _ e nb N1 (p := ⟨1, 2, fun _ => 0, [], none, 0⟩) (Le.refl e) (good_nil rfl)) fun v f2 A' hrr => ?_
        obtain ⟨g, N2, hv, hN2, hd1, hf2, rfl⟩ := hrr
        rw [hnil] at hv hN2
        rw [heal_put] at hv hN2
        have hv : v = .int .i64 0 := hv
        subst hv
        have hl2 : N2.row.length = 1 := (core_row hN2).2.2
        have hle2 : Le f f2 := by rw [hf2]; exact Le.trans hle (Le.un e g)
        rw [← hf2]
        clear hf2 hd1 hN2 hnil
        repeat (first | ((first | apply H.move | apply H.assign); (iterate 3 exact rfl)) | (first | apply H.seq | apply H.region | apply H.nil | apply H.then_normal) | ((apply H.cmp); (iterate 5 exact rfl)) | (apply H.gyes; (iterate 3 exact rfl); (omega)))
        refine H.callR rfl rfl rfl (netLen_fn _ _ _ nb N2) ?_
        repeat (first | ((apply H.move); (iterate 3 exact rfl)) | ((apply H.cmp); (iterate 5 exact rfl)) | (apply H.pickT; (iterate 4 exact rfl)) | (apply H.gyes; (iterate 3 exact rfl); (omega)))
        refine H.callR rfl rfl rfl (works_fn f2 _) ?_
        refine H.weaken hle2 ?_
        repeat (first | ((apply H.assign); (iterate 3 exact rfl)) | (first | apply H.nil | apply H.then_normal) | (apply H.pickT; (iterate 4 exact rfl)) | (apply H.ret))
        refine H.drop (x := psl _ _ _) (by repeat (first | exact .here _ _ | apply Pull.there)) ?_
        refine H.drop (x := netH _ _ _) (by repeat (first | exact .here _ _ | apply Pull.there)) ?_
        exact H.ret1 rfl rfl (fun _ h => h) ⟨rfl, rfl, rfl⟩
    · refine H.loop (ι := Nat × Frag × NetM × List Pkt × Option Addr × Nat) (fun s => [(16, .int .i64 (s.1 : Int)), (3, .slice p3 ts.length c3), (9, .pointer (some ⟨nb, 0, none⟩)), (10, .slice s.2.2.2.2.1 s.2.2.2.1.length s.2.2.2.2.2)]) (fun s => s.2.1)
        (fun s => netH s.2.1 nb s.2.2.1 :: psl s.2.2.2.2.1 s.2.2.2.2.2 s.2.2.2.1 :: F) (fun s => s.1 ≤ ts.length ∧ Le f s.2.1 ∧ s.2.2.1.core = ⟨s.2.2.2.1.map Pkt.core, LL⟩ ∧ s.2.2.2.1.length ≤ 60 + s.1 ∧ ∀ p ∈ s.2.2.2.1, p.msgs = []) (fun s => ts.length - s.1)
        (0, e, N, want, wp, wc) ⟨Nat.zero_le _, hle, hN, by omega, hws⟩ ⟨rfl, rfl, rfl, rfl, trivial⟩ rfl rfl fun s hs => ?_
      clear hle hN hwl hws
      obtain ⟨j, e, N, want, wp, wc⟩ := s
      obtain ⟨hj, hle, hN, hwl, hws⟩ : j ≤ ts.length ∧ Le f e ∧ N.core = ⟨want.map Pkt.core, LL⟩ ∧ want.length ≤ 60 + j ∧ ∀ p ∈ want, p.msgs = [] := hs
      show H _ _ _ [(16, .int .i64 (j : Int)), _, _, (10, .slice wp want.length wc)] e (netH e nb N :: psl wp wc want :: F) _
      have hrow := core_row hN
      rw [List.length_map] at hrow
      by_cases hgo : j < ts.length ∧ 0 < want.length
      · obtain ⟨hjlt, hpos⟩ := hgo
        have hx : ts[j]? = some ts[j] := List.getElem?_eq_getElem hjlt
        generalize ts[j] = x at hx
        have hxb := ht0 x (List.mem_of_getElem? hx)
        obtain ⟨b0, o0, cs0, T0, fr0, hp0, hf0, hcs0⟩ := hts j x hx
        have rdA : ∀ A, Rd1 e A b0 (o0 + j * 1) (.int .u8 x) := fun A => Rd1.of (l := byV x) (i := 0) (Rd.imm (hle b0 _ hf0) hcs0) rfl
        clear hcs0 hf0
        subst hp0
        clear hts
        obtain ⟨k, hk, hklt⟩ : ∃ k : Nat, x.tmod ((want.length : Nat) : Int) = (k : Int) ∧ k < want.length := by
          refine ⟨x.toNat % want.length, ?_, Nat.mod_lt _ hpos⟩
          rw [← tmod64, Int.toNat_of_nonneg hxb.1]
        obtain ⟨y, hy⟩ : ∃ y, want[k]? = some y := ⟨_, List.getElem?_eq_getElem hklt⟩
        have hym := hws y (List.mem_of_getElem? hy)
        repeat (first | ((first | apply H.move | apply H.assign | apply H.len_slice); (iterate 3 exact rfl)) | (first | apply H.seq | apply H.region | apply H.nil | apply H.then_normal) | ((apply H.cmp); (iterate 5 exact rfl)) | ((apply H.conv_int; (iterate 2 exact rfl)); (with_reducible apply wr_i64; omega); exact rfl) | (apply H.pickT; (iterate 4 exact rfl)) | (first | apply H.skip | apply H.block) | (apply H.gyes; (iterate 3 exact rfl); (omega)) | (apply H.cond_yes; exact rfl; (omega)) | (refine H.index_slice rfl rfl rfl rfl hjlt rfl ?_) | (refine H.load1 rfl rfl rfl (rdA _) rfl ?_) | (refine H.rem rfl rfl rfl (by omega) hk rfl ?_))
        refine H.call rfl rfl rfl (netTwice_fn e _ e nb N (k : Int) (Le.refl e)) fun v f2 A' hrr => ?_
        obtain ⟨g, N2, hv, hN2, hd1, hf2, rfl⟩ := hrr
        rw [twice_goes (p := y.core) (by rw [hrow.1, List.getElem?_map, hy]; rfl) (by rw [hrow.1, List.length_map]; omega), hrow.1, hrow.2.1] at hv hN2
        have hv : v = .int .i64 0 := hv
        subst hv
        have hle2 : Le f f2 := by rw [hf2]; exact Le.trans hle (Le.un e g)
        rw [← hf2]
        clear hf2 hd1 rdA
        refine H.front (x := psl _ _ _) (by repeat (first | exact .here _ _ | apply Pull.there)) ?_
        show H _ _ _ _ _ (slc wp want.length wc _ 14 (want.flatMap Pkt.vals) :: _) _
        refine H.slc_some (.here _ _ _) (by omega) fun wb hwb => ?_
        subst hwb
        repeat (first | ((apply H.move); (iterate 3 exact rfl)) | (first | apply H.region | apply H.nil | apply H.then_normal) | ((apply H.cmp); (iterate 5 exact rfl)) | (apply H.cond_false; exact rfl) | (apply H.skip) | (refine H.index0 rfl rfl rfl rfl hklt rfl ?_) | (refine H.loadN (ls := y.vals) rfl rfl rfl (Rd.slcElem Pkt.len (by decide) (by repeat (first | exact .here _ _ _ | apply At.there)) hy) (Pkt.len y) rfl ?_))
        refine H.buildSlice (out := y.vals) rfl rfl rfl rfl (by decide) (by decide) rfl rfl fun eb => ?_
        skip
        refine H.append (sz := 14) (xs := want.flatMap Pkt.vals) (news := y.vals) rfl rfl rfl rfl rfl (fun p' c' => (by repeat (first | exact .here _ _ _ | apply At.there))) (Src.slice (m := 1) (Rd.ofRow (by repeat (first | exact .here _ _ _ | apply At.there))) rfl) (allOne_mem rfl) rfl (by omega) (by omega) fun p' c' => ?_
        rw [psl_snoc]
        repeat (first | ((first | apply H.move | apply H.assign); (iterate 3 exact rfl)) | (first | apply H.region | apply H.nil | apply H.then_normal) | ((apply H.ar; (iterate 4 exact rfl)); (with_reducible apply wr_i64_n1; omega); exact rfl) | (apply H.in_normal))
        refine H.drop (x := row eb _ _) (by repeat (first | exact .here _ _ | apply Pull.there)) ?_
        refine H.front (x := netH _ _ _) (by repeat (first | exact .here _ _ | apply Pull.there)) ?_
        exact H.again (j + 1, f2, N2, want ++ [y], p', c') ⟨by show j + 1 ≤ ts.length; omega, hle2, by show N2.core = _; rw [hN2, List.map_append]; rfl, by show (want ++ [y]).length ≤ 60 + (j + 1); rw [List.length_append]; show want.length + 1 ≤ 60 + (j + 1); omega, msgs_snoc hws hym⟩ (by show ts.length - (j + 1) < ts.length - j; omega) ⟨rfl, rfl, rfl, by show some (Value.slice p' (want.length + 1) c') = some (Value.slice p' (want ++ [y]).length c'); rw [List.length_append]; rfl, trivial⟩ rfl rfl
      · clear hts
        have hwl2 : want.length ≤ 80 := by omega
        by_cases hj2 : j < ts.length
        · have hw0 : want.length = 0 := by omega
          repeat (first | ((first | apply H.move | apply H.len_slice); (iterate 3 exact rfl)) | (first | apply H.seq | apply H.region | apply H.nil | apply H.then_normal) | ((apply H.cmp); (iterate 5 exact rfl)) | (apply H.pickT; (iterate 4 exact rfl)) | (first | apply H.then_exit | apply H.exit | apply H.in_hit | apply H.loop_exit) | (apply H.gyes; (iterate 3 exact rfl); (omega)) | (apply H.cond_no; exact rfl; (omega)))
          exact H.meet (e, N, want, wp, wc) ⟨hle, hN, hwl2, hws⟩ ⟨rfl, rfl, trivial⟩ rfl rfl
        · skip
          repeat (first | ((first | apply H.move | apply H.len_slice); (iterate 3 exact rfl)) | (first | apply H.seq | apply H.region | apply H.nil | apply H.then_normal) | ((apply H.cmp); (iterate 5 exact rfl)) | (apply H.pass; (iterate 2 exact rfl)) | ((apply H.pickF); (iterate 4 exact rfl)) | (apply H.cond_false; exact rfl) | (first | apply H.then_exit | apply H.exit | apply H.in_hit | apply H.loop_exit) | (apply H.gno; (iterate 3 exact rfl); (omega)))
          exact H.meet (e, N, want, wp, wc) ⟨hle, hN, hwl2, hws⟩ ⟨rfl, rfl, trivial⟩ rfl rfl
end
end Go.Proofs.Ytcaofnfemogleaa
