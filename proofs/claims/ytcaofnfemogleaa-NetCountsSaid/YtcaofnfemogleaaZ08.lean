/- Layer 24: NetCounts. -/
import Derived.Test.YtcaofnfemogleaaZ07
namespace Go.Proofs.Ytcaofnfemogleaa
set_option linter.unusedSectionVars false
set_option linter.unusedSimpArgs false
set_option linter.unusedVariables false
open Go
/-- What stands in the net was put by an earlier step. -/
def From (xs : List Stp) (i : Nat) (c : Core) : Prop := ∃ (k : Nat) (x : Stp), k < i ∧ xs[k]? = some x ∧ x.act.tmod 6 = 0 ∧ x.p.core = c
theorem From.next {xs : List Stp} {i : Nat} {c : Core} (h : From xs i c) : From xs (i + 1) c := by
  obtain ⟨k, x, h1, h2⟩ := h
  exact ⟨k, x, by omega, h2⟩
theorem push_facts (c : NetC) (p : Core) : ((c.push p).1 = 0 ∧ (c.push p).2.row = c.row ++ [p]) ∨ ((c.push p).1 ≠ 0 ∧ (c.push p).2 = c) := by
  unfold NetC.push
  split
  · exact .inr ⟨(show (7 : Int) ≠ 0 by decide), rfl⟩
  · exact .inl ⟨rfl, rfl⟩
theorem put_facts (c : NetC) (p : Core) : ((c.put p).1 = 0 ∧ (c.put p).2.row = c.row ++ [p]) ∨ (c.put p).2 = c := by
  unfold NetC.put
  split
  · split
    · exact .inr rfl
    · rcases push_facts c p with h | h
      · exact .inl h
      · exact .inr h.2
  · exact .inr rfl
theorem twice_facts (c : NetC) (k : Int) : (∃ p ∈ c.row, (c.twice k).1 = 0 ∧ (c.twice k).2.row = c.row ++ [p]) ∨ ((c.twice k).1 ≠ 0 ∧ (c.twice k).2 = c) := by
  unfold NetC.twice
  split
  · rename_i p hp
    have hm : p ∈ c.row := by
      split at hp
      · exact List.mem_of_getElem? hp
      · cases hp
    rcases push_facts c p with h | h
    · exact .inl ⟨p, hm, h⟩
    · exact .inr h
  · exact .inr ⟨(show (4 : Int) ≠ 0 by decide), rfl⟩
theorem take_facts (c : NetC) (k : Int) : (∃ p ∈ c.row, c.got k = some p ∧ (c.took k).row.length + 1 = c.row.length ∧ ∀ q ∈ (c.took k).row, q ∈ c.row) ∨ (c.got k = none ∧ (c.took k).row = c.row) := by
  unfold NetC.got NetC.took
  by_cases h0 : 0 ≤ k
  · rw [if_pos h0, if_pos h0]
    cases h : c.row[k.toNat]? with
    | some p =>
      have hlt : k.toNat < c.row.length := by
        rcases Nat.lt_or_ge k.toNat c.row.length with h' | h'
        · exact h'
        · rw [List.getElem?_eq_none h'] at h; cases h
      refine .inl ⟨p, List.mem_of_getElem? h, rfl, ?_, fun q hq => List.mem_of_mem_eraseIdx hq⟩
      show (c.row.eraseIdx k.toNat).length + 1 = _
      rw [List.length_eraseIdx_of_lt hlt]
      omega
    | none =>
      refine .inr ⟨rfl, ?_⟩
      have : c.row.length ≤ k.toNat := by
        rcases Nat.lt_or_ge k.toNat c.row.length with h' | h'
        · rw [List.getElem?_eq_getElem h'] at h; cases h
        · exact h'
      exact List.eraseIdx_of_length_le this
  · rw [if_neg h0, if_neg h0]
    exact .inr ⟨rfl, rfl⟩
def pairPkt (i j : Int) : Pkt := ⟨i, j, fun _ => 0, [], none, 0⟩
theorem pairPkt_good (f : Frag) (i j : Int) : (pairPkt i j).Good f := ⟨ListAt.nil f none, (fun x h => by cases h), Nat.zero_le _⟩
theorem cut_facts (c : NetC) (i j : Int) : ((c.cut i j).1 = 0 ∧ (c.cut i j).2.row = c.row ∧ (c.cut i j).2.put (pairPkt i j).core = (0, (c.cut i j).2)) ∨ ((c.cut i j).1 ≠ 0 ∧ (c.cut i j).2 = c) := by
  unfold NetC.cut
  split
  · rename_i hp
    refine .inl ⟨rfl, rfl, NetC.put_lost ?_ ?_⟩
    · show (([] : List Msg).all Msg.may && (decide (pairP i j) && decide (([] : List Msg).length ≤ 8))) = true
      rw [decide_eq_true hp]
      rfl
    · show updB (updB c.lost (i.toNat * 12 + j.toNat) true) (j.toNat * 12 + i.toNat) true (i.toNat * 12 + j.toNat) = true
      unfold updB
      simp
  · exact .inr ⟨(show (1 : Int) ≠ 0 by decide), rfl⟩
/-- A fact that is kept out of sight. -/
structure Hold (p : Prop) : Prop where
  h : p
/-- The law's account. -/
structure Acc (xs : List Stp) (i : Nat) (N : NetM) (put gone : Int) : Prop where
  bal : put - gone = N.row.length
  pos : 0 ≤ gone
  few : put ≤ i
  org : ∀ c ∈ N.core.row, From xs i c
theorem Acc.same {xs : List Stp} {i : Nat} {N N' : NetM} {put gone : Int} (h : Acc xs i N put gone) (e : N'.core.row = N.core.row) : Acc xs (i + 1) N' put gone :=
  ⟨by have := congrArg List.length e; rw [NetM.core_len, NetM.core_len] at this; rw [this]; exact h.bal, h.pos, by have := h.few; omega, fun c hc => (h.org c (by rw [← e]; exact hc)).next⟩
theorem Acc.more {xs : List Stp} {i : Nat} {N N' : NetM} {put gone : Int} {c : Core} (h : Acc xs i N put gone) (e : N'.core.row = N.core.row ++ [c]) (hc : From xs (i + 1) c) : Acc xs (i + 1) N' (put + 1) gone :=
  ⟨by have := congrArg List.length e; rw [List.length_append, NetM.core_len, NetM.core_len] at this; have := h.bal; simp at *; omega, h.pos, by have := h.few; omega, fun d hd => by
    rw [e, List.mem_append, List.mem_singleton] at hd
    rcases hd with hd | rfl
    · exact (h.org d hd).next
    · exact hc⟩
theorem Acc.less {xs : List Stp} {i : Nat} {N N' : NetM} {put gone : Int} (h : Acc xs i N put gone) (e : N'.core.row.length + 1 = N.core.row.length) (hs : ∀ q ∈ N'.core.row, q ∈ N.core.row) : Acc xs (i + 1) N' put (gone + 1) :=
  ⟨by rw [NetM.core_len, NetM.core_len] at e; have := h.bal; omega, by have := h.pos; omega, by have := h.few; omega, fun c hc => (h.org c (hs c hc)).next⟩
theorem row_len {N N' : NetM} (e : N'.core.row = N.core.row) : N'.row.length = N.row.length := by
  have := congrArg List.length e
  rwa [NetM.core_len, NetM.core_len] at this
theorem row_more {N N' : NetM} {c : Core} (e : N'.core.row = N.core.row ++ [c]) : N'.row.length = N.row.length + 1 := by
  have := congrArg List.length e
  rw [List.length_append, NetM.core_len, NetM.core_len] at this
  exact this
section
variable (f : Frag) (F : List HP)
set_option maxRecDepth 20000 in
set_option maxHeartbeats 6000000 in
theorem netCounts_fn {p : Option Addr} {c : Nat} {xs : List Stp} (hat : ListAt f p 17 Stp.vals xs) (hh : ∀ x ∈ xs, x.p.Has f ∧ 0 ≤ x.act ∧ x.act ≤ 255) :
    Fn Try.prog 5 [.slice p xs.length c] f F (Ret (.bool true) f F) := by
  have hfew := few_fn f F (c := c) hat (fun x hx => (hh x hx).1.1)
  cases hf : fewS xs with
  | false =>
    rw [hf] at hfew
    clear hf
    have hn : (!false) = true := rfl
    refine Fn.enter Try.func5 rfl Try.ntmps5 rfl (L := [(0, _)]) ⟨rfl, trivial⟩ fun base => ?_
    repeat (first | ((first | apply H.move | apply H.assign); (iterate 3 exact rfl)) | (first | apply H.seq | apply H.region | apply H.nil | apply H.then_normal))
    refine H.callR rfl rfl rfl hfew ?_
    repeat (first | (first | apply H.seq | apply H.region | apply H.nil | apply H.then_normal) | ((apply H.not); (iterate 4 exact rfl)) | (apply H.cond_true; exact rfl))
    refine H.callR rfl rfl rfl (works_fn f _) ?_
    repeat (first | ((apply H.assign); (iterate 3 exact rfl)) | (first | apply H.nil | apply H.then_normal) | (first | apply H.ret | apply H.then_ret))
    exact H.ret1 rfl rfl (fun _ h => h) ⟨rfl, rfl, rfl⟩
  | true =>
    have hgood := fewS_good hf fun x hx => (hh x hx).1
    have hact : ∀ x ∈ xs, 0 ≤ x.act := fun x hx => (hh x hx).2.1
    have hlen := fewS_len hf
    rw [hf] at hfew
    clear hf hh
    have hn : (!true) = false := rfl
    refine Fn.enter Try.func5 rfl Try.ntmps5 rfl (L := [(0, _)]) ⟨rfl, trivial⟩ fun base => ?_
    repeat (first | ((first | apply H.move | apply H.assign); (iterate 3 exact rfl)) | (first | apply H.seq | apply H.region | apply H.nil | apply H.then_normal))
    refine H.callR rfl rfl rfl hfew ?_
    clear hfew
    repeat (first | (first | apply H.seq | apply H.region | apply H.nil | apply H.then_normal) | ((apply H.not); (iterate 4 exact rfl)) | (apply H.cond_false; exact rfl) | (apply H.skip))
    clear hn
    refine H.callE rfl rfl rfl (netNew_fn f F f) fun nb => ?_
    repeat (first | ((apply H.assign); (iterate 3 exact rfl)) | (first | apply H.seq | apply H.region | apply H.nil | apply H.then_normal) | (apply H.block))
    refine H.loop (ι := Nat × Frag × NetM × Int × Int) (fun s => [(6, .int .i64 (s.1 : Int)), (0, .slice p xs.length c), (3, .pointer (some ⟨nb, 0, none⟩)), (4, .int .i64 s.2.2.2.1), (5, .int .i64 s.2.2.2.2)]) (fun s => s.2.1)
      (fun s => netH s.2.1 nb s.2.2.1 :: F) (fun s => s.1 ≤ xs.length ∧ Le f s.2.1 ∧ Acc xs s.1 s.2.2.1 s.2.2.2.1 s.2.2.2.2) (fun s => xs.length - s.1)
      (0, f, NetM.new, 0, 0) ⟨Nat.zero_le _, Le.refl f, ⟨rfl, Int.le_refl _, Int.le_refl _, fun c hc => by cases hc⟩⟩ ⟨rfl, rfl, rfl, rfl, rfl, trivial⟩ rfl rfl fun s hs => ?_
    obtain ⟨i, e, N, put, gone⟩ := s
    obtain ⟨hi, hle, hacc0⟩ : i ≤ xs.length ∧ Le f e ∧ Acc xs i N put gone := hs
    show H _ _ _ [(6, .int .i64 (i : Int)), _, _, (4, .int .i64 put), (5, .int .i64 gone)] e (netH e nb N :: F) _
    have ha1 := hacc0.bal
    have ha2 := hacc0.pos
    have ha3 := hacc0.few
    by_cases hlt : i < xs.length
    · have hx : xs[i]? = some xs[i] := List.getElem?_eq_getElem hlt
      generalize xs[i] = x at hx
      have hxm := List.mem_of_getElem? hx
      have hxg := hgood x hxm
      have hx0 := hact x hxm
      obtain ⟨b, off, cs, T, fr, hp, hfb, hcs⟩ := hat i x hx
      have rd : ∀ A, Rd e A b (off + i * 17) x.vals := fun A => Rd.imm (hle b _ hfb) hcs
      clear hcs hfb
      rcases tmod6 hx0 with hr | hr | hr | hr | hr | hr
      · skip
        subst hp
        repeat (first | ((first | apply H.move | apply H.len_slice); (iterate 3 exact rfl)) | (first | apply H.seq | apply H.region | apply H.nil | apply H.then_normal) | ((apply H.cmp); (iterate 5 exact rfl)) | (first | apply H.skip | apply H.block) | (apply H.cond_yes; exact rfl; (omega)))
        refine H.index_slice rfl rfl rfl rfl hlt rfl ?_
        refine H.loadN (ls := x.vals) rfl rfl rfl (rd _) rfl rfl ?_
        refine H.alloc (ls := Stp.zero.vals) rfl rfl rfl fun xb => ?_
        refine H.storeN (ls := Stp.zero.vals) (vs := x.vals) (ls' := x.vals) rfl rfl rfl (allOne_mem rfl) rfl rfl (Nat.le_refl 17) (by repeat (first | exact .here _ _ _ | apply At.there)) ?_
        refine H.front (x := netH _ _ _) (by repeat (first | exact .here _ _ | apply Pull.there)) ?_
        repeat (first | ((apply H.move); (iterate 3 exact rfl)) | (first | apply H.seq | apply H.region | apply H.nil | apply H.then_normal))
        refine H.callR rfl rfl rfl (netLen_fn e _ e nb N) ?_
        repeat (first | ((apply H.assign); (iterate 3 exact rfl)) | (apply H.fieldAddr; (iterate 3 exact rfl); exact inferInstance; exact rfl) | (apply H.load1; (iterate 3 exact rfl); apply Rd1.ofRow; (repeat (first | exact .here _ _ _ | apply At.there)); (iterate 2 exact rfl)) | (first | apply H.seq | apply H.region | apply H.nil | apply H.then_normal))
        refine H.rem rfl rfl rfl (by decide) hr rfl ?_
        repeat (first | ((first | apply H.move | apply H.assign); (iterate 3 exact rfl)) | (apply H.fieldAddr; (iterate 3 exact rfl); exact inferInstance; exact rfl) | (first | apply H.seq | apply H.region | apply H.nil | apply H.then_normal) | ((apply H.cmp); (iterate 5 exact rfl)) | (apply H.cond_true; exact rfl) | (apply H.block))
        refine H.loadN (ls := x.p.vals) rfl rfl rfl (stp_pkt (by repeat (first | exact .here _ _ _ | apply At.there))) rfl rfl ?_
        refine H.front (x := netH _ _ _) (by repeat (first | exact .here _ _ | apply Pull.there)) ?_
        refine H.call rfl rfl rfl (netPut_fn e _ e nb N (Le.refl e) (hxg.mono hle)) fun v f2 A' hrr => ?_
        obtain ⟨g, N1, rfl, hN1, hd1, hf2, rfl⟩ := hrr
        have hle : Le f f2 := by rw [hf2]; exact Le.trans hle (Le.un e g)
        rw [← hf2]
        clear hf2 hd1 rd
        rcases put_facts N.core x.p.core with ⟨hz, hrow⟩ | hsame
        · have hl1 := row_more (N := N) (N' := N1) (by rw [hN1]; exact hrow)
          have hdl : put + ((N1.row.length : Int) - N.row.length) = put + 1 := by omega
          have hacc : Acc xs (i + 1) N1 (put + ((N1.row.length : Int) - N.row.length)) gone := by
            rw [hdl]
            exact hacc0.more (c := x.p.core) (by rw [hN1]; exact hrow) ⟨i, x, Nat.lt_succ_self i, hx, hr, rfl⟩
          rw [hz]
          clear hdl hz hrow hN1 hxg
          repeat (first | ((first | apply H.move | apply H.assign); (iterate 3 exact rfl)) | (first | apply H.seq | apply H.region | apply H.nil | apply H.then_normal) | ((apply H.cmp); (iterate 5 exact rfl)) | (apply H.pass; (iterate 2 exact rfl)) | ((apply H.pickF); (iterate 4 exact rfl)))
          refine H.callR rfl rfl rfl (netLen_fn _ _ _ nb N1) ?_
          repeat (first | ((apply H.move); (iterate 3 exact rfl)) | ((apply H.cmp); (iterate 5 exact rfl)) | ((apply H.pickF); (iterate 4 exact rfl)) | (apply H.gno; (iterate 3 exact rfl); (omega)))
          refine H.callR rfl rfl rfl (netLen_fn _ _ _ nb N1) ?_
          repeat (first | ((apply H.move); (iterate 3 exact rfl)) | (first | apply H.region | apply H.nil | apply H.then_normal) | ((apply H.cmp); (iterate 5 exact rfl)) | ((apply H.ar; (iterate 4 exact rfl)); (with_reducible apply wr_i64_n1; omega); exact rfl) | ((apply H.pickF); (iterate 4 exact rfl)) | (apply H.skip) | (apply H.cond_no; exact rfl; (omega)))
          refine H.callR rfl rfl rfl (netLen_fn _ _ _ nb N1) ?_
          repeat (first | ((first | apply H.move | apply H.assign); (iterate 3 exact rfl)) | (first | apply H.seq | apply H.region | apply H.nil | apply H.then_normal) | ((apply H.ar; (iterate 4 exact rfl)); (with_reducible apply wr_i64; omega); exact rfl) | (apply H.in_normal))
          have hb1 := hacc.bal
          have hb2 := hacc.pos
          have hb3 := hacc.few
          refine H.front (x := netH _ _ _) (by repeat (first | exact .here _ _ | apply Pull.there)) ?_
          refine H.unpack fun ri hri => ?_
          have hmax : N1.row.length ≤ 256 := hri.2
          refine H.imp (netH_fold ri hri) ?_
          skip
          refine H.callR rfl rfl rfl (netLen_fn _ _ _ nb N1) ?_
          repeat (first | ((apply H.move); (iterate 3 exact rfl)) | ((apply H.cmp); (iterate 5 exact rfl)) | ((apply H.ar; (iterate 4 exact rfl)); (with_reducible apply wr_i64; omega); exact rfl) | (apply H.gno; (iterate 3 exact rfl); (omega)))
          refine H.callR rfl rfl rfl (netLen_fn _ _ _ nb N1) ?_
          repeat (first | ((first | apply H.move | apply H.assign); (iterate 3 exact rfl)) | (first | apply H.region | apply H.nil | apply H.then_normal) | ((apply H.cmp); (iterate 5 exact rfl)) | ((apply H.ar; (iterate 4 exact rfl)); (with_reducible apply wr_i64_n1; omega); exact rfl) | ((apply H.pickF); (iterate 4 exact rfl)) | (first | apply H.skip | apply H.in_normal) | (apply H.cond_no; exact rfl; (omega)))
          refine H.drop (x := row xb _ _) (by repeat (first | exact .here _ _ | apply Pull.there)) ?_
          exact H.again (i + 1, f2, N1, put + ((N1.row.length : Int) - N.row.length), gone) ⟨by show i + 1 ≤ xs.length; omega, hle, hacc⟩ (by show xs.length - (i + 1) < xs.length - i; omega) ⟨rfl, rfl, rfl, rfl, rfl, trivial⟩ rfl rfl
        · have hrow : N1.core.row = N.core.row := by rw [hN1, hsame]
          have hl1 := row_len hrow
          have hdl : put + ((N1.row.length : Int) - N.row.length) = put := by omega
          have hacc : Acc xs (i + 1) N1 (put + ((N1.row.length : Int) - N.row.length)) gone := by
            rw [hdl]
            exact hacc0.same hrow
          generalize (N.core.put x.p.core).1 = z
          clear hdl hsame hrow hN1 hxg
          by_cases hz : z = 0
          · skip
            repeat (first | ((first | apply H.move | apply H.assign); (iterate 3 exact rfl)) | (first | apply H.seq | apply H.region | apply H.nil | apply H.then_normal) | ((apply H.cmp); (iterate 5 exact rfl)) | (apply H.pass; (iterate 2 exact rfl)) | ((apply H.pickF); (iterate 4 exact rfl)) | (apply H.gno; (iterate 3 exact rfl); (omega)))
            refine H.callR rfl rfl rfl (netLen_fn _ _ _ nb N1) ?_
            repeat (first | ((apply H.move); (iterate 3 exact rfl)) | ((apply H.cmp); (iterate 5 exact rfl)) | ((apply H.pickF); (iterate 4 exact rfl)) | (apply H.gno; (iterate 3 exact rfl); (omega)))
            refine H.callR rfl rfl rfl (netLen_fn _ _ _ nb N1) ?_
            repeat (first | ((apply H.move); (iterate 3 exact rfl)) | (first | apply H.region | apply H.nil | apply H.then_normal) | ((apply H.cmp); (iterate 5 exact rfl)) | ((apply H.ar; (iterate 4 exact rfl)); (with_reducible apply wr_i64_n1; omega); exact rfl) | ((apply H.pickF); (iterate 4 exact rfl)) | (apply H.skip) | (apply H.cond_no; exact rfl; (omega)))
            refine H.callR rfl rfl rfl (netLen_fn _ _ _ nb N1) ?_
            repeat (first | ((first | apply H.move | apply H.assign); (iterate 3 exact rfl)) | (first | apply H.seq | apply H.region | apply H.nil | apply H.then_normal) | ((apply H.ar; (iterate 4 exact rfl)); (with_reducible apply wr_i64; omega); exact rfl) | (apply H.in_normal))
            have hb1 := hacc.bal
            have hb2 := hacc.pos
            have hb3 := hacc.few
            refine H.front (x := netH _ _ _) (by repeat (first | exact .here _ _ | apply Pull.there)) ?_
            refine H.unpack fun ri hri => ?_
            have hmax : N1.row.length ≤ 256 := hri.2
            refine H.imp (netH_fold ri hri) ?_
            skip
            refine H.callR rfl rfl rfl (netLen_fn _ _ _ nb N1) ?_
            repeat (first | ((apply H.move); (iterate 3 exact rfl)) | ((apply H.cmp); (iterate 5 exact rfl)) | ((apply H.ar; (iterate 4 exact rfl)); (with_reducible apply wr_i64; omega); exact rfl) | (apply H.gno; (iterate 3 exact rfl); (omega)))
            refine H.callR rfl rfl rfl (netLen_fn _ _ _ nb N1) ?_
            repeat (first | ((first | apply H.move | apply H.assign); (iterate 3 exact rfl)) | (first | apply H.region | apply H.nil | apply H.then_normal) | ((apply H.cmp); (iterate 5 exact rfl)) | ((apply H.ar; (iterate 4 exact rfl)); (with_reducible apply wr_i64_n1; omega); exact rfl) | ((apply H.pickF); (iterate 4 exact rfl)) | (first | apply H.skip | apply H.in_normal) | (apply H.cond_no; exact rfl; (omega)))
            refine H.drop (x := row xb _ _) (by repeat (first | exact .here _ _ | apply Pull.there)) ?_
            exact H.again (i + 1, f2, N1, put + ((N1.row.length : Int) - N.row.length), gone) ⟨by show i + 1 ≤ xs.length; omega, hle, hacc⟩ (by show xs.length - (i + 1) < xs.length - i; omega) ⟨rfl, rfl, rfl, rfl, rfl, trivial⟩ rfl rfl
          · skip
            repeat (first | ((first | apply H.move | apply H.assign); (iterate 3 exact rfl)) | (first | apply H.seq | apply H.region | apply H.nil | apply H.then_normal) | ((apply H.cmp); (iterate 5 exact rfl)) | (apply H.gyes; (iterate 3 exact rfl); (assumption)))
            refine H.callR rfl rfl rfl (netLen_fn _ _ _ nb N1) ?_
            repeat (first | ((apply H.move); (iterate 3 exact rfl)) | ((apply H.cmp); (iterate 5 exact rfl)) | (apply H.pickT; (iterate 4 exact rfl)) | (apply H.gno; (iterate 3 exact rfl); (omega)))
            refine H.callR rfl rfl rfl (netLen_fn _ _ _ nb N1) ?_
            repeat (first | ((apply H.move); (iterate 3 exact rfl)) | ((apply H.cmp); (iterate 5 exact rfl)) | ((apply H.pickF); (iterate 4 exact rfl)) | (apply H.gno; (iterate 3 exact rfl); (omega)))
            refine H.callR rfl rfl rfl (netLen_fn _ _ _ nb N1) ?_
            repeat (first | ((apply H.move); (iterate 3 exact rfl)) | (first | apply H.region | apply H.nil | apply H.then_normal) | ((apply H.cmp); (iterate 5 exact rfl)) | ((apply H.ar; (iterate 4 exact rfl)); (with_reducible apply wr_i64_n1; omega); exact rfl) | ((apply H.pickF); (iterate 4 exact rfl)) | (apply H.skip) | (apply H.cond_no; exact rfl; (omega)))
            refine H.callR rfl rfl rfl (netLen_fn _ _ _ nb N1) ?_
            repeat (first | ((first | apply H.move | apply H.assign); (iterate 3 exact rfl)) | (first | apply H.seq | apply H.region | apply H.nil | apply H.then_normal) | ((apply H.ar; (iterate 4 exact rfl)); (with_reducible apply wr_i64; omega); exact rfl) | (apply H.in_normal))
            have hb1 := hacc.bal
            have hb2 := hacc.pos
            have hb3 := hacc.few
            refine H.front (x := netH _ _ _) (by repeat (first | exact .here _ _ | apply Pull.there)) ?_
            refine H.unpack fun ri hri => ?_
            have hmax : N1.row.length ≤ 256 := hri.2
            refine H.imp (netH_fold ri hri) ?_
            skip
            refine H.callR rfl rfl rfl (netLen_fn _ _ _ nb N1) ?_
            repeat (first | ((apply H.move); (iterate 3 exact rfl)) | ((apply H.cmp); (iterate 5 exact rfl)) | ((apply H.ar; (iterate 4 exact rfl)); (with_reducible apply wr_i64; omega); exact rfl) | (apply H.gno; (iterate 3 exact rfl); (omega)))
            refine H.callR rfl rfl rfl (netLen_fn _ _ _ nb N1) ?_
            repeat (first | ((first | apply H.move | apply H.assign); (iterate 3 exact rfl)) | (first | apply H.region | apply H.nil | apply H.then_normal) | ((apply H.cmp); (iterate 5 exact rfl)) | ((apply H.ar; (iterate 4 exact rfl)); (with_reducible apply wr_i64_n1; omega); exact rfl) | ((apply H.pickF); (iterate 4 exact rfl)) | (first | apply H.skip | apply H.in_normal) | (apply H.cond_no; exact rfl; (omega)))
            refine H.drop (x := row xb _ _) (by repeat (first | exact .here _ _ | apply Pull.there)) ?_
            exact H.again (i + 1, f2, N1, put + ((N1.row.length : Int) - N.row.length), gone) ⟨by show i + 1 ≤ xs.length; omega, hle, hacc⟩ (by show xs.length - (i + 1) < xs.length - i; omega) ⟨rfl, rfl, rfl, rfl, rfl, trivial⟩ rfl rfl
      · skip
        subst hp
        repeat (first | ((first | apply H.move | apply H.len_slice); (iterate 3 exact rfl)) | (first | apply H.seq | apply H.region | apply H.nil | apply H.then_normal) | ((apply H.cmp); (iterate 5 exact rfl)) | (first | apply H.skip | apply H.block) | (apply H.cond_yes; exact rfl; (omega)))
        refine H.index_slice rfl rfl rfl rfl hlt rfl ?_
        refine H.loadN (ls := x.vals) rfl rfl rfl (rd _) rfl rfl ?_
        refine H.alloc (ls := Stp.zero.vals) rfl rfl rfl fun xb => ?_
        refine H.storeN (ls := Stp.zero.vals) (vs := x.vals) (ls' := x.vals) rfl rfl rfl (allOne_mem rfl) rfl rfl (Nat.le_refl 17) (by repeat (first | exact .here _ _ _ | apply At.there)) ?_
        refine H.front (x := netH _ _ _) (by repeat (first | exact .here _ _ | apply Pull.there)) ?_
        repeat (first | ((apply H.move); (iterate 3 exact rfl)) | (first | apply H.seq | apply H.region | apply H.nil | apply H.then_normal))
        refine H.callR rfl rfl rfl (netLen_fn e _ e nb N) ?_
        repeat (first | ((apply H.assign); (iterate 3 exact rfl)) | (apply H.fieldAddr; (iterate 3 exact rfl); exact inferInstance; exact rfl) | (apply H.load1; (iterate 3 exact rfl); apply Rd1.ofRow; (repeat (first | exact .here _ _ _ | apply At.there)); (iterate 2 exact rfl)) | (first | apply H.seq | apply H.region | apply H.nil | apply H.then_normal))
        refine H.rem rfl rfl rfl (by decide) hr rfl ?_
        repeat (first | ((first | apply H.move | apply H.assign); (iterate 3 exact rfl)) | (apply H.fieldAddr; (iterate 3 exact rfl); exact inferInstance; exact rfl) | (apply H.load1; (iterate 3 exact rfl); apply Rd1.ofRow; (repeat (first | exact .here _ _ _ | apply At.there)); (iterate 2 exact rfl)) | (first | apply H.seq | apply H.region | apply H.nil | apply H.then_normal) | ((apply H.cmp); (iterate 5 exact rfl)) | (apply H.cond_true; exact rfl) | (apply H.cond_false; exact rfl) | (apply H.block))
        refine H.front (x := netH _ _ _) (by repeat (first | exact .here _ _ | apply Pull.there)) ?_
        refine H.call rfl rfl rfl (netTake_fn e _ e nb N x.k) fun v f2 A' hrr => ?_
        obtain ⟨p1, N1, rfl, hp1, hg1, hN1, hf2, rfl⟩ := hrr
        rw [hf2]
        rcases take_facts N.core x.k with ⟨q, hq, hgot, hlen1, hsub⟩ | ⟨hgot, hrow⟩
        · rw [hgot]
          rw [hgot] at hp1
          have hp1 : p1.core = q := hp1
          rw [← hN1] at hlen1 hsub
          have hlen2 : N1.row.length + 1 = N.row.length := by rw [NetM.core_len, NetM.core_len] at hlen1; exact hlen1
          have hacc : Acc xs (i + 1) N1 put (gone + 1) := hacc0.less hlen1 hsub
          obtain ⟨k0, y0, hk0, hy0, ha0, hc0⟩ := hacc0.org q hq
          rw [← hp1] at hc0
          clear hq hgot hsub hlen1 hN1 hf2 hp1
          repeat (first | ((apply H.move); (iterate 3 exact rfl)) | ((apply H.extract); (iterate 4 exact rfl)))
          refine H.alloc (ls := Pkt.zero.vals) rfl rfl rfl fun pb => ?_
          refine H.storeN (ls := Pkt.zero.vals) (vs := p1.vals) (ls' := p1.vals) rfl rfl rfl (allOne_mem rfl) rfl rfl (Nat.le_refl 14) (by repeat (first | exact .here _ _ _ | apply At.there)) ?_
          repeat (first | (refine H.not (c := false) rfl rfl rfl rfl ?_) | ((first | apply H.move | apply H.assign); (iterate 3 exact rfl)) | (first | apply H.seq | apply H.region | apply H.nil | apply H.then_normal) | (apply H.cond_false; exact rfl) | (first | apply H.skip | apply H.block))
          refine H.loop (ι := Nat × Bool) (fun s => [(13, .int .i64 (s.1 : Int)), (12, .bool s.2), (6, .int .i64 (i : Int)), (0, .slice (some ⟨b, off, none⟩) xs.length c), (3, .pointer (some ⟨nb, 0, none⟩)), (10, .pointer (some ⟨pb, 0, none⟩)), (7, .pointer (some ⟨xb, 0, none⟩)), (8, .int .i64 (N.row.length : Nat)), (4, .int .i64 put), (5, .int .i64 gone)]) (fun _ => e)
            (fun _ => row pb 34 p1.vals :: netH e nb N1 :: row xb 50 x.vals :: F)
            (fun s => s.1 ≤ i ∧ (s.2 = false → ∀ k' y, k' < s.1 → xs[k']? = some y → y.act.tmod 6 = 0 → y.p.core ≠ p1.core)) (fun s => i - s.1) (0, false) ⟨Nat.zero_le _, fun _ k' y hk => absurd hk (Nat.not_lt_zero _)⟩ ⟨rfl, rfl, rfl, rfl, rfl, rfl, rfl, rfl, rfl, rfl, trivial⟩ rfl rfl fun s hs => ?_
          obtain ⟨kk, t⟩ := s
          obtain ⟨hkk, hno⟩ : kk ≤ i ∧ (t = false → ∀ k' y, k' < kk → xs[k']? = some y → y.act.tmod 6 = 0 → y.p.core ≠ p1.core) := hs
          show H _ _ _ ((13, .int .i64 (kk : Int)) :: (12, .bool t) :: _) _ _ _
          by_cases hklt : kk < i
          · have hkx : kk < xs.length := by omega
            have hy : xs[kk]? = some xs[kk] := List.getElem?_eq_getElem hkx
            generalize xs[kk] = y at hy
            have hyg := (hgood y (List.mem_of_getElem? hy)).mono hle
            obtain ⟨b2, off2, cs2, T2, fr2, hp2, hfb2, hcs2⟩ := hat kk y hy
            cases hp2
            have rdy : ∀ A, Rd e A b (off + kk * 17) y.vals := fun A => Rd.imm (hle b _ hfb2) hcs2
            have rda : ∀ A, Rd1 e A b (off + kk * 17 + 0) (.int .u8 y.act) := fun A => Rd1.of (rdy A) (i := 0) rfl
            have rdp : ∀ A, Rd e A b (off + kk * 17 + 1) y.p.vals := fun A => by
              have := rdy A
              rw [Stp.pvals] at this
              exact this.sub rfl
            clear hcs2 hfb2 rdy rd
            cases t with
            | true =>
              clear hno
              repeat (first | ((apply H.move); (iterate 3 exact rfl)) | (first | apply H.seq | apply H.region | apply H.nil | apply H.then_normal) | ((apply H.cmp); (iterate 5 exact rfl)) | (first | apply H.skip | apply H.block) | (apply H.cond_yes; exact rfl; (omega)))
              refine H.drawB (by kernel_rfl) (by decide +kernel) (by first | exact blind_fn | exact blind_seq blind_fn | exact blind_seq (blind_seq blind_fn) | (repeat (first | exact blind_fn | refine blind_seq ?_ | refine blind_block ?_ | refine blind_loop ?_))) (S := [_]) rfl ?_
              refine HB.quiet [(0, false), (1, false), (2, false), (3, false), (4, false), (5, false), (6, false), (7, false), (8, false), (9, false), (10, false), (11, false), (12, false), (13, false), (14, false), (15, false)] 4 (by kernel_rfl) ?_
              repeat (first | ((apply HQ.move); (iterate 3 exact rfl)) | (apply HQ.pass; (iterate 2 exact rfl)))
              refine HQ.more rfl ?_
              refine HB.ev1 (i := 16) (by kernel_rfl) rfl ?_
              repeat (first | (apply H.nil) | (apply H.pass; (iterate 2 exact rfl)))
              refine H.on0 rfl ?_
              refine HB.quiet [(17, false), (18, false), (19, false)] 0 (by kernel_rfl) ?_
              repeat (first | ((apply HQ.assign); (iterate 3 exact rfl)) | (apply HQ.pass; (iterate 2 exact rfl)) | (apply HQ.pickT; (iterate 4 exact rfl)))
              refine HQ.more rfl ?_
              refine HB.done (by kernel_rfl) ?_
              repeat (first | ((first | apply H.move | apply H.assign); (iterate 3 exact rfl)) | (first | apply H.region | apply H.nil | apply H.then_normal) | ((apply H.ar; (iterate 4 exact rfl)); (with_reducible apply wr_i64_n1; omega); exact rfl) | (apply H.in_normal))
              exact H.again (kk + 1, true) ⟨by show kk + 1 ≤ i; omega, fun h => by cases h⟩ (by show i - (kk + 1) < i - kk; omega) ⟨rfl, rfl, rfl, rfl, rfl, rfl, rfl, rfl, rfl, rfl, trivial⟩ rfl rfl
            | false =>
              have hno := hno rfl
              by_cases ha : y.act.tmod 6 = 0
              · have hsame := fun G => sameP_fn e G hyg hg1
                cases hb : Core.eqB y.p.core p1.core with
                | true =>
                  rw [hb] at hsame
                  clear hno hb
                  repeat (first | ((apply H.move); (iterate 3 exact rfl)) | (first | apply H.seq | apply H.region | apply H.nil | apply H.then_normal) | ((apply H.cmp); (iterate 5 exact rfl)) | (first | apply H.skip | apply H.block) | (apply H.cond_yes; exact rfl; (omega)))
                  refine H.drawB (by kernel_rfl) (by decide +kernel) (by first | exact blind_fn | exact blind_seq blind_fn | exact blind_seq (blind_seq blind_fn) | (repeat (first | exact blind_fn | refine blind_seq ?_ | refine blind_block ?_ | refine blind_loop ?_))) (S := [_]) rfl ?_
                  refine HB.quiet [(0, false), (1, false), (2, false), (3, false), (4, false), (5, false), (6, false), (7, false), (8, false), (9, false), (10, false), (11, false), (12, false), (13, false), (14, false), (15, false)] 4 (by kernel_rfl) ?_
                  repeat (first | ((apply HQ.move); (iterate 3 exact rfl)) | (apply HQ.fieldAddr; (iterate 3 exact rfl); exact inferInstance; exact rfl) | ((apply HQ.cmp); (iterate 5 exact rfl)) | (apply HQ.gyes; (iterate 3 exact rfl); (assumption)) | (refine HQ.index_slice rfl rfl rfl rfl hkx rfl ?_) | (refine HQ.load1 rfl rfl rfl (rda _) rfl ?_) | (refine HQ.rem rfl rfl rfl (by decide) rfl rfl ?_) | (refine HQ.loadN (ls := y.p.vals) rfl rfl rfl (rdp _) rfl rfl ?_) | (refine HQ.loadN (ls := p1.vals) rfl rfl rfl (Rd.ofRow (by repeat (first | exact .here _ _ _ | apply At.there))) rfl rfl ?_))
                  refine HQ.more rfl ?_
                  refine HB.ev1 (i := 16) (by kernel_rfl) rfl ?_
                  repeat (first | (apply H.nil) | (refine H.callR rfl rfl rfl (hsame _) ?_))
                  refine H.on0 rfl ?_
                  refine HB.quiet [(17, false), (18, false), (19, false)] 0 (by kernel_rfl) ?_
                  repeat (first | ((apply HQ.assign); (iterate 3 exact rfl)) | (apply HQ.pickT; (iterate 4 exact rfl)) | ((apply HQ.pickF); (iterate 4 exact rfl)))
                  refine HQ.more rfl ?_
                  refine HB.done (by kernel_rfl) ?_
                  repeat (first | ((first | apply H.move | apply H.assign); (iterate 3 exact rfl)) | (first | apply H.region | apply H.nil | apply H.then_normal) | ((apply H.ar; (iterate 4 exact rfl)); (with_reducible apply wr_i64_n1; omega); exact rfl) | (apply H.in_normal))
                  exact H.again (kk + 1, true) ⟨by show kk + 1 ≤ i; omega, fun h => by cases h⟩ (by show i - (kk + 1) < i - kk; omega) ⟨rfl, rfl, rfl, rfl, rfl, rfl, rfl, rfl, rfl, rfl, trivial⟩ rfl rfl
                | false =>
                  rw [hb] at hsame
                  have hno2 : ∀ k' y, k' < kk + 1 → xs[k']? = some y → y.act.tmod 6 = 0 → y.p.core ≠ p1.core := fun k' z hk' hz haz => by
                    by_cases e1 : k' = kk
                    · subst e1
                      rw [hy] at hz
                      cases hz
                      intro e2
                      rw [e2, Core.eqB_refl] at hb
                      cases hb
                    · exact hno k' z (by omega) hz haz
                  clear hno hb
                  repeat (first | ((apply H.move); (iterate 3 exact rfl)) | (first | apply H.seq | apply H.region | apply H.nil | apply H.then_normal) | ((apply H.cmp); (iterate 5 exact rfl)) | (first | apply H.skip | apply H.block) | (apply H.cond_yes; exact rfl; (omega)))
                  refine H.drawB (by kernel_rfl) (by decide +kernel) (by first | exact blind_fn | exact blind_seq blind_fn | exact blind_seq (blind_seq blind_fn) | (repeat (first | exact blind_fn | refine blind_seq ?_ | refine blind_block ?_ | refine blind_loop ?_))) (S := [_]) rfl ?_
                  refine HB.quiet [(0, false), (1, false), (2, false), (3, false), (4, false), (5, false), (6, false), (7, false), (8, false), (9, false), (10, false), (11, false), (12, false), (13, false), (14, false), (15, false)] 4 (by kernel_rfl) ?_
                  repeat (first | ((apply HQ.move); (iterate 3 exact rfl)) | (apply HQ.fieldAddr; (iterate 3 exact rfl); exact inferInstance; exact rfl) | ((apply HQ.cmp); (iterate 5 exact rfl)) | (apply HQ.gyes; (iterate 3 exact rfl); (assumption)) | (refine HQ.index_slice rfl rfl rfl rfl hkx rfl ?_) | (refine HQ.load1 rfl rfl rfl (rda _) rfl ?_) | (refine HQ.rem rfl rfl rfl (by decide) rfl rfl ?_) | (refine HQ.loadN (ls := y.p.vals) rfl rfl rfl (rdp _) rfl rfl ?_) | (refine HQ.loadN (ls := p1.vals) rfl rfl rfl (Rd.ofRow (by repeat (first | exact .here _ _ _ | apply At.there))) rfl rfl ?_))
                  refine HQ.more rfl ?_
                  refine HB.ev1 (i := 16) (by kernel_rfl) rfl ?_
                  repeat (first | (apply H.nil) | (refine H.callR rfl rfl rfl (hsame _) ?_))
                  refine H.on0 rfl ?_
                  refine HB.quiet [(17, false), (18, false), (19, false)] 0 (by kernel_rfl) ?_
                  repeat (first | ((apply HQ.assign); (iterate 3 exact rfl)) | (apply HQ.pickT; (iterate 4 exact rfl)) | ((apply HQ.pickF); (iterate 4 exact rfl)))
                  refine HQ.more rfl ?_
                  refine HB.done (by kernel_rfl) ?_
                  repeat (first | ((first | apply H.move | apply H.assign); (iterate 3 exact rfl)) | (first | apply H.region | apply H.nil | apply H.then_normal) | ((apply H.ar; (iterate 4 exact rfl)); (with_reducible apply wr_i64_n1; omega); exact rfl) | (apply H.in_normal))
                  exact H.again (kk + 1, false) ⟨by show kk + 1 ≤ i; omega, fun _ => hno2⟩ (by show i - (kk + 1) < i - kk; omega) ⟨rfl, rfl, rfl, rfl, rfl, rfl, rfl, rfl, rfl, rfl, trivial⟩ rfl rfl
              · have hno2 : ∀ k' y, k' < kk + 1 → xs[k']? = some y → y.act.tmod 6 = 0 → y.p.core ≠ p1.core := fun k' z hk' hz haz => by
                  by_cases e1 : k' = kk
                  · subst e1
                    rw [hy] at hz
                    cases hz
                    exact absurd haz ha
                  · exact hno k' z (by omega) hz haz
                clear hno
                repeat (first | ((apply H.move); (iterate 3 exact rfl)) | (first | apply H.seq | apply H.region | apply H.nil | apply H.then_normal) | ((apply H.cmp); (iterate 5 exact rfl)) | (first | apply H.skip | apply H.block) | (apply H.cond_yes; exact rfl; (omega)))
                refine H.drawB (by kernel_rfl) (by decide +kernel) (by first | exact blind_fn | exact blind_seq blind_fn | exact blind_seq (blind_seq blind_fn) | (repeat (first | exact blind_fn | refine blind_seq ?_ | refine blind_block ?_ | refine blind_loop ?_))) (S := [_]) rfl ?_
                refine HB.quiet [(0, false), (1, false), (2, false), (3, false), (4, false), (5, false), (6, false), (7, false), (8, false), (9, false), (10, false), (11, false), (12, false), (13, false), (14, false), (15, false)] 4 (by kernel_rfl) ?_
                repeat (first | ((apply HQ.move); (iterate 3 exact rfl)) | (apply HQ.fieldAddr; (iterate 3 exact rfl); exact inferInstance; exact rfl) | ((apply HQ.cmp); (iterate 5 exact rfl)) | (apply HQ.pass; (iterate 2 exact rfl)) | (apply HQ.gno; (iterate 3 exact rfl); (assumption)) | (refine HQ.index_slice rfl rfl rfl rfl hkx rfl ?_) | (refine HQ.load1 rfl rfl rfl (rda _) rfl ?_) | (refine HQ.rem rfl rfl rfl (by decide) rfl rfl ?_))
                refine HQ.more rfl ?_
                refine HB.ev1 (i := 16) (by kernel_rfl) rfl ?_
                repeat (first | (apply H.nil) | (apply H.pass; (iterate 2 exact rfl)))
                refine H.on0 rfl ?_
                refine HB.quiet [(17, false), (18, false), (19, false)] 0 (by kernel_rfl) ?_
                repeat (first | ((apply HQ.assign); (iterate 3 exact rfl)) | ((apply HQ.pickF); (iterate 4 exact rfl)))
                refine HQ.more rfl ?_
                refine HB.done (by kernel_rfl) ?_
                repeat (first | ((first | apply H.move | apply H.assign); (iterate 3 exact rfl)) | (first | apply H.region | apply H.nil | apply H.then_normal) | ((apply H.ar; (iterate 4 exact rfl)); (with_reducible apply wr_i64_n1; omega); exact rfl) | (apply H.in_normal))
                exact H.again (kk + 1, false) ⟨by show kk + 1 ≤ i; omega, fun _ => hno2⟩ (by show i - (kk + 1) < i - kk; omega) ⟨rfl, rfl, rfl, rfl, rfl, rfl, rfl, rfl, rfl, rfl, trivial⟩ rfl rfl
          · cases t with
            | false => exact absurd hc0 (hno rfl k0 y0 (by omega) hy0 ha0)
            | true =>
              clear hno
              repeat (first | (refine H.not (c := false) rfl rfl rfl rfl ?_) | ((apply H.move); (iterate 3 exact rfl)) | (first | apply H.seq | apply H.region | apply H.nil | apply H.then_normal) | ((apply H.cmp); (iterate 5 exact rfl)) | (first | apply H.then_exit | apply H.exit | apply H.in_hit | apply H.loop_exit) | (apply H.cond_no; exact rfl; (omega)))
              refine H.front (x := netH _ _ _) (by repeat (first | exact .here _ _ | apply Pull.there)) ?_
              refine H.callR rfl rfl rfl (netLen_fn _ _ _ nb N1) ?_
              repeat (first | ((first | apply H.move | apply H.assign); (iterate 3 exact rfl)) | (first | apply H.seq | apply H.region | apply H.nil | apply H.then_normal) | ((apply H.cmp); (iterate 5 exact rfl)) | ((apply H.ar; (iterate 4 exact rfl)); (with_reducible apply wr_i64; omega); exact rfl) | ((apply H.pickF); (iterate 4 exact rfl)) | (first | apply H.skip | apply H.in_normal) | (apply H.cond_no; exact rfl; (omega)))
              refine H.drop (x := row pb _ _) (by repeat (first | exact .here _ _ | apply Pull.there)) ?_
              have hb1 := hacc.bal
              have hb2 := hacc.pos
              have hb3 := hacc.few
              refine H.front (x := netH _ _ _) (by repeat (first | exact .here _ _ | apply Pull.there)) ?_
              refine H.unpack fun ri hri => ?_
              have hmax : N1.row.length ≤ 256 := hri.2
              refine H.imp (netH_fold ri hri) ?_
              skip
              refine H.callR rfl rfl rfl (netLen_fn _ _ _ nb N1) ?_
              repeat (first | ((apply H.move); (iterate 3 exact rfl)) | ((apply H.cmp); (iterate 5 exact rfl)) | ((apply H.ar; (iterate 4 exact rfl)); (with_reducible apply wr_i64; omega); exact rfl) | (apply H.gno; (iterate 3 exact rfl); (omega)))
              refine H.callR rfl rfl rfl (netLen_fn _ _ _ nb N1) ?_
              repeat (first | ((first | apply H.move | apply H.assign); (iterate 3 exact rfl)) | (first | apply H.region | apply H.nil | apply H.then_normal) | ((apply H.cmp); (iterate 5 exact rfl)) | ((apply H.ar; (iterate 4 exact rfl)); (with_reducible apply wr_i64_n1; omega); exact rfl) | ((apply H.pickF); (iterate 4 exact rfl)) | (first | apply H.skip | apply H.in_normal) | (apply H.cond_no; exact rfl; (omega)))
              refine H.drop (x := row xb _ _) (by repeat (first | exact .here _ _ | apply Pull.there)) ?_
              exact H.again (i + 1, e, N1, put, gone + 1) ⟨by show i + 1 ≤ xs.length; omega, hle, hacc⟩ (by show xs.length - (i + 1) < xs.length - i; omega) ⟨rfl, rfl, rfl, rfl, rfl, trivial⟩ rfl rfl
        · rw [hgot]
          rw [← hN1] at hrow
          have hl1 := row_len hrow
          have hacc : Acc xs (i + 1) N1 put gone := hacc0.same hrow
          clear hgot hN1 hrow hp1 hf2
          repeat (first | ((apply H.move); (iterate 3 exact rfl)) | ((apply H.extract); (iterate 4 exact rfl)))
          refine H.alloc (ls := Pkt.zero.vals) rfl rfl rfl fun pb => ?_
          refine H.storeN (ls := Pkt.zero.vals) (vs := p1.vals) (ls' := p1.vals) rfl rfl rfl (allOne_mem rfl) rfl rfl (Nat.le_refl 14) (by repeat (first | exact .here _ _ _ | apply At.there)) ?_
          repeat (first | (refine H.not (c := true) rfl rfl rfl rfl ?_) | ((first | apply H.move | apply H.assign); (iterate 3 exact rfl)) | (first | apply H.seq | apply H.region | apply H.nil | apply H.then_normal) | (apply H.cond_true; exact rfl))
          refine H.front (x := netH _ _ _) (by repeat (first | exact .here _ _ | apply Pull.there)) ?_
          refine H.callR rfl rfl rfl (netLen_fn _ _ _ nb N1) ?_
          repeat (first | ((first | apply H.move | apply H.assign); (iterate 3 exact rfl)) | (first | apply H.region | apply H.nil | apply H.then_normal) | ((apply H.cmp); (iterate 5 exact rfl)) | ((apply H.ar; (iterate 4 exact rfl)); (with_reducible apply wr_i64_n1; omega); exact rfl) | (first | apply H.skip | apply H.then_exit | apply H.exit | apply H.in_hit) | (apply H.in_miss; exact rfl) | (apply H.cond_no; exact rfl; (omega)))
          refine H.drop (x := row pb _ _) (by repeat (first | exact .here _ _ | apply Pull.there)) ?_
          refine H.drop (x := row xb _ _) (by repeat (first | exact .here _ _ | apply Pull.there)) ?_
          exact H.again (i + 1, e, N1, put, gone) ⟨by show i + 1 ≤ xs.length; omega, hle, hacc⟩ (by show xs.length - (i + 1) < xs.length - i; omega) ⟨rfl, rfl, rfl, rfl, rfl, trivial⟩ rfl rfl
      · skip
        subst hp
        repeat (first | ((first | apply H.move | apply H.len_slice); (iterate 3 exact rfl)) | (first | apply H.seq | apply H.region | apply H.nil | apply H.then_normal) | ((apply H.cmp); (iterate 5 exact rfl)) | (first | apply H.skip | apply H.block) | (apply H.cond_yes; exact rfl; (omega)))
        refine H.index_slice rfl rfl rfl rfl hlt rfl ?_
        refine H.loadN (ls := x.vals) rfl rfl rfl (rd _) rfl rfl ?_
        refine H.alloc (ls := Stp.zero.vals) rfl rfl rfl fun xb => ?_
        refine H.storeN (ls := Stp.zero.vals) (vs := x.vals) (ls' := x.vals) rfl rfl rfl (allOne_mem rfl) rfl rfl (Nat.le_refl 17) (by repeat (first | exact .here _ _ _ | apply At.there)) ?_
        refine H.front (x := netH _ _ _) (by repeat (first | exact .here _ _ | apply Pull.there)) ?_
        repeat (first | ((apply H.move); (iterate 3 exact rfl)) | (first | apply H.seq | apply H.region | apply H.nil | apply H.then_normal))
        refine H.callR rfl rfl rfl (netLen_fn e _ e nb N) ?_
        repeat (first | ((apply H.assign); (iterate 3 exact rfl)) | (apply H.fieldAddr; (iterate 3 exact rfl); exact inferInstance; exact rfl) | (apply H.load1; (iterate 3 exact rfl); apply Rd1.ofRow; (repeat (first | exact .here _ _ _ | apply At.there)); (iterate 2 exact rfl)) | (first | apply H.seq | apply H.region | apply H.nil | apply H.then_normal))
        refine H.rem rfl rfl rfl (by decide) hr rfl ?_
        repeat (first | ((first | apply H.move | apply H.assign); (iterate 3 exact rfl)) | (apply H.fieldAddr; (iterate 3 exact rfl); exact inferInstance; exact rfl) | (apply H.load1; (iterate 3 exact rfl); apply Rd1.ofRow; (repeat (first | exact .here _ _ _ | apply At.there)); (iterate 2 exact rfl)) | (first | apply H.seq | apply H.region | apply H.nil | apply H.then_normal) | ((apply H.cmp); (iterate 5 exact rfl)) | (apply H.cond_true; exact rfl) | (apply H.cond_false; exact rfl) | (apply H.block))
        refine H.front (x := netH _ _ _) (by repeat (first | exact .here _ _ | apply Pull.there)) ?_
        refine H.call rfl rfl rfl (netDrop_fn e _ e nb N x.k) fun v f2 A' hrr => ?_
        obtain ⟨N1, rfl, hN1, hf2, rfl⟩ := hrr
        rw [hf2]
        rcases take_facts N.core x.k with ⟨q, hq, hgot, hlen1, hsub⟩ | ⟨hgot, hrow⟩
        · rw [hgot]
          rw [← hN1] at hlen1 hsub
          have hacc : Acc xs (i + 1) N1 put (gone + 1) := hacc0.less hlen1 hsub
          clear hgot hN1 hsub hlen1 hf2
          repeat (first | ((first | apply H.move | apply H.assign); (iterate 3 exact rfl)) | (first | apply H.seq | apply H.region | apply H.nil | apply H.then_normal) | ((apply H.ar; (iterate 4 exact rfl)); (with_reducible apply wr_i64; omega); exact rfl) | (apply H.cond_true; exact rfl) | (apply H.in_normal))
          have hb1 := hacc.bal
          have hb2 := hacc.pos
          have hb3 := hacc.few
          refine H.front (x := netH _ _ _) (by repeat (first | exact .here _ _ | apply Pull.there)) ?_
          refine H.unpack fun ri hri => ?_
          have hmax : N1.row.length ≤ 256 := hri.2
          refine H.imp (netH_fold ri hri) ?_
          skip
          refine H.callR rfl rfl rfl (netLen_fn _ _ _ nb N1) ?_
          repeat (first | ((apply H.move); (iterate 3 exact rfl)) | ((apply H.cmp); (iterate 5 exact rfl)) | ((apply H.ar; (iterate 4 exact rfl)); (with_reducible apply wr_i64; omega); exact rfl) | (apply H.gno; (iterate 3 exact rfl); (omega)))
          refine H.callR rfl rfl rfl (netLen_fn _ _ _ nb N1) ?_
          repeat (first | ((first | apply H.move | apply H.assign); (iterate 3 exact rfl)) | (first | apply H.region | apply H.nil | apply H.then_normal) | ((apply H.cmp); (iterate 5 exact rfl)) | ((apply H.ar; (iterate 4 exact rfl)); (with_reducible apply wr_i64_n1; omega); exact rfl) | ((apply H.pickF); (iterate 4 exact rfl)) | (first | apply H.skip | apply H.in_normal) | (apply H.cond_no; exact rfl; (omega)))
          refine H.drop (x := row xb _ _) (by repeat (first | exact .here _ _ | apply Pull.there)) ?_
          exact H.again (i + 1, e, N1, put, gone + 1) ⟨by show i + 1 ≤ xs.length; omega, hle, hacc⟩ (by show xs.length - (i + 1) < xs.length - i; omega) ⟨rfl, rfl, rfl, rfl, rfl, trivial⟩ rfl rfl
        · rw [hgot]
          rw [← hN1] at hrow
          have hacc : Acc xs (i + 1) N1 put gone := hacc0.same hrow
          clear hgot hN1 hrow hf2
          repeat (first | ((apply H.move); (iterate 3 exact rfl)) | (first | apply H.seq | apply H.region | apply H.nil | apply H.then_normal) | (apply H.cond_false; exact rfl) | (first | apply H.skip | apply H.in_normal))
          have hb1 := hacc.bal
          have hb2 := hacc.pos
          have hb3 := hacc.few
          refine H.front (x := netH _ _ _) (by repeat (first | exact .here _ _ | apply Pull.there)) ?_
          refine H.unpack fun ri hri => ?_
          have hmax : N1.row.length ≤ 256 := hri.2
          refine H.imp (netH_fold ri hri) ?_
          skip
          refine H.callR rfl rfl rfl (netLen_fn _ _ _ nb N1) ?_
          repeat (first | ((apply H.move); (iterate 3 exact rfl)) | ((apply H.cmp); (iterate 5 exact rfl)) | ((apply H.ar; (iterate 4 exact rfl)); (with_reducible apply wr_i64; omega); exact rfl) | (apply H.gno; (iterate 3 exact rfl); (omega)))
          refine H.callR rfl rfl rfl (netLen_fn _ _ _ nb N1) ?_
          repeat (first | ((first | apply H.move | apply H.assign); (iterate 3 exact rfl)) | (first | apply H.region | apply H.nil | apply H.then_normal) | ((apply H.cmp); (iterate 5 exact rfl)) | ((apply H.ar; (iterate 4 exact rfl)); (with_reducible apply wr_i64_n1; omega); exact rfl) | ((apply H.pickF); (iterate 4 exact rfl)) | (first | apply H.skip | apply H.in_normal) | (apply H.cond_no; exact rfl; (omega)))
          refine H.drop (x := row xb _ _) (by repeat (first | exact .here _ _ | apply Pull.there)) ?_
          exact H.again (i + 1, e, N1, put, gone) ⟨by show i + 1 ≤ xs.length; omega, hle, hacc⟩ (by show xs.length - (i + 1) < xs.length - i; omega) ⟨rfl, rfl, rfl, rfl, rfl, trivial⟩ rfl rfl
      · skip
        subst hp
        repeat (first | ((first | apply H.move | apply H.len_slice); (iterate 3 exact rfl)) | (first | apply H.seq | apply H.region | apply H.nil | apply H.then_normal) | ((apply H.cmp); (iterate 5 exact rfl)) | (first | apply H.skip | apply H.block) | (apply H.cond_yes; exact rfl; (omega)))
        refine H.index_slice rfl rfl rfl rfl hlt rfl ?_
        refine H.loadN (ls := x.vals) rfl rfl rfl (rd _) rfl rfl ?_
        refine H.alloc (ls := Stp.zero.vals) rfl rfl rfl fun xb => ?_
        refine H.storeN (ls := Stp.zero.vals) (vs := x.vals) (ls' := x.vals) rfl rfl rfl (allOne_mem rfl) rfl rfl (Nat.le_refl 17) (by repeat (first | exact .here _ _ _ | apply At.there)) ?_
        refine H.front (x := netH _ _ _) (by repeat (first | exact .here _ _ | apply Pull.there)) ?_
        repeat (first | ((apply H.move); (iterate 3 exact rfl)) | (first | apply H.seq | apply H.region | apply H.nil | apply H.then_normal))
        refine H.callR rfl rfl rfl (netLen_fn e _ e nb N) ?_
        repeat (first | ((apply H.assign); (iterate 3 exact rfl)) | (apply H.fieldAddr; (iterate 3 exact rfl); exact inferInstance; exact rfl) | (apply H.load1; (iterate 3 exact rfl); apply Rd1.ofRow; (repeat (first | exact .here _ _ _ | apply At.there)); (iterate 2 exact rfl)) | (first | apply H.seq | apply H.region | apply H.nil | apply H.then_normal))
        refine H.rem rfl rfl rfl (by decide) hr rfl ?_
        repeat (first | ((first | apply H.move | apply H.assign); (iterate 3 exact rfl)) | (apply H.fieldAddr; (iterate 3 exact rfl); exact inferInstance; exact rfl) | (apply H.load1; (iterate 3 exact rfl); apply Rd1.ofRow; (repeat (first | exact .here _ _ _ | apply At.there)); (iterate 2 exact rfl)) | (first | apply H.seq | apply H.region | apply H.nil | apply H.then_normal) | ((apply H.cmp); (iterate 5 exact rfl)) | (apply H.cond_true; exact rfl) | (apply H.cond_false; exact rfl) | (apply H.block))
        refine H.front (x := netH _ _ _) (by repeat (first | exact .here _ _ | apply Pull.there)) ?_
        refine H.call rfl rfl rfl (netTwice_fn e _ e nb N x.k (Le.refl e)) fun v f2 A' hrr => ?_
        obtain ⟨g, N1, rfl, hN1, hd1, hf2, rfl⟩ := hrr
        have hle : Le f f2 := by rw [hf2]; exact Le.trans hle (Le.un e g)
        rw [← hf2]
        clear hf2 hd1 rd
        rcases twice_facts N.core x.k with ⟨q, hq, hz, hrow⟩ | ⟨hz, hsame⟩
        · rw [← hN1] at hrow
          have hacc : Acc xs (i + 1) N1 (put + 1) gone := hacc0.more hrow (hacc0.org q hq).next
          rw [hz]
          clear hz hN1 hrow
          repeat (first | ((first | apply H.move | apply H.assign); (iterate 3 exact rfl)) | (first | apply H.seq | apply H.region | apply H.nil | apply H.then_normal) | ((apply H.cmp); (iterate 5 exact rfl)) | ((apply H.ar; (iterate 4 exact rfl)); (with_reducible apply wr_i64; omega); exact rfl) | (apply H.cond_true; exact rfl) | (apply H.in_normal))
          have hb1 := hacc.bal
          have hb2 := hacc.pos
          have hb3 := hacc.few
          refine H.front (x := netH _ _ _) (by repeat (first | exact .here _ _ | apply Pull.there)) ?_
          refine H.unpack fun ri hri => ?_
          have hmax : N1.row.length ≤ 256 := hri.2
          refine H.imp (netH_fold ri hri) ?_
          skip
          refine H.callR rfl rfl rfl (netLen_fn _ _ _ nb N1) ?_
          repeat (first | ((apply H.move); (iterate 3 exact rfl)) | ((apply H.cmp); (iterate 5 exact rfl)) | ((apply H.ar; (iterate 4 exact rfl)); (with_reducible apply wr_i64; omega); exact rfl) | (apply H.gno; (iterate 3 exact rfl); (omega)))
          refine H.callR rfl rfl rfl (netLen_fn _ _ _ nb N1) ?_
          repeat (first | ((first | apply H.move | apply H.assign); (iterate 3 exact rfl)) | (first | apply H.region | apply H.nil | apply H.then_normal) | ((apply H.cmp); (iterate 5 exact rfl)) | ((apply H.ar; (iterate 4 exact rfl)); (with_reducible apply wr_i64_n1; omega); exact rfl) | ((apply H.pickF); (iterate 4 exact rfl)) | (first | apply H.skip | apply H.in_normal) | (apply H.cond_no; exact rfl; (omega)))
          refine H.drop (x := row xb _ _) (by repeat (first | exact .here _ _ | apply Pull.there)) ?_
          exact H.again (i + 1, f2, N1, put + 1, gone) ⟨by show i + 1 ≤ xs.length; omega, hle, hacc⟩ (by show xs.length - (i + 1) < xs.length - i; omega) ⟨rfl, rfl, rfl, rfl, rfl, trivial⟩ rfl rfl
        · have hrow : N1.core.row = N.core.row := by rw [hN1, hsame]
          have hacc : Acc xs (i + 1) N1 put gone := hacc0.same hrow
          clear hrow hsame hN1
          generalize (N.core.twice x.k).1 = z at hz ⊢
          repeat (first | ((apply H.move); (iterate 3 exact rfl)) | (first | apply H.seq | apply H.region | apply H.nil | apply H.then_normal) | ((apply H.cmp); (iterate 5 exact rfl)) | (first | apply H.skip | apply H.in_normal) | (apply H.cond_no; exact rfl; (assumption)))
          have hb1 := hacc.bal
          have hb2 := hacc.pos
          have hb3 := hacc.few
          refine H.front (x := netH _ _ _) (by repeat (first | exact .here _ _ | apply Pull.there)) ?_
          refine H.unpack fun ri hri => ?_
          have hmax : N1.row.length ≤ 256 := hri.2
          refine H.imp (netH_fold ri hri) ?_
          skip
          refine H.callR rfl rfl rfl (netLen_fn _ _ _ nb N1) ?_
          repeat (first | ((apply H.move); (iterate 3 exact rfl)) | ((apply H.cmp); (iterate 5 exact rfl)) | ((apply H.ar; (iterate 4 exact rfl)); (with_reducible apply wr_i64; omega); exact rfl) | (apply H.gno; (iterate 3 exact rfl); (omega)))
          refine H.callR rfl rfl rfl (netLen_fn _ _ _ nb N1) ?_
          repeat (first | ((first | apply H.move | apply H.assign); (iterate 3 exact rfl)) | (first | apply H.region | apply H.nil | apply H.then_normal) | ((apply H.cmp); (iterate 5 exact rfl)) | ((apply H.ar; (iterate 4 exact rfl)); (with_reducible apply wr_i64_n1; omega); exact rfl) | ((apply H.pickF); (iterate 4 exact rfl)) | (first | apply H.skip | apply H.in_normal) | (apply H.cond_no; exact rfl; (omega)))
          refine H.drop (x := row xb _ _) (by repeat (first | exact .here _ _ | apply Pull.there)) ?_
          exact H.again (i + 1, f2, N1, put, gone) ⟨by show i + 1 ≤ xs.length; omega, hle, hacc⟩ (by show xs.length - (i + 1) < xs.length - i; omega) ⟨rfl, rfl, rfl, rfl, rfl, trivial⟩ rfl rfl
      · skip
        subst hp
        repeat (first | ((first | apply H.move | apply H.len_slice); (iterate 3 exact rfl)) | (first | apply H.seq | apply H.region | apply H.nil | apply H.then_normal) | ((apply H.cmp); (iterate 5 exact rfl)) | (first | apply H.skip | apply H.block) | (apply H.cond_yes; exact rfl; (omega)))
        refine H.index_slice rfl rfl rfl rfl hlt rfl ?_
        refine H.loadN (ls := x.vals) rfl rfl rfl (rd _) rfl rfl ?_
        refine H.alloc (ls := Stp.zero.vals) rfl rfl rfl fun xb => ?_
        refine H.storeN (ls := Stp.zero.vals) (vs := x.vals) (ls' := x.vals) rfl rfl rfl (allOne_mem rfl) rfl rfl (Nat.le_refl 17) (by repeat (first | exact .here _ _ _ | apply At.there)) ?_
        refine H.front (x := netH _ _ _) (by repeat (first | exact .here _ _ | apply Pull.there)) ?_
        repeat (first | ((apply H.move); (iterate 3 exact rfl)) | (first | apply H.seq | apply H.region | apply H.nil | apply H.then_normal))
        refine H.callR rfl rfl rfl (netLen_fn e _ e nb N) ?_
        repeat (first | ((apply H.assign); (iterate 3 exact rfl)) | (apply H.fieldAddr; (iterate 3 exact rfl); exact inferInstance; exact rfl) | (apply H.load1; (iterate 3 exact rfl); apply Rd1.ofRow; (repeat (first | exact .here _ _ _ | apply At.there)); (iterate 2 exact rfl)) | (first | apply H.seq | apply H.region | apply H.nil | apply H.then_normal))
        refine H.rem rfl rfl rfl (by decide) hr rfl ?_
        repeat (first | ((first | apply H.move | apply H.assign); (iterate 3 exact rfl)) | (apply H.fieldAddr; (iterate 3 exact rfl); exact inferInstance; exact rfl) | (apply H.load1; (iterate 3 exact rfl); apply Rd1.ofRow; (repeat (first | exact .here _ _ _ | apply At.there)); (iterate 2 exact rfl)) | (first | apply H.seq | apply H.region | apply H.nil | apply H.then_normal) | ((apply H.cmp); (iterate 5 exact rfl)) | (apply H.cond_true; exact rfl) | (apply H.cond_false; exact rfl) | (apply H.block))
        refine H.front (x := netH _ _ _) (by repeat (first | exact .here _ _ | apply Pull.there)) ?_
        refine H.call rfl rfl rfl (netCut_fn e _ e nb N x.k x.j) fun v f2 A' hrr => ?_
        obtain ⟨N2, rfl, hN2, hf2, rfl⟩ := hrr
        rw [hf2]
        rcases cut_facts N.core x.k x.j with ⟨hz, hrow, hput⟩ | ⟨hz, hsame⟩
        · rw [hz]
          rw [← hN2] at hrow hput
          have hold : Hold (N2.core.row = N.core.row ∧ N2.core.put (pairPkt x.k x.j).core = (0, N2.core)) := ⟨⟨hrow, hput⟩⟩
          clear hrow hput hz hN2 hf2
          repeat (first | (refine H.build (out := (pairPkt x.k x.j).vals) rfl rfl rfl rfl rfl ?_) | ((apply H.move); (iterate 3 exact rfl)) | (apply H.fieldAddr; (iterate 3 exact rfl); exact inferInstance; exact rfl) | (apply H.load1; (iterate 3 exact rfl); apply Rd1.ofRow; (repeat (first | exact .here _ _ _ | apply At.there)); (iterate 2 exact rfl)) | ((apply H.cmp); (iterate 5 exact rfl)) | (apply H.gyes; (iterate 3 exact rfl); (omega)))
          refine H.call rfl rfl rfl (netPut_fn e _ e nb N2 (Le.refl e) (pairPkt_good e x.k x.j)) fun v f3 A' hrr => ?_
          obtain ⟨g, N1, hv, hN1, hd1, hf3, rfl⟩ := hrr
          obtain ⟨⟨hrow, hput⟩⟩ := hold
          rw [hput] at hv hN1
          have hv : v = .int .i64 0 := hv
          subst hv
          have hrow1 : N1.core.row = N.core.row := by rw [hN1]; exact hrow
          have hl1 := row_len hrow1
          have hacc : Acc xs (i + 1) N1 put gone := hacc0.same hrow1
          have hle : Le f f3 := by rw [hf3]; exact Le.trans hle (Le.un e g)
          rw [← hf3]
          clear hrow1 hN1 hrow hput hf3 hd1 rd
          repeat (first | ((apply H.move); (iterate 3 exact rfl)) | ((apply H.cmp); (iterate 5 exact rfl)) | (apply H.gno; (iterate 3 exact rfl); (omega)))
          refine H.callR rfl rfl rfl (netLen_fn _ _ _ nb N1) ?_
          repeat (first | ((apply H.move); (iterate 3 exact rfl)) | (first | apply H.seq | apply H.region | apply H.nil | apply H.then_normal) | ((apply H.cmp); (iterate 5 exact rfl)) | (apply H.pickT; (iterate 4 exact rfl)) | ((apply H.pickF); (iterate 4 exact rfl)) | (first | apply H.skip | apply H.in_normal) | (apply H.cond_no; exact rfl; (omega)))
          have hb1 := hacc.bal
          have hb2 := hacc.pos
          have hb3 := hacc.few
          refine H.front (x := netH _ _ _) (by repeat (first | exact .here _ _ | apply Pull.there)) ?_
          refine H.unpack fun ri hri => ?_
          have hmax : N1.row.length ≤ 256 := hri.2
          refine H.imp (netH_fold ri hri) ?_
          skip
          refine H.callR rfl rfl rfl (netLen_fn _ _ _ nb N1) ?_
          repeat (first | ((apply H.move); (iterate 3 exact rfl)) | ((apply H.cmp); (iterate 5 exact rfl)) | ((apply H.ar; (iterate 4 exact rfl)); (with_reducible apply wr_i64; omega); exact rfl) | (apply H.gno; (iterate 3 exact rfl); (omega)))
          refine H.callR rfl rfl rfl (netLen_fn _ _ _ nb N1) ?_
          repeat (first | ((first | apply H.move | apply H.assign); (iterate 3 exact rfl)) | (first | apply H.region | apply H.nil | apply H.then_normal) | ((apply H.cmp); (iterate 5 exact rfl)) | ((apply H.ar; (iterate 4 exact rfl)); (with_reducible apply wr_i64_n1; omega); exact rfl) | ((apply H.pickF); (iterate 4 exact rfl)) | (first | apply H.skip | apply H.in_normal) | (apply H.cond_no; exact rfl; (omega)))
          refine H.drop (x := row xb _ _) (by repeat (first | exact .here _ _ | apply Pull.there)) ?_
          exact H.again (i + 1, f3, N1, put, gone) ⟨by show i + 1 ≤ xs.length; omega, hle, hacc⟩ (by show xs.length - (i + 1) < xs.length - i; omega) ⟨rfl, rfl, rfl, rfl, rfl, trivial⟩ rfl rfl
        · have hrow : N2.core.row = N.core.row := by rw [hN2, hsame]
          have hacc : Acc xs (i + 1) N2 put gone := hacc0.same hrow
          clear hrow hsame hN2 hf2
          generalize (N.core.cut x.k x.j).1 = z at hz ⊢
          obtain ⟨N1, hN1⟩ : ∃ N1 : NetM, N1 = N2 := ⟨_, rfl⟩
          rw [← hN1] at hacc ⊢
          repeat (first | ((apply H.move); (iterate 3 exact rfl)) | (first | apply H.seq | apply H.region | apply H.nil | apply H.then_normal) | ((first | apply H.cmp | apply H.build); (iterate 5 exact rfl)) | (apply H.pass; (iterate 2 exact rfl)) | ((apply H.pickF); (iterate 4 exact rfl)) | (apply H.cond_false; exact rfl) | (first | apply H.skip | apply H.in_normal) | (apply H.gno; (iterate 3 exact rfl); (assumption)))
          have hb1 := hacc.bal
          have hb2 := hacc.pos
          have hb3 := hacc.few
          refine H.front (x := netH _ _ _) (by repeat (first | exact .here _ _ | apply Pull.there)) ?_
          refine H.unpack fun ri hri => ?_
          have hmax : N1.row.length ≤ 256 := hri.2
          refine H.imp (netH_fold ri hri) ?_
          skip
          refine H.callR rfl rfl rfl (netLen_fn _ _ _ nb N1) ?_
          repeat (first | ((apply H.move); (iterate 3 exact rfl)) | ((apply H.cmp); (iterate 5 exact rfl)) | ((apply H.ar; (iterate 4 exact rfl)); (with_reducible apply wr_i64; omega); exact rfl) | (apply H.gno; (iterate 3 exact rfl); (omega)))
          refine H.callR rfl rfl rfl (netLen_fn _ _ _ nb N1) ?_
          repeat (first | ((first | apply H.move | apply H.assign); (iterate 3 exact rfl)) | (first | apply H.region | apply H.nil | apply H.then_normal) | ((apply H.cmp); (iterate 5 exact rfl)) | ((apply H.ar; (iterate 4 exact rfl)); (with_reducible apply wr_i64_n1; omega); exact rfl) | ((apply H.pickF); (iterate 4 exact rfl)) | (first | apply H.skip | apply H.in_normal) | (apply H.cond_no; exact rfl; (omega)))
          refine H.drop (x := row xb _ _) (by repeat (first | exact .here _ _ | apply Pull.there)) ?_
          exact H.again (i + 1, e, N1, put, gone) ⟨by show i + 1 ≤ xs.length; omega, hle, hacc⟩ (by show xs.length - (i + 1) < xs.length - i; omega) ⟨rfl, rfl, rfl, rfl, rfl, trivial⟩ rfl rfl
      · subst hp
        repeat (first | ((first | apply H.move | apply H.len_slice); (iterate 3 exact rfl)) | (first | apply H.seq | apply H.region | apply H.nil | apply H.then_normal) | ((apply H.cmp); (iterate 5 exact rfl)) | (first | apply H.skip | apply H.block) | (apply H.cond_yes; exact rfl; (omega)))
        refine H.index_slice rfl rfl rfl rfl hlt rfl ?_
        refine H.loadN (ls := x.vals) rfl rfl rfl (rd _) rfl rfl ?_
        refine H.alloc (ls := Stp.zero.vals) rfl rfl rfl fun xb => ?_
        refine H.storeN (ls := Stp.zero.vals) (vs := x.vals) (ls' := x.vals) rfl rfl rfl (allOne_mem rfl) rfl rfl (Nat.le_refl 17) (by repeat (first | exact .here _ _ _ | apply At.there)) ?_
        refine H.front (x := netH _ _ _) (by repeat (first | exact .here _ _ | apply Pull.there)) ?_
        repeat (first | ((apply H.move); (iterate 3 exact rfl)) | (first | apply H.seq | apply H.region | apply H.nil | apply H.then_normal))
        refine H.callR rfl rfl rfl (netLen_fn e _ e nb N) ?_
        repeat (first | ((apply H.assign); (iterate 3 exact rfl)) | (apply H.fieldAddr; (iterate 3 exact rfl); exact inferInstance; exact rfl) | (apply H.load1; (iterate 3 exact rfl); apply Rd1.ofRow; (repeat (first | exact .here _ _ _ | apply At.there)); (iterate 2 exact rfl)) | (first | apply H.seq | apply H.region | apply H.nil | apply H.then_normal))
        refine H.rem rfl rfl rfl (by decide) hr rfl ?_
        repeat (first | ((first | apply H.move | apply H.assign); (iterate 3 exact rfl)) | (first | apply H.seq | apply H.region | apply H.nil | apply H.then_normal) | ((apply H.cmp); (iterate 5 exact rfl)) | (apply H.cond_false; exact rfl) | (apply H.block))
        refine H.front (x := netH _ _ _) (by repeat (first | exact .here _ _ | apply Pull.there)) ?_
        refine H.callR rfl rfl rfl (netHeal_fn e _ e nb N) ?_
        obtain ⟨N1, hN1⟩ : ∃ N1 : NetM, N1 = ⟨N.row, fun _ => false⟩ := ⟨_, rfl⟩
        rw [← hN1]
        have hacc : Acc xs (i + 1) N1 put gone := hacc0.same (by rw [hN1]; rfl)
        have hb1 := hacc.bal
        have hb2 := hacc.pos
        have hb3 := hacc.few
        refine H.front (x := netH _ _ _) (by repeat (first | exact .here _ _ | apply Pull.there)) ?_
        refine H.unpack fun ri hri => ?_
        have hmax : N1.row.length ≤ 256 := hri.2
        refine H.imp (netH_fold ri hri) ?_
        repeat (first | ((apply H.move); (iterate 3 exact rfl)) | (first | apply H.seq | apply H.region | apply H.nil | apply H.then_normal) | (apply H.in_normal))
        refine H.callR rfl rfl rfl (netLen_fn _ _ _ nb N1) ?_
        repeat (first | ((apply H.move); (iterate 3 exact rfl)) | ((apply H.cmp); (iterate 5 exact rfl)) | ((apply H.ar; (iterate 4 exact rfl)); (with_reducible apply wr_i64; omega); exact rfl) | (apply H.gno; (iterate 3 exact rfl); (omega)))
        refine H.callR rfl rfl rfl (netLen_fn _ _ _ nb N1) ?_
        repeat (first | ((first | apply H.move | apply H.assign); (iterate 3 exact rfl)) | (first | apply H.region | apply H.nil | apply H.then_normal) | ((apply H.cmp); (iterate 5 exact rfl)) | ((apply H.ar; (iterate 4 exact rfl)); (with_reducible apply wr_i64_n1; omega); exact rfl) | ((apply H.pickF); (iterate 4 exact rfl)) | (first | apply H.skip | apply H.in_normal) | (apply H.cond_no; exact rfl; (omega)))
        refine H.drop (x := row xb _ _) (by repeat (first | exact .here _ _ | apply Pull.there)) ?_
        exact H.again (i + 1, e, N1, put, gone) ⟨by show i + 1 ≤ xs.length; omega, hle, hacc⟩ (by show xs.length - (i + 1) < xs.length - i; omega) ⟨rfl, rfl, rfl, rfl, rfl, trivial⟩ rfl rfl
    · skip
      repeat (first | ((first | apply H.move | apply H.len_slice); (iterate 3 exact rfl)) | (first | apply H.seq | apply H.region | apply H.nil | apply H.then_normal) | ((apply H.cmp); (iterate 5 exact rfl)) | (first | apply H.then_exit | apply H.exit | apply H.in_hit | apply H.loop_exit) | (apply H.cond_no; exact rfl; (omega)))
      refine H.callR rfl rfl rfl (works_fn e _) ?_
      refine H.weaken hle ?_
      refine H.drop (x := netH _ _ _) (by repeat (first | exact .here _ _ | apply Pull.there)) ?_
      repeat (first | ((apply H.assign); (iterate 3 exact rfl)) | (first | apply H.nil | apply H.then_normal) | (apply H.ret))
      exact H.ret1 rfl rfl (fun _ h => h) ⟨rfl, rfl, rfl⟩
end
end Go.Proofs.Ytcaofnfemogleaa
