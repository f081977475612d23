/-
  Texts that belong together, laid into one file: V17, T11, V18, V19, V20, V21, V22, V23, V24, V25, T12.
-/
import Derived.Test.YtccfmfehfhfhhaaQ4
namespace Go.Proofs.Ytccfmfehfhfhhaa
open Go Go.Fw Go.RowKit Go.Proofs
set_option linter.unusedVariables false
set_option linter.unusedSimpArgs false

set_option maxRecDepth 100000 in
theorem copied_step {w00 w0 : World} {E : List Ent} {q : NP} {e : Ent} {L : List (Nat × Obj)} {fuel : Nat} (hT : TI E) (hl : E.length ≤ 129) (hE0 : EAt w00 E)
    (ih : ∀ {w : World} (q : NP) (e : Ent) (L : List (Nat × Obj)), ent E q = some e → 8 < fuel + q.length → Sep w00 L w → Ret Try.prog 58 #[ptr e.b] w fun v w' => ∃ b' E' d', v = ptr b' ∧ CPs E (fun r => ∃ t, r = q ++ t) E' ∧ ent E' q = some d' ∧ d'.b = b' ∧ Sep w00 (blks E' ++ L) w')
    (he : ent E q = some e) (hfu : 8 < fuel + 1 + q.length) (M : Sep w00 L w0) : Ret Try.prog 58 #[ptr e.b] w0 fun v w' => ∃ b' E' d', v = ptr b' ∧ CPs E (fun r => ∃ t, r = q ++ t) E' ∧ ent E' q = some d' ∧ d'.b = b' ∧ Sep w00 (blks E' ++ L) w' := by
  obtain ⟨hem, hep⟩ := ent_mem he
  have hbe := hE0.bytes hT hem
  have hdl := (hT.dat e hem).2
  refine Ret.of_W Try.func58 rfl Try.ntmps58 rfl ?_
  refine W.seq ?_
  refine W.sub [(0, _)] ⟨rfl, trivial⟩ ?_
  refine W.reg [(0, false)] (by kernel_rfl) ?_
  intro K hK
  refine x_assign rfl rfl rfl rfl ?_
  refine Ex.done (hK _ _ ?_)
  refine At.then_n ?_
  refine W.seq ?_
  refine W.seq ?_
  refine W.sub [(0, _)] ⟨rfl, trivial⟩ ?_
  refine W.reg [(0, false), (1, false), (2, false), (3, false), (4, false)] (by kernel_rfl) ?_
  intro K hK
  refine x_move rfl rfl rfl rfl ?_
  refine x_nil rfl rfl rfl rfl rfl ?_
  refine x_fa rfl rfl rfl fo82_0 rfl ?_
  refine x_ld rfl rfl rfl Try.underlying4 rfl rfl ((hE0.new M.frm).dir hem) ?_
  refine x_not _ rfl rfl rfl rfl rfl ?_
  refine Ex.done (hK _ _ ?_)
  refine At.then_n ?_
  refine W.cond rfl (fun hco1 => ?_) (fun hco1 => ?_)
  · try simp only [decide_eq_true_eq, decide_eq_false_iff_not, Bool.not_eq_true', Bool.not_eq_false', beq_iff_eq, bne_iff_ne, ne_eq, Bool.not_eq_eq_eq_not, Bool.not_true, Bool.not_false, beq_eq_false_iff_ne, bne_eq_false_iff_eq, Bool.not_not, gt_iff_lt, ge_iff_le] at hco1
    refine W.seq ?_
    refine W.sub [(0, _)] ⟨rfl, trivial⟩ ?_
    refine W.reg [(0, false), (1, false), (2, false), (3, false), (4, true), (5, false), (6, true), (7, false)] (by kernel_rfl) ?_
    intro K hK
    refine x_move rfl rfl rfl rfl ?_
    refine x_nil rfl rfl rfl rfl rfl ?_
    refine x_fa rfl rfl rfl fo82_2 rfl ?_
    refine x_ld rfl rfl rfl Try.underlying23 rfl rfl ((hE0.new M.frm).data hem) ?_
    refine x_call rfl rfl rfl rfl rfl en43 (clone_c (hbe.new M.frm) (by omega)) ?_
    rintro v1 w1 ⟨L1, M1, hb1⟩
    have M := M.grow M1
    obtain ⟨p1, c1, rfl⟩ := hb1.shape
    refine ⟨trivial, ?_⟩
    refine x_build [_, _, _] rfl rfl rfl pl82 ze82 rfl rfl rfl ?_
    refine x_box [_, _, _] rfl rfl rfl rfl rfl ?_
    intro bbx1 wbx1 hbbx1 hwbx1
    have M := M.acons hbbx1 hwbx1
    refine ⟨trivial, ?_⟩
    refine x_assign rfl rfl rfl rfl ?_
    refine Ex.done (hK _ _ ?_)
    refine At.then_n ?_
    refine W.ret ?_
    refine At.then_r ?_
    refine At.ret1 (.tmp 2) rfl ⟨rfl, trivial⟩ ?_
    refine ⟨bbx1, [⟨q, bbx1, e.dir, 0, .map #[] 0, .slice p1 e.data.length c1, L1, e.data⟩], _, rfl, (CPs.one he hb1 (hT.dd e hem)).same (fun r hr => ⟨[], by rw [hr]; simp⟩) (fun r ⟨t, ht⟩ hr => ?_), ent_of (by simp) (List.mem_singleton.2 rfl), rfl, ?_⟩
    · cases t with
      | nil => exact absurd (by simpa using ht) hr
      | cons n t =>
        cases hk : ent E r with
        | none => rfl
        | some k =>
          obtain ⟨d, h1, h2⟩ := hT.pre (q := q) (r := n :: t) (e := k) (by rw [← hk, ht])
          rw [he] at h1; cases h1
          rw [h2 (by simp)] at hco1; cases hco1
    · simp only [blks, Ent.blks, Ent.mp, Ent.hd, Ent.kv, hco1, Bool.false_eq_true, if_false, List.flatMap_cons, List.flatMap_nil, List.append_nil, List.nil_append, List.cons_append]
      exact M.perm (List.Perm.cons _ List.perm_append_comm)
  · try simp only [decide_eq_true_eq, decide_eq_false_iff_not, Bool.not_eq_true', Bool.not_eq_false', beq_iff_eq, bne_iff_ne, ne_eq, Bool.not_eq_eq_eq_not, Bool.not_true, Bool.not_false, beq_eq_false_iff_ne, bne_eq_false_iff_eq, Bool.not_not, gt_iff_lt, ge_iff_le] at hco1
    refine W.skip ?_
    refine At.then_n ?_
    refine W.seq ?_
    refine W.sub [(0, _)] ⟨rfl, trivial⟩ ?_
    refine W.reg [(0, true), (1, true), (2, true)] (by kernel_rfl) ?_
    intro K hK
    refine x_call rfl rfl rfl rfl rfl en42 (directory_c) ?_
    rintro r_ w2 ⟨b2, m2, rfl, M2⟩
    have M := M.grow M2
    refine ⟨trivial, ?_⟩
    refine x_alloc [_] rfl rfl rfl ze61 rfl ?_
    intro bal1 wal1 hbal1 hwal1
    have M := M.acons hbal1 hwal1
    refine ⟨trivial, ?_⟩
    refine x_st [_] _ rfl rfl rfl sz61 rfl rfl rfl rfl (by first | exact M.at_ 0 rfl | exact M.at_ 1 rfl | exact M.at_ 2 rfl | exact M.at_ 3 rfl | exact M.at_ 4 rfl | exact M.at_ 5 rfl | exact M.at_ 6 rfl | exact M.at_ 7 rfl) rfl rfl rfl ?_
    intro wst1 hwst1
    have M : Sep w00 ((bal1, .cells [ptr b2].toArray 61 (0, 0)) :: (L ++ [(m2, .map #[] 0), (b2, .cells [.bool true, .map (some m2), .slice none 0 0].toArray 82 (0, 0))])) wst1 := M.put 0 rfl hwst1
    refine ⟨trivial, ?_⟩
    refine Ex.done (hK _ _ ?_)
    refine At.then_n ?_
    refine W.seq ?_
    refine W.seq ?_
    refine W.sub [(0, _), (3, _)] ⟨rfl, rfl, trivial⟩ ?_
    refine W.reg [(0, false), (1, false), (2, false), (3, false), (4, true)] (by kernel_rfl) ?_
    intro K hK
    refine x_move rfl rfl rfl rfl ?_
    refine x_nil rfl rfl rfl rfl rfl ?_
    refine x_fa rfl rfl rfl fo82_1 rfl ?_
    refine x_ldA [_] rfl rfl rfl Try.underlying80 rfl sz80 rfl rfl ⟨_, _, _, (hE0.new M.frm).hd hem, rfl⟩ ?_
    refine x_call rfl rfl rfl rfl rfl en63 (all_c (Ent.kv_one e)) ?_
    rintro r_ wcall3 ⟨bd, rfl, M3⟩
    have M := M.grow M3
    refine ⟨trivial, ?_⟩
    refine Ex.done (hK _ _ ?_)
    refine At.then_n ?_
    refine W.block ?_
    refine W.sub [(3, _), (23, _)] ⟨rfl, rfl, trivial⟩ ?_
    refine W.range rfl en76 (fun rr hkt hps has hbdrng1 w2 hw2 => ?_)
    have M := M.range hw2
    have M : Sep w00 ([(bal1, .cells [ptr b2].toArray 61 (0, 0)), (bd, .cells [e.kv].toArray 80 (0, 0)), (wcall3.heap.size, .deferred (some [])), (wcall3.heap.size + 1, .loop { rr with state := .ready, pending := none })] ++ ([(b2, .cells [.bool true, .map (some m2), .slice none 0 0].toArray 82 (0, 0)), (m2, .map #[] 0)] ++ (L ++ []))) w2 := M.perm (perm_c fun p => by simp only [List.countP_append, List.countP_cons, List.countP_nil]; omega)
    refine (all_it (I := fun rest Lq w' => ∃ dn E1 d1, dn ++ rest = ksE E q ∧ CPs E (fun r => r = q ∨ ∃ m ∈ dn, ∃ t, r = q ++ m :: t) E1 ∧ ent E1 q = some d1 ∧ d1.dir = true ∧ d1.b = b2 ∧ Sep w00 ([(bal1, .cells [ptr b2].toArray 61 (0, 0)), (bd, .cells [e.kv].toArray 80 (0, 0)), (wcall3.heap.size, .deferred (some [])), (wcall3.heap.size + 1, .loop { rr with state := .ready, pending := none })] ++ (blks E1 ++ (L ++ Lq))) w') (X := fun _ => False) hT hl he ?_ ?_ ?_ ?_ ⟨[], [(⟨q, b2, true, m2, .map #[] 0, .slice none 0 0, [], []⟩ : Ent)], _, rfl, ?_, ent_of (by simp) (List.mem_singleton.2 rfl), rfl, rfl, M⟩).mono ?_
    · rintro rest Lq w' ⟨dn, E1, d1, hdn, hC, hd1, hdd1, hb1, M⟩
      exact ⟨M.at_ 1 rfl, hE0.new M.frm⟩
    · rintro rest Lq Lr w' w1 ⟨dn, E1, d1, hdn, hC, hd1, hdd1, hb1, M⟩ M1
      exact ⟨dn, E1, d1, hdn, hC, hd1, hdd1, hb1, by simpa only [List.append_assoc] using M.grow M1⟩
    · rintro rest Lq w' x ⟨dn, E1, d1, hdn, hC, hd1, hdd1, hb1, M⟩ hx
      exact M.get (by simp [hx])
    · rintro n rest Lq w' k ⟨dn, E1, d1, hdn, hC, hd1, hdd1, rfl, M⟩ hk
      obtain ⟨hdm, hdp⟩ := ent_mem hd1
      have hmap := hC.map d1 hdm hdd1
      rw [hdp] at hmap
      have hnn : n ∉ dn := fun h => by
        have h1 := ksE_strict (q := q) hT
        rw [← hdn, List.pairwise_append] at h1
        exact ltS_irr _ (h1.2.2 n h n (by simp))
      refine Yld.two (M.at_ 3 rfl) hkt hps rfl rfl has ?_
      refine W.seq ?_
      refine W.sub [(3, _), (24, _), (25, _)] ⟨rfl, rfl, rfl, trivial⟩ ?_
      refine W.reg [(0, false)] (by kernel_rfl) ?_
      intro K hK
      refine x_assign rfl rfl rfl rfl ?_
      refine Ex.done (hK _ _ ?_)
      refine At.then_n ?_
      refine W.sub [(3, _), (4, _), (25, _)] ⟨rfl, rfl, rfl, trivial⟩ ?_
      refine W.reg [(0, false)] (by kernel_rfl) ?_
      intro K hK
      refine x_assign rfl rfl rfl rfl ?_
      refine Ex.done (hK _ _ ?_)
      refine At.asg hbdrng1 (M.at_ 3 rfl) ?_
      generalize hwb : World.putObj _ _ _ = wb
      have M : Sep w00 ([(bal1, .cells [ptr d1.b].toArray 61 (0, 0)), (bd, .cells [e.kv].toArray 80 (0, 0)), (wcall3.heap.size, .deferred (some [])), (wcall3.heap.size + 1, .loop { rr with state := .busy, pending := none })] ++ (blks E1 ++ (L ++ Lq))) wb := M.put 3 rfl hwb.symm
      have hEc : ∀ {w : World} {X : List (Nat × Obj)}, Sep w00 X w → (∀ x ∈ blks E1, x ∈ X) → w.cell? ⟨d1.b, 1, none⟩ = some (.map (some d1.m)) := fun M h => (EAt.of' M h).map hdm hdd1
      refine W.block ?_
      refine W.sub [(3, _), (4, _), (5, _)] ⟨rfl, rfl, rfl, trivial⟩ ?_
      refine W.regD (by kernel_rfl) #[0, 1, 3, 7, 15, 0, 0, 64, 255] [(0, false), (1, false), (2, false), (3, false), (4, false), (5, false), (6, false), (7, true), (8, true)] (by kernel_rfl) ?_
      intro K wD1 hK hwD1
      have M := M.drew hwD1
      refine x_ld rfl rfl rfl Try.underlying61 rfl rfl (cell_of (by first | exact M.at_ 0 rfl | exact M.at_ 1 rfl | exact M.at_ 2 rfl | exact M.at_ 3 rfl | exact M.at_ 4 rfl | exact M.at_ 5 rfl | exact M.at_ 6 rfl | exact M.at_ 7 rfl) rfl) ?_
      refine x_nil rfl rfl rfl rfl rfl ?_
      refine x_fa rfl rfl rfl fo82_1 rfl ?_
      refine x_fa rfl rfl rfl fo80_0 rfl ?_
      refine x_ld rfl rfl rfl Try.underlying78 rfl rfl (hEc M (fun x hx => by simp [hx])) ?_
      refine x_move rfl rfl rfl rfl ?_
      refine x_move rfl rfl rfl rfl ?_
      refine x_call rfl rfl rfl rfl rfl en58 (ih (q ++ [n]) k _ hk (by simp only [List.length_append, List.length_cons, List.length_nil]; omega) M) ?_
      rintro v4 w4 ⟨b4, E4, d4, rfl, hC4, hd4, rfl, M⟩
      have M : Sep w00 ([(bal1, .cells [ptr d1.b].toArray 61 (0, 0)), (bd, .cells [e.kv].toArray 80 (0, 0)), (wcall3.heap.size, .deferred (some [])), (wcall3.heap.size + 1, .loop { rr with state := .busy, pending := none })] ++ (blks E1 ++ (blks E4 ++ (L ++ Lq)))) w4 := M.perm (perm_c fun p => by simp only [List.countP_append, List.countP_cons, List.countP_nil]; omega)
      refine ⟨⟨.inr (hEc M (fun x hx => by simp [hx])), .inr (cell_of (by first | exact M.at_ 0 rfl | exact M.at_ 1 rfl | exact M.at_ 2 rfl | exact M.at_ 3 rfl | exact M.at_ 4 rfl | exact M.at_ 5 rfl | exact M.at_ 6 rfl | exact M.at_ 7 rfl) rfl), trivial⟩, ?_⟩
      refine x_mup (enc := strV) n rfl rfl rfl (strKey Try.underlying9) Try.underlying78 rfl rfl rfl ((EAt.of' M (fun x hx => by simp [hx])).mp hdm hdd1) hmap ?_
      intro omu1 wmu1 hmmu1 hwmu1
      have M := mapput M hC.nd hd1 hdd1 hwmu1
      obtain ⟨hC2, hd2⟩ := hC.step hd1 hdd1 hnn hC4 hd4 hmmu1
      refine ⟨⟨.inl (by kernel_rfl), .inl (by kernel_rfl), trivial⟩, ?_⟩
      refine Ex.done (hK _ _ ?_)
      refine At.blk_n ?_
      refine At.rnd_n (by first | exact M.at_ 0 rfl | exact M.at_ 1 rfl | exact M.at_ 2 rfl | exact M.at_ 3 rfl | exact M.at_ 4 rfl | exact M.at_ 5 rfl | exact M.at_ 6 rfl | exact M.at_ 7 rfl) ?_
      generalize hwy : World.putObj _ _ _ = wy
      have M : Sep w00 ([(bal1, .cells [ptr d1.b].toArray 61 (0, 0)), (bd, .cells [e.kv].toArray 80 (0, 0)), (wcall3.heap.size, .deferred (some [])), (wcall3.heap.size + 1, .loop { rr with state := .ready, pending := none })] ++ (blks (setO E1 q omu1) ++ (blks E4 ++ (L ++ Lq)))) wy := M.put 3 rfl hwy.symm
      exact ⟨true, rfl, fun _ => ⟨dn ++ [n], _, _, by rw [← hdn]; simp, hC2, hd2, hdd1, rfl, by rw [blks_app]; simpa only [List.append_assoc] using M⟩, fun h => by cases h⟩
    · have hde : e.dir = true := hco1
      have := CPs.one (b := b2) (m := m2) he (D := []) (v := .slice none 0 0) (by rw [hT.dd e hem hde]; exact OwL.nil) (hT.dd e hem)
      rw [hde, hT.dd e hem hde] at this
      refine this.same (fun r hr => .inl hr) (fun r hr hno => ?_)
      rcases hr with hr | ⟨m, hm, _⟩
      · exact absurd hr hno
      · cases hm
    · rintro v w3 ⟨rfl, ⟨Lq, dn, E1, d1, hdn, hC, hd1, hdd1, rfl, M⟩ | HX⟩
      · refine .inl ⟨.ready, by simp, M.at_ 3 rfl, ?_⟩
        generalize hwx : World.putObj _ _ _ = w4
        have M := M.put 3 rfl hwx.symm
        refine At.blk_n ?_
        refine At.then_n ?_
        refine W.seq ?_
        refine W.sub [(3, _)] ⟨rfl, trivial⟩ ?_
        refine W.reg [(0, false), (1, false)] (by kernel_rfl) ?_
        intro K hK
        refine x_ld rfl rfl rfl Try.underlying61 rfl rfl (cell_of (by first | exact M.at_ 0 rfl | exact M.at_ 1 rfl | exact M.at_ 2 rfl | exact M.at_ 3 rfl | exact M.at_ 4 rfl | exact M.at_ 5 rfl | exact M.at_ 6 rfl | exact M.at_ 7 rfl) rfl) ?_
        refine x_assign rfl rfl rfl rfl ?_
        refine Ex.done (hK _ _ ?_)
        refine At.then_n ?_
        refine W.ret ?_
        refine At.mark (M.at_ 2 rfl) ?_
        generalize hwy : World.putObj _ _ _ = w5
        have M := M.put 2 rfl hwy.symm
        refine At.ret1 (.tmp 2) rfl ⟨rfl, trivial⟩ ?_
        rw [List.append_nil] at hdn
        subst hdn
        exact ⟨d1.b, E1, d1, rfl, hC.fin hT he, hd1, rfl, (St.dropL (L' := [_, _, _, _]) M).cutR2⟩
      · exact HX.elim
    


theorem copied_c {w00 : World} {E : List Ent} (hT : TI E) (hl : E.length ≤ 129) (hE0 : EAt w00 E) : ∀ (fuel : Nat) {w : World} (q : NP) (e : Ent) (L : List (Nat × Obj)), ent E q = some e → 8 < fuel + q.length → Sep w00 L w → Ret Try.prog 58 #[ptr e.b] w fun v w' => ∃ b' E' d', v = ptr b' ∧ CPs E (fun r => ∃ t, r = q ++ t) E' ∧ ent E' q = some d' ∧ d'.b = b' ∧ Sep w00 (blks E' ++ L) w'
  | 0, w, q, e, L, he, hf, _ => by
    have := (hT.ok e (ent_mem he).1).1
    rw [(ent_mem he).2] at this
    omega
  | fuel + 1, w, q, e, L, he, hf, M => copied_step hT hl hE0 (fun q e L he hf M => copied_c hT hl hE0 fuel q e L he hf M) he hf M


set_option maxRecDepth 100000 in
theorem copy_c {w0 : World} {bt : Nat} {E : List Ent}  (hA : TrA w0 bt E) (hl : E.length ≤ 129) : Ret Try.prog 29 #[ptr bt] w0 fun r w' =>  ∃ bt' E', r = ptr bt' ∧ Sep w0 (tb bt' E') w' ∧ TI E' ∧ absE E' = absE E ∧ E'.length = E.length := by
  have M : Sep w0 [] w0 := St.nil w0
  have hA0 := hA
  obtain ⟨rt, hrt, hbt, hE, hT⟩ := hA0
  refine Ret.of_W Try.func29 rfl Try.ntmps29 rfl ?_
  refine W.seq ?_
  refine W.sub [(0, _)] ⟨rfl, trivial⟩ ?_
  refine W.reg [(0, false)] (by kernel_rfl) ?_
  intro K hK
  refine x_assign rfl rfl rfl rfl ?_
  refine Ex.done (hK _ _ ?_)
  refine At.then_n ?_
  refine W.seq ?_
  refine W.seq ?_
  refine W.sub [(0, _)] ⟨rfl, trivial⟩ ?_
  refine W.reg [(0, false), (1, true), (2, false)] (by kernel_rfl) ?_
  intro K hK
  refine x_move rfl rfl rfl rfl ?_
  refine x_call rfl rfl rfl rfl rfl en37 (made_c (hA.new M.frm)) ?_
  rintro r_ w1 ⟨rfl, rfl⟩
  refine ⟨trivial, ?_⟩
  refine x_not false rfl rfl rfl rfl rfl ?_
  refine Ex.done (hK _ _ ?_)
  refine At.then_n ?_
  refine W.condF rfl ?_
  refine W.skip ?_
  refine At.then_n ?_
  refine W.seq ?_
  refine W.sub [(0, _)] ⟨rfl, trivial⟩ ?_
  refine W.regD (by kernel_rfl) #[0, 1, 3, 7, 15, 0, 32, 96, 224, 511, 1023, 2047] [(0, false), (1, false), (2, false), (3, false), (5, false), (6, false), (7, false), (8, false), (4, true), (9, false), (10, true), (11, false)] (by kernel_rfl) ?_
  intro K wD1 hK hwD1
  have M := M.drew hwD1
  refine x_move rfl rfl rfl rfl ?_
  refine x_nil rfl rfl rfl rfl rfl ?_
  refine x_fa rfl rfl rfl fo63_0 rfl ?_
  refine x_ld rfl rfl rfl Try.underlying61 rfl rfl (cell_of (New.keep M.frm hbt) rfl) ?_
  refine x_move rfl rfl rfl rfl ?_
  refine x_nil rfl rfl rfl rfl rfl ?_
  refine x_fa rfl rfl rfl fo63_1 rfl ?_
  refine x_ld rfl rfl rfl Try.underlying3 rfl rfl (cell_of (New.keep M.frm hbt) rfl) ?_
  refine x_call rfl rfl rfl rfl rfl en58 (copied_c (w00 := w0) hT hl hE 9 [] rt [] hrt (by simp) M) ?_
  rintro v2 w2 ⟨b2, E', d', rfl, hC, hd', rfl, M⟩
  have M : Sep w0 (blks E') w2 := by simpa using M
  obtain ⟨hT', hab'⟩ := hC.ti hT
  have hle := abs_len hT hT' hab'
  refine ⟨⟨.inr (cell_of (New.keep M.frm hbt) rfl), .inl (by kernel_rfl), trivial⟩, ?_⟩
  refine x_build [_, _] rfl rfl rfl pl63 ze63 rfl rfl rfl ?_
  refine x_box [_, _] rfl rfl rfl rfl rfl ?_
  intro bbx1 wbx1 hbbx1 hwbx1
  have M := M.acons hbbx1 hwbx1
  refine ⟨⟨.inl (by kernel_rfl), .inl (by kernel_rfl), trivial⟩, ?_⟩
  refine x_assign rfl rfl rfl rfl ?_
  refine Ex.done (hK _ _ ?_)
  refine At.then_n ?_
  refine W.ret ?_
  refine At.ret1 (.tmp 2) rfl ⟨rfl, trivial⟩ ?_
  refine ⟨_, E', rfl, ?_, hT', hab', hle⟩
  unfold tb ndP
  rw [hd', hle]
  exact M
end Go.Proofs.Ytccfmfehfhfhhaa

namespace Go.Proofs.Ytccfmfehfhfhhaa
open Go Go.Fw Go.RowKit
set_option linter.unusedVariables false
set_option linter.unusedSimpArgs false

/-- Told by the world w00 and these blocks. -/
def SgK (w00 : World) (L : List (Nat × Obj)) (v : Value) (m n : Nat) (cs : List Value) : Prop := ∀ w M, Sep w00 M w → (∀ x ∈ L, x ∈ M) → Sg w v m n cs
def FilesK (w00 : World) (L : List (Nat × Obj)) (v : Value) (l : List Raw) : Prop := ∃ fs : List (Raw × Value), fs.map (·.1) = l ∧ SgK w00 L v 3 fs.length (fCs fs) ∧ ∀ f ∈ fs, SgK w00 L f.2 1 f.1.2.2.length (byteCs f.1.2.2) ∧ f.2.oneCell' = true
section
variable {w00 w : World} {L L' M : List (Nat × Obj)} {v : Value} {m n : Nat} {cs : List Value} {l : List Raw}
theorem SgK.mono (h : SgK w00 L v m n cs) (hs : ∀ x ∈ L, x ∈ L') : SgK w00 L' v m n cs := fun w M hM hx => h w M hM fun x hx2 => hx x (hs x hx2)
theorem SgK.old (h : Sg w00 v m n cs) : SgK w00 L v m n cs := fun w M hM _ => h.new hM.frm
theorem SgK.own (h : OwL L' v m n cs) (hm : 0 < m) (hs : ∀ x ∈ L', x ∈ L) : SgK w00 L v m n cs := fun w M hM hx => .inr ((h.sl hm).get fun x hx2 => hM.get (hx x (hs x hx2)))
theorem SgK.slL (h : SlL L' v m n cs) (hs : ∀ x ∈ L', x ∈ L) : SgK w00 L v m n cs := fun w M hM hx => .inr (h.get fun x hx2 => hM.get (hx x (hs x hx2)))
theorem FilesK.mono (h : FilesK w00 L v l) (hs : ∀ x ∈ L, x ∈ L') : FilesK w00 L' v l := let ⟨fs, h1, h2, h3⟩ := h; ⟨fs, h1, h2.mono hs, fun f hf => ⟨(h3 f hf).1.mono hs, (h3 f hf).2⟩⟩
theorem FilesK.old (h : FilesAt w00 v l) : FilesK w00 L v l := let ⟨fs, h1, h2, h3⟩ := h; ⟨fs, h1, SgK.old h2, fun f hf => ⟨SgK.old (h3 f hf).1, (h3 f hf).2⟩⟩
theorem FilesK.own (h : FilesO L v l) : FilesK w00 L v l :=
  let ⟨fs, Lo, Ld, h1, h2, h3, h4⟩ := h
  ⟨fs, h1, SgK.own h3 (by decide) (fun x hx => by rw [h2]; exact List.mem_append_left _ hx), fun f hf => ⟨SgK.slL (h4 f hf).1 (fun x hx => by rw [h2]; exact List.mem_append_right _ hx), (h4 f hf).2⟩⟩
theorem FilesK.at_ (h : FilesK w00 L v l) (hM : Sep w00 M w) (hs : ∀ x ∈ L, x ∈ M) : FilesAt w v l := let ⟨fs, h1, h2, h3⟩ := h; ⟨fs, h1, h2 w M hM hs, fun f hf => ⟨(h3 f hf).1 w M hM hs, (h3 f hf).2⟩⟩
end
section
variable {P : Program} {w : World} {p : Option Addr} {n cap m j : Nat} {cs : List Value}
theorem Sg.take (h : Sg w (.slice p n cap) m n cs) (hj : j ≤ n) : Sg w (.slice p j cap) m j (cs.take (j * m)) := by
  rcases h with ⟨h1, h2, _⟩ | h
  · have : j = 0 := by omega
    subst this; exact .inl ⟨rfl, by simp, p, cap, rfl⟩
  · exact .inr (h.take hj)
theorem Sg.drop (h : Sg w (.slice p n cap) m n cs) (hj : j ≤ n) : Sg w (.slice (if cap = j then p else p.map (·.add (j * m))) (n - j) (cap - j)) m (n - j) (cs.drop (j * m)) := by
  rcases h with ⟨h1, h2, _⟩ | h
  · have : j = 0 := by omega
    subst this; exact .inl ⟨by omega, by rw [h2]; simp, _, _, by rw [show n - 0 = 0 by omega]⟩
  · exact .inr (h.drop hj)
theorem Sg.capLe (h : Sg w (.slice p n cap) m n cs) : n ≤ cap := by
  rcases h with ⟨h1, _⟩ | ⟨h1, _⟩ | ⟨b, off, cap', all, T, fr, h1, h2, _⟩
  · omega
  · cases h1; omega
  · cases h1; exact h2
theorem fCs_app (a b : List (Raw × Value)) : fCs (a ++ b) = fCs a ++ fCs b := List.flatMap_append
theorem fCs_take {fs : List (Raw × Value)} (hj : j ≤ fs.length) : (fCs fs).take (j * 3) = fCs (fs.take j) := by
  conv => lhs; rw [← List.take_append_drop j fs, fCs_app]
  rw [List.take_left' (by rw [fCs_len, List.length_take]; congr 1; omega)]
theorem fCs_drop {fs : List (Raw × Value)} (hj : j ≤ fs.length) : (fCs fs).drop (j * 3) = fCs (fs.drop j) := by
  conv => lhs; rw [← List.take_append_drop j fs, fCs_app]
  rw [List.drop_left' (by rw [fCs_len, List.length_take]; congr 1; omega)]
end
/-- The place of a path; below 0: it is not there. -/
def atR (l : List Raw) (p : List UInt8) : Int := match l.findIdx? (fun x => decide (x.1 = p)) with | some i => (i : Int) | none => -1
theorem atR_some {l : List Raw} {p : List UInt8} {j : Nat} {x : Raw} (hx : l[j]? = some x) (hp : x.1 = p) (hno : ∀ y ∈ l.take j, y.1 ≠ p) : atR l p = j := by
  unfold atR
  have : l.findIdx? (fun x => decide (x.1 = p)) = some j := by
    rw [List.findIdx?_eq_some_iff_getElem]
    obtain ⟨h1, rfl⟩ := List.getElem?_eq_some_iff.1 hx
    refine ⟨h1, by simpa using hp, fun i hi => ?_⟩
    have := hno l[i] (List.mem_take_iff_getElem.2 ⟨i, by omega, rfl⟩)
    simpa using this
  rw [this]
theorem atR_none {l : List Raw} {p : List UInt8} (hno : ∀ y ∈ l, y.1 ≠ p) : atR l p = -1 := by
  unfold atR
  have : l.findIdx? (fun x => decide (x.1 = p)) = none := List.findIdx?_eq_none_iff.2 fun y hy => by simpa using hno y hy
  rw [this]
theorem atR_cases (l : List Raw) (p : List UInt8) : (∃ j x, l[j]? = some x ∧ x.1 = p ∧ atR l p = (j : Nat) ∧ ∀ y ∈ l.take j, y.1 ≠ p) ∨ ((∀ y ∈ l, y.1 ≠ p) ∧ atR l p = -1) := by
  cases h : l.findIdx? (fun x => decide (x.1 = p)) with
  | none =>
    right
    have h2 := List.findIdx?_eq_none_iff.1 h
    refine ⟨fun y hy => by simpa using h2 y hy, ?_⟩
    unfold atR; rw [h]
  | some j =>
    left
    obtain ⟨h1, h2, h3⟩ := List.findIdx?_eq_some_iff_getElem.1 h
    refine ⟨j, l[j], List.getElem?_eq_getElem h1, by simpa using h2, by unfold atR; rw [h], fun y hy => ?_⟩
    obtain ⟨i, hi, rfl⟩ := List.mem_take_iff_getElem.1 hy
    have := h3 i (by omega)
    simpa using this
/-- What the document finds. -/
def fileZ : Raw := ([], false, [])
def findF (l : List Raw) : NP → NP → Raw → Raw × Int
  | _, [], f => (f, 0)
  | pre, n :: r, f => if f.2.1 = true then (match l.find? (fun x => decide (x.1 = joinS (pre ++ [n]))) with | some x => findF l (pre ++ [n]) r x | none => (fileZ, 9)) else (fileZ, 17)
def findL (l : List Raw) (p : List UInt8) : Raw × Int := if splitE p = 0 then findF l [] (splitN p) ([], true, []) else (fileZ, 8)
theorem at_find {l : List Raw} {p : List UInt8} {j : Nat} {x : Raw} (hx : l[j]? = some x) (hp : x.1 = p) (hno : ∀ y ∈ l.take j, y.1 ≠ p) : l.find? (fun x => decide (x.1 = p)) = some x := by
  obtain ⟨h1, rfl⟩ := List.getElem?_eq_some_iff.1 hx
  rw [List.find?_eq_some_iff_getElem]
  refine ⟨by simpa using hp, j, h1, rfl, fun i hi => ?_⟩
  have := hno l[i] (List.mem_take_iff_getElem.2 ⟨i, by omega, rfl⟩)
  simpa using this
theorem at_find0 {l : List Raw} {p : List UInt8} (hno : ∀ y ∈ l, y.1 ≠ p) : l.find? (fun x => decide (x.1 = p)) = none := List.find?_eq_none.2 fun y hy => by simpa using hno y hy
theorem findF_at {l : List Raw} {N : NP} {j : Nat} {n : List UInt8} {f : Raw} (hn : N[j]? = some n) : findF l (N.take j) (N.drop j) f = if f.2.1 = true then (match l.find? (fun x => decide (x.1 = joinS (N.take (j + 1)))) with | some x => findF l (N.take (j + 1)) (N.drop (j + 1)) x | none => (fileZ, 9)) else (fileZ, 17) := by
  obtain ⟨hl, rfl⟩ := List.getElem?_eq_some_iff.1 hn
  rw [List.drop_eq_getElem_cons hl, List.take_succ_eq_append_getElem hl]
  rfl
theorem splitE_8 {p : List UInt8} (h : ¬ splitE p = 0) : splitE p = 8 := by
  rcases splitP_cases p with ⟨h1, h2⟩ | ⟨_, h1⟩ | ⟨h1, _, h3, h4, h2⟩
  · subst h1; exact absurd rfl h
  · exact (splitE_none h1).1
  · exact absurd (splitE_some h2).1 h
/-- The names in a directory, as the document tells them. -/
def namesL (l : List Raw) (p : List UInt8) : NP := (l.filter fun x => decide ((parentP x.1).1 = p)).map fun x => (parentP x.1).2.1
def listL (l : List Raw) (p : List UInt8) : NP × Int := if (findL l p).2 = 0 then (if (findL l p).1.2.1 = true then (namesL l p, 0) else ([], 17)) else ([], (findL l p).2)
theorem namesL_len (l : List Raw) (p : List UInt8) : (namesL l p).length ≤ l.length := by unfold namesL; rw [List.length_map]; exact List.length_filter_le _ _
theorem namesL_step {l : List Raw} {p : List UInt8} {j : Nat} {x : Raw} (hx : l[j]? = some x) : namesL (l.take (j + 1)) p = namesL (l.take j) p ++ if (parentP x.1).1 = p then [(parentP x.1).2.1] else [] := by
  obtain ⟨h1, rfl⟩ := List.getElem?_eq_some_iff.1 hx
  unfold namesL
  rw [List.take_succ_eq_append_getElem h1, List.filter_append, List.map_append]
  congr 1
  by_cases h : (parentP (l[j]).1).1 = p
  · rw [List.filter_cons_of_pos (by simpa using h), if_pos h]; rfl
  · rw [List.filter_cons_of_neg (by simpa using h), if_neg h]; rfl
/-- Why there is no directory for a path. -/
def homeL (l : List Raw) (p : List UInt8) (root : Int) : Int := if splitE p = 0 then (if splitN p = [] then root else if (findL l (joinS ((splitN p).take ((splitN p).length - 1)))).2 = 0 then (if (findL l (joinS ((splitN p).take ((splitN p).length - 1)))).1.2.1 = true then 0 else 17) else (findL l (joinS ((splitN p).take ((splitN p).length - 1)))).2) else 8
/-- What stands in the way of taking away. -/
def busyL (l : List Raw) (p : List UInt8) : Bool := l.any fun x => decide (x.1 ≠ p) && underP x.1 p
def removeL (l : List Raw) (p : List UInt8) : List Raw × Int := if (findL l p).2 = 0 then (if p = [] then (l, 18) else if busyL l p = true then (l, 18) else (l.eraseIdx (atR l p).toNat, 0)) else (l, (findL l p).2)
theorem findF_mem {l : List Raw} : ∀ {r pre : NP} {f : Raw}, (findF l pre r f).2 = 0 → r ≠ [] → ∃ x ∈ l, x.1 = joinS (pre ++ r)
  | [], _, _, _, h => absurd rfl h
  | n :: r, pre, f, h, _ => by
    unfold findF at h
    split at h
    · cases hx : l.find? (fun x => decide (x.1 = joinS (pre ++ [n]))) with
      | none => rw [hx] at h; cases h
      | some x =>
        rw [hx] at h
        by_cases hr : r = []
        · subst hr
          exact ⟨x, List.mem_of_find?_eq_some hx, by simpa using List.find?_some hx⟩
        · obtain ⟨y, h1, h2⟩ := findF_mem (r := r) h hr
          exact ⟨y, h1, by rw [h2]; simp⟩
    · cases h
theorem findL_mem {l : List Raw} {p : List UInt8} (h : (findL l p).2 = 0) (hp : p ≠ []) : ∃ x ∈ l, x.1 = p := by
  unfold findL at h
  split at h
  · rename_i hs
    have h0 : splitN p ≠ [] := fun e => hp (by rcases splitN_facts hs with ⟨h1, _⟩ | ⟨_, h2, _⟩; exact h1; rw [h2] at e; exact absurd e (splitS_ne p))
    obtain ⟨x, h1, h2⟩ := findF_mem h h0
    exact ⟨x, h1, by rw [h2, List.nil_append, joinS_splitN hs]⟩
  · cases h
/-- A row with a file more. -/
def withR (l : List Raw) (x : Raw) : List Raw := l.takeWhile (fun y => decide (compareP y.1 x.1 < 0)) ++ x :: l.dropWhile (fun y => decide (compareP y.1 x.1 < 0))
theorem withR_at {l : List Raw} {x : Raw} {j : Nat} (hj : j ≤ l.length) (h1 : ∀ y ∈ l.take j, compareP y.1 x.1 < 0) (h2 : ∀ y, l[j]? = some y → ¬ compareP y.1 x.1 < 0) : withR l x = l.take j ++ x :: l.drop j := by
  have key : ∀ (A B : List Raw), (∀ y ∈ A, compareP y.1 x.1 < 0) → (∀ y, B.head? = some y → ¬ compareP y.1 x.1 < 0) → (A ++ B).takeWhile (fun y => decide (compareP y.1 x.1 < 0)) = A ∧ (A ++ B).dropWhile (fun y => decide (compareP y.1 x.1 < 0)) = B := fun A B hA hB => by
    induction A with
    | nil =>
      cases B with
      | nil => exact ⟨rfl, rfl⟩
      | cons b B =>
        have := hB b rfl
        constructor
        · rw [List.nil_append, List.takeWhile_cons_of_neg (by simpa using this)]
        · rw [List.nil_append, List.dropWhile_cons_of_neg (by simpa using this)]
    | cons a A ih =>
      have h3 := hA a (by simp)
      obtain ⟨h4, h5⟩ := ih (fun y hy => hA y (by simp [hy]))
      constructor
      · rw [List.cons_append, List.takeWhile_cons_of_pos (by simpa using h3), h4]
      · rw [List.cons_append, List.dropWhile_cons_of_pos (by simpa using h3), h5]
  obtain ⟨h3, h4⟩ := key (l.take j) (l.drop j) h1 (fun y hy => h2 y (by rw [List.head?_drop] at hy; exact hy))
  rw [List.take_append_drop] at h3 h4
  unfold withR
  rw [h3, h4]
theorem St.mix {S : Nat → Prop} {w0 w : World} {F A B X Lo : List (Nat × Obj)} (h : St S w0 ((F ++ ((A ++ B) ++ X)) ++ Lo) w) : St S w0 ((A ++ (B ++ Lo)) ++ (X ++ F)) w := h.perm (perm_c fun p => by simp only [List.countP_append]; omega)
theorem St.mix0 {S : Nat → Prop} {w0 w : World} {F A X Lo : List (Nat × Obj)} (h : St S w0 ((F ++ (A ++ X)) ++ Lo) w) : St S w0 ((A ++ Lo) ++ (X ++ F)) w := h.perm (perm_c fun p => by simp only [List.countP_append]; omega)
def mkdirL (l : List Raw) (p : List UInt8) : List Raw × Int := if homeL l p 10 = 0 then (if 0 ≤ atR l p then (l, 10) else if 128 ≤ l.length then (l, 7) else (withR l (p, true, []), 0)) else (l, homeL l p 10)
def putL (l : List Raw) (p b : List UInt8) : List Raw × Int :=
  if homeL l p 16 = 0 then
    (match l.find? (fun x => decide (x.1 = p)) with
     | some x => if x.2.1 = true then (l, 16) else if 65536 < b.length then (l, 3) else (withR (l.eraseIdx (atR l p).toNat) (p, false, b), 0)
     | none => if 65536 < b.length then (l, 3) else if 128 ≤ l.length then (l, 7) else (withR l (p, false, b), 0))
  else (l, homeL l p 16)
end Go.Proofs.Ytccfmfehfhfhhaa

namespace Go.Proofs.Ytccfmfehfhfhhaa
open Go Go.Fw Go.RowKit Go.Proofs
set_option linter.unusedVariables false
set_option linter.unusedSimpArgs false

set_option maxRecDepth 100000 in
theorem at_c {w0 : World} {v : Value} {l : List Raw} {p : List UInt8} (h : FilesAt w0 v l) (hl : l.length ≤ 100000) : Ret Try.prog 34 #[.agg #[v], strV p] w0 fun r w' => r = .int .i64 (atR l p) ∧ New w0 w' := by
  have M : Sep w0 [] w0 := St.nil w0
  obtain ⟨pv, cv, rfl⟩ := h.shape
  refine Ret.of_W Try.func34 rfl Try.ntmps34 rfl ?_
  refine W.seq ?_
  refine W.sub [(0, _), (1, _)] ⟨rfl, rfl, trivial⟩ ?_
  refine W.reg [(0, true), (1, false)] (by kernel_rfl) ?_
  intro K hK
  refine x_box [_] rfl rfl rfl rfl rfl ?_
  intro bbx1 wbx1 hbbx1 hwbx1
  have M := M.acons hbbx1 hwbx1
  refine ⟨trivial, ?_⟩
  refine x_assign rfl rfl rfl rfl ?_
  refine Ex.done (hK _ _ ?_)
  refine At.then_n ?_
  refine W.seq ?_
  refine W.seq ?_
  refine W.sub [(1, _), (2, _)] ⟨rfl, rfl, trivial⟩ ?_
  refine W.reg [(0, false)] (by kernel_rfl) ?_
  intro K hK
  refine x_assign rfl rfl rfl rfl ?_
  refine Ex.done (hK _ _ ?_)
  refine At.then_n ?_
  refine W.block ?_
  refine W.loop (σ := Nat) (fun j => [(1, _), (2, _), (5, .int .i64 ((j : Nat) : Int))]) (fun j w => j ≤ l.length ∧ (∀ y ∈ l.take j, y.1 ≠ p) ∧ Sep w0 [(bbx1, .cells [.slice pv l.length cv].toArray 32 (0, 0))] w) (fun j => l.length - j) 0 ⟨rfl, rfl, rfl, trivial⟩ ⟨Nat.zero_le _, by simp, M⟩ ?_
  rintro j w ⟨hj, hno, M⟩
  refine W.seq ?_
  refine W.seq ?_
  refine W.sub [(1, _), (2, _), (5, _)] ⟨rfl, rfl, rfl, trivial⟩ ?_
  refine W.reg [(0, false), (1, false), (2, false), (3, false), (4, false)] (by kernel_rfl) ?_
  intro K hK
  refine x_move rfl rfl rfl rfl ?_
  refine x_fa rfl rfl rfl fo32_0 rfl ?_
  refine x_ld rfl rfl rfl Try.underlying22 rfl rfl (cell_of (by first | exact M.at_ 0 rfl | exact M.at_ 1 rfl | exact M.at_ 2 rfl | exact M.at_ 3 rfl | exact M.at_ 4 rfl | exact M.at_ 5 rfl | exact M.at_ 6 rfl | exact M.at_ 7 rfl) rfl) ?_
  refine x_len rfl rfl rfl rfl Try.underlying22 rfl ?_
  refine x_lss _ rfl rfl rfl rfl rfl rfl ?_
  refine Ex.done (hK _ _ ?_)
  refine At.then_n ?_
  refine W.cond rfl (fun hco1 => ?_) (fun hco1 => ?_)
  · try simp only [decide_eq_true_eq, decide_eq_false_iff_not, Bool.not_eq_true', Bool.not_eq_false', beq_iff_eq, bne_iff_ne, ne_eq, Bool.not_eq_eq_eq_not, Bool.not_true, Bool.not_false, beq_eq_false_iff_ne, bne_eq_false_iff_eq, Bool.not_not, gt_iff_lt, ge_iff_le] at hco1
    obtain ⟨x, hx⟩ := get_lt (l := l) (q := j) (by omega)
    obtain ⟨bb, off, rfl, _⟩ := (h.new M.frm).blk (j := j) (by omega)
    obtain ⟨pd, cd, hrow, _⟩ := (h.new M.frm).row hx
    refine W.skip ?_
    refine At.then_n ?_
    refine W.seq ?_
    refine W.block ?_
    refine W.seq ?_
    refine W.sub [(1, _), (2, _), (5, _)] ⟨rfl, rfl, rfl, trivial⟩ ?_
    refine W.reg [(0, false), (1, false), (2, false), (3, false), (4, false), (5, false), (6, false), (7, false)] (by kernel_rfl) ?_
    intro K hK
    refine x_fa rfl rfl rfl fo32_0 rfl ?_
    refine x_ld rfl rfl rfl Try.underlying22 rfl rfl (cell_of (by first | exact M.at_ 0 rfl | exact M.at_ 1 rfl | exact M.at_ 2 rfl | exact M.at_ 3 rfl | exact M.at_ 4 rfl | exact M.at_ 5 rfl | exact M.at_ 6 rfl | exact M.at_ 7 rfl) rfl) ?_
    refine x_move rfl rfl rfl rfl ?_
    refine x_ia j rfl rfl rfl Try.underlying22 sz25 rfl rfl rfl (by omega) ?_
    refine x_fa rfl rfl rfl fo25_0 rfl ?_
    refine x_ld rfl rfl rfl Try.underlying9 rfl rfl (RowAt.cell hrow (j := 0) rfl) ?_
    refine x_move rfl rfl rfl rfl ?_
    refine x_eqS _ rfl rfl rfl rfl rfl rfl ?_
    refine Ex.done (hK _ _ ?_)
    refine At.then_n ?_
    refine W.cond rfl (fun hco2 => ?_) (fun hco2 => ?_)
    · try simp only [decide_eq_true_eq, decide_eq_false_iff_not, Bool.not_eq_true', Bool.not_eq_false', beq_iff_eq, bne_iff_ne, ne_eq, Bool.not_eq_eq_eq_not, Bool.not_true, Bool.not_false, beq_eq_false_iff_ne, bne_eq_false_iff_eq, Bool.not_not, gt_iff_lt, ge_iff_le] at hco2
      refine W.seq ?_
      refine W.sub [(5, _)] ⟨rfl, trivial⟩ ?_
      refine W.reg [(0, false), (1, false)] (by kernel_rfl) ?_
      intro K hK
      refine x_move rfl rfl rfl rfl ?_
      refine x_assign rfl rfl rfl rfl ?_
      refine Ex.done (hK _ _ ?_)
      refine At.then_n ?_
      refine W.ret ?_
      refine At.blk_r ?_
      refine At.then_r ?_
      refine At.loop_r ?_
      refine At.blk_r ?_
      refine At.then_r ?_
      refine At.ret1 (.tmp 4) rfl ⟨rfl, trivial⟩ ?_
      exact ⟨by rw [atR_some hx hco2 hno], M.frm⟩
    · try simp only [decide_eq_true_eq, decide_eq_false_iff_not, Bool.not_eq_true', Bool.not_eq_false', beq_iff_eq, bne_iff_ne, ne_eq, Bool.not_eq_eq_eq_not, Bool.not_true, Bool.not_false, beq_eq_false_iff_ne, bne_eq_false_iff_eq, Bool.not_not, gt_iff_lt, ge_iff_le] at hco2
      refine W.skip ?_
      refine At.blk_n ?_
      refine At.then_n ?_
      refine W.sub [(1, _), (2, _), (5, _)] ⟨rfl, rfl, rfl, trivial⟩ ?_
      refine W.reg [(0, false), (1, false), (2, false)] (by kernel_rfl) ?_
      intro K hK
      refine x_move rfl rfl rfl rfl ?_
      refine x_add _ rfl rfl rfl rfl rfl (wadd (by omega) (by omega)) ?_
      refine x_assign rfl rfl rfl rfl ?_
      refine Ex.done (hK _ _ ?_)
      exact At.back (j + 1) ⟨rfl, rfl, rfl, trivial⟩ ⟨by omega, fun y hy => by
        rw [take_mem hx] at hy
        rcases List.mem_append.1 hy with hy | hy
        · exact hno y hy
        · rw [List.mem_singleton.1 hy]; exact hco2, M⟩ (by first | omega | (simp only; omega) | (simp; done) | (simp; omega))
  · try simp only [decide_eq_true_eq, decide_eq_false_iff_not, Bool.not_eq_true', Bool.not_eq_false', beq_iff_eq, bne_iff_ne, ne_eq, Bool.not_eq_eq_eq_not, Bool.not_true, Bool.not_false, beq_eq_false_iff_ne, bne_eq_false_iff_eq, Bool.not_not, gt_iff_lt, ge_iff_le] at hco1
    refine W.exit ?_
    refine At.then_x ?_
    refine At.loop_x ?_
    refine At.blk_x ?_
    refine At.then_n ?_
    refine W.seq ?_
    refine W.sub [] trivial ?_
    refine W.reg [(0, false)] (by kernel_rfl) ?_
    intro K hK
    refine x_assign rfl rfl rfl rfl ?_
    refine Ex.done (hK _ _ ?_)
    refine At.then_n ?_
    refine W.ret ?_
    refine At.ret1 (.tmp 4) rfl ⟨rfl, trivial⟩ ?_
    have hj2 : j = l.length := by omega
    subst hj2
    rw [List.take_length] at hno
    exact ⟨by rw [atR_none hno], M.frm⟩

set_option maxRecDepth 100000 in
theorem fsame_c {w0 : World} {v u : Value} {l k : List Raw} (h : FilesAt w0 v l) (g : FilesAt w0 u k) (hl : l.length ≤ 100000) : Ret Try.prog 14 #[v, u] w0 fun r w' => r = .bool (decide (l = k)) ∧ New w0 w' := by
  have M : Sep w0 [] w0 := St.nil w0
  obtain ⟨pv, cv, rfl⟩ := h.shape
  obtain ⟨pu, cu, rfl⟩ := g.shape
  refine Ret.of_W Try.func14 rfl Try.ntmps14 rfl ?_
  refine W.seq ?_
  refine W.sub [(0, _), (1, _)] ⟨rfl, rfl, trivial⟩ ?_
  refine W.reg [(0, false)] (by kernel_rfl) ?_
  intro K hK
  refine x_assign rfl rfl rfl rfl ?_
  refine Ex.done (hK _ _ ?_)
  refine At.then_n ?_
  refine W.seq ?_
  refine W.seq ?_
  refine W.sub [(0, _), (1, _)] ⟨rfl, rfl, trivial⟩ ?_
  refine W.reg [(0, false), (1, false), (2, false), (3, false), (4, false)] (by kernel_rfl) ?_
  intro K hK
  refine x_move rfl rfl rfl rfl ?_
  refine x_len rfl rfl rfl rfl Try.underlying22 rfl ?_
  refine x_move rfl rfl rfl rfl ?_
  refine x_len rfl rfl rfl rfl Try.underlying22 rfl ?_
  refine x_nei _ rfl rfl rfl rfl rfl rfl ?_
  refine Ex.done (hK _ _ ?_)
  refine At.then_n ?_
  refine W.cond rfl (fun hco1 => ?_) (fun hco1 => ?_)
  · try simp only [decide_eq_true_eq, decide_eq_false_iff_not, Bool.not_eq_true', Bool.not_eq_false', beq_iff_eq, bne_iff_ne, ne_eq, Bool.not_eq_eq_eq_not, Bool.not_true, Bool.not_false, beq_eq_false_iff_ne, bne_eq_false_iff_eq, Bool.not_not, gt_iff_lt, ge_iff_le] at hco1
    refine W.seq ?_
    refine W.sub [] trivial ?_
    refine W.reg [(0, false)] (by kernel_rfl) ?_
    intro K hK
    refine x_assign rfl rfl rfl rfl ?_
    refine Ex.done (hK _ _ ?_)
    refine At.then_n ?_
    refine W.ret ?_
    refine At.then_r ?_
    refine At.ret1 (.tmp 4) rfl ⟨rfl, trivial⟩ ?_
    exact ⟨by rw [decide_eq_false (fun e => hco1 (by rw [e]))], M.frm⟩
  · try simp only [decide_eq_true_eq, decide_eq_false_iff_not, Bool.not_eq_true', Bool.not_eq_false', beq_iff_eq, bne_iff_ne, ne_eq, Bool.not_eq_eq_eq_not, Bool.not_true, Bool.not_false, beq_eq_false_iff_ne, bne_eq_false_iff_eq, Bool.not_not, gt_iff_lt, ge_iff_le] at hco1
    have hlk : l.length = k.length := by omega
    refine W.skip ?_
    refine At.then_n ?_
    refine W.seq ?_
    refine W.seq ?_
    refine W.sub [(0, _), (1, _)] ⟨rfl, rfl, trivial⟩ ?_
    refine W.reg [(0, false)] (by kernel_rfl) ?_
    intro K hK
    refine x_assign rfl rfl rfl rfl ?_
    refine Ex.done (hK _ _ ?_)
    refine At.then_n ?_
    refine W.block ?_
    refine W.loop (σ := Nat) (fun j => [(0, _), (1, _), (5, .int .i64 ((j : Nat) : Int))]) (fun j w => j ≤ l.length ∧ l.take j = k.take j ∧ Sep w0 [] w) (fun j => l.length - j) 0 ⟨rfl, rfl, rfl, trivial⟩ ⟨Nat.zero_le _, rfl, M⟩ ?_
    rintro j w ⟨hj, heq, M⟩
    refine W.seq ?_
    refine W.seq ?_
    refine W.sub [(0, _), (1, _), (5, _)] ⟨rfl, rfl, rfl, trivial⟩ ?_
    refine W.reg [(0, false), (1, false), (2, false), (3, false)] (by kernel_rfl) ?_
    intro K hK
    refine x_move rfl rfl rfl rfl ?_
    refine x_move rfl rfl rfl rfl ?_
    refine x_len rfl rfl rfl rfl Try.underlying22 rfl ?_
    refine x_lss _ rfl rfl rfl rfl rfl rfl ?_
    refine Ex.done (hK _ _ ?_)
    refine At.then_n ?_
    refine W.cond rfl (fun hco2 => ?_) (fun hco2 => ?_)
    · try simp only [decide_eq_true_eq, decide_eq_false_iff_not, Bool.not_eq_true', Bool.not_eq_false', beq_iff_eq, bne_iff_ne, ne_eq, Bool.not_eq_eq_eq_not, Bool.not_true, Bool.not_false, beq_eq_false_iff_ne, bne_eq_false_iff_eq, Bool.not_not, gt_iff_lt, ge_iff_le] at hco2
      obtain ⟨x, hx⟩ := get_lt (l := l) (q := j) (by omega)
      obtain ⟨y, hy⟩ := get_lt (l := k) (q := j) (by omega)
      obtain ⟨b1, o1, rfl, _⟩ := (h.new M.frm).blk (j := j) (by omega)
      obtain ⟨b2, o2, rfl, _⟩ := (g.new M.frm).blk (j := j) (by omega)
      have M1 := M
      refine W.skip ?_
      refine At.then_n ?_
      refine W.seq ?_
      refine W.block ?_
      refine W.seq ?_
      refine W.sub [(0, _), (1, _), (5, _)] ⟨rfl, rfl, rfl, trivial⟩ ?_
      refine W.regD (by kernel_rfl) #[0, 0, 3, 7, 15, 0, 0, 96, 224, 480, 1023, 2047, 4095, 4095, 16383, 32767, 65535, 4095, 4095, 397311, 921599, 1970175, 4194303, 8388607, 16777215, 33554431, 33554431, 134217727, 268435455, 536870911, 1073741823, 33554431, 33554431, 6476005375, 15065939967, 32245809151, 66605547519, 137438953471, 274877906943] [(0, false), (1, false), (2, false), (3, false), (4, false), (5, false), (6, false), (7, false), (8, false), (9, false), (10, false), (11, false), (12, false), (13, false), (14, false), (15, false), (16, false), (17, false), (18, false), (19, false), (20, false), (21, false), (22, false), (23, false), (24, false), (25, false), (26, false), (27, false), (28, false), (29, false), (30, false), (31, false), (32, false), (33, false), (34, false), (35, false), (36, false), (37, false), (38, false)] (by kernel_rfl) ?_
      intro K wD1 hK hwD1
      have M := M.drew hwD1
      obtain ⟨p1, c1, hr1, hb1⟩ := (h.new M.frm).row hx
      obtain ⟨p2, c2, hr2, hb2⟩ := (g.new M.frm).row hy
      have hne : x ≠ y → l ≠ k := fun h e => h (Option.some.inj (hx.symm.trans ((congrArg (fun z : List Raw => z[j]?) e).trans hy)))
      refine x_move rfl rfl rfl rfl ?_
      refine x_move rfl rfl rfl rfl ?_
      refine x_ia j rfl rfl rfl Try.underlying22 sz25 rfl rfl rfl (by omega) ?_
      refine x_fa rfl rfl rfl fo25_0 rfl ?_
      refine x_ld rfl rfl rfl Try.underlying9 rfl rfl (RowAt.cell hr1 (j := 0) rfl) ?_
      refine x_move rfl rfl rfl rfl ?_
      refine x_move rfl rfl rfl rfl ?_
      refine x_ia j rfl rfl rfl Try.underlying22 sz25 rfl rfl rfl (by omega) ?_
      refine x_fa rfl rfl rfl fo25_0 rfl ?_
      refine x_ld rfl rfl rfl Try.underlying9 rfl rfl (RowAt.cell hr2 (j := 0) rfl) ?_
      refine x_neS _ rfl rfl rfl rfl rfl rfl ?_
      refine x_move rfl rfl rfl rfl ?_
      refine Ex.split 28 rfl (fun hsp1 => ?_) (fun hsp1 => ?_)
      ·
        try simp only [decide_eq_true_eq, decide_eq_false_iff_not, Bool.not_eq_true', Bool.not_eq_false', beq_iff_eq, bne_iff_ne, ne_eq, Bool.not_eq_eq_eq_not, Bool.not_true, Bool.not_false, beq_eq_false_iff_ne, bne_eq_false_iff_eq, Bool.not_not, gt_iff_lt, ge_iff_le] at hsp1
        refine Ex.skip_ rfl rfl rfl ?_
        refine Ex.skip_ rfl rfl rfl ?_
        refine Ex.skip_ rfl rfl rfl ?_
        refine Ex.skip_ rfl rfl rfl ?_
        refine Ex.skip_ rfl rfl rfl ?_
        refine Ex.skip_ rfl rfl rfl ?_
        refine Ex.skip_ rfl rfl rfl ?_
        refine Ex.skip_ rfl rfl rfl ?_
        refine Ex.skip_ rfl rfl rfl ?_
        refine Ex.skip_ rfl rfl rfl ?_
        refine Ex.skip_ rfl rfl rfl ?_
        refine x_pickT rfl rfl rfl rfl rfl ?_
        refine x_move rfl rfl rfl rfl ?_
        refine Ex.skip_ rfl rfl rfl ?_
        refine Ex.skip_ rfl rfl rfl ?_
        refine Ex.skip_ rfl rfl rfl ?_
        refine Ex.skip_ rfl rfl rfl ?_
        refine Ex.skip_ rfl rfl rfl ?_
        refine Ex.skip_ rfl rfl rfl ?_
        refine Ex.skip_ rfl rfl rfl ?_
        refine Ex.skip_ rfl rfl rfl ?_
        refine Ex.skip_ rfl rfl rfl ?_
        refine Ex.skip_ rfl rfl rfl ?_
        refine Ex.skip_ rfl rfl rfl ?_
        refine Ex.skip_ rfl rfl rfl ?_
        refine Ex.skip_ rfl rfl rfl ?_
        refine x_pickT rfl rfl rfl rfl rfl ?_
        refine Ex.done (hK _ _ ?_)
        refine At.then_n ?_
        refine W.condT rfl ?_
        refine W.seq ?_
        refine W.sub [] trivial ?_
        refine W.reg [(0, false)] (by kernel_rfl) ?_
        intro K hK
        refine x_assign rfl rfl rfl rfl ?_
        refine Ex.done (hK _ _ ?_)
        refine At.then_n ?_
        refine W.ret ?_
        refine At.blk_r ?_
        refine At.then_r ?_
        refine At.loop_r ?_
        refine At.blk_r ?_
        refine At.then_r ?_
        refine At.ret1 (.tmp 4) rfl ⟨rfl, trivial⟩ ?_
        exact ⟨by rw [decide_eq_false (hne fun e => hsp1 (by rw [e]))], M.frm⟩
      ·
        try simp only [decide_eq_true_eq, decide_eq_false_iff_not, Bool.not_eq_true', Bool.not_eq_false', beq_iff_eq, bne_iff_ne, ne_eq, Bool.not_eq_eq_eq_not, Bool.not_true, Bool.not_false, beq_eq_false_iff_ne, bne_eq_false_iff_eq, Bool.not_not, gt_iff_lt, ge_iff_le] at hsp1
        refine x_move rfl rfl rfl rfl ?_
        refine x_move rfl rfl rfl rfl ?_
        refine x_ia j rfl rfl rfl Try.underlying22 sz25 rfl rfl rfl (by omega) ?_
        refine x_fa rfl rfl rfl fo25_1 rfl ?_
        refine x_ld rfl rfl rfl Try.underlying4 rfl rfl (RowAt.cell hr1 (j := 1) rfl) ?_
        refine x_move rfl rfl rfl rfl ?_
        refine x_move rfl rfl rfl rfl ?_
        refine x_ia j rfl rfl rfl Try.underlying22 sz25 rfl rfl rfl (by omega) ?_
        refine x_fa rfl rfl rfl fo25_1 rfl ?_
        refine x_ld rfl rfl rfl Try.underlying4 rfl rfl (RowAt.cell hr2 (j := 1) rfl) ?_
        refine x_neb _ rfl rfl rfl Try.underlying4 rfl rfl rfl ?_
        refine x_pickF rfl rfl rfl rfl rfl ?_
        refine x_move rfl rfl rfl rfl ?_
        refine Ex.split 41 rfl (fun hsp2 => ?_) (fun hsp2 => ?_)
        ·
          try simp only [decide_eq_true_eq, decide_eq_false_iff_not, Bool.not_eq_true', Bool.not_eq_false', beq_iff_eq, bne_iff_ne, ne_eq, Bool.not_eq_eq_eq_not, Bool.not_true, Bool.not_false, beq_eq_false_iff_ne, bne_eq_false_iff_eq, Bool.not_not, gt_iff_lt, ge_iff_le] at hsp2
          refine Ex.skip_ rfl rfl rfl ?_
          refine Ex.skip_ rfl rfl rfl ?_
          refine Ex.skip_ rfl rfl rfl ?_
          refine Ex.skip_ rfl rfl rfl ?_
          refine Ex.skip_ rfl rfl rfl ?_
          refine Ex.skip_ rfl rfl rfl ?_
          refine Ex.skip_ rfl rfl rfl ?_
          refine Ex.skip_ rfl rfl rfl ?_
          refine Ex.skip_ rfl rfl rfl ?_
          refine Ex.skip_ rfl rfl rfl ?_
          refine Ex.skip_ rfl rfl rfl ?_
          refine Ex.skip_ rfl rfl rfl ?_
          refine Ex.skip_ rfl rfl rfl ?_
          refine x_pickT rfl rfl rfl rfl rfl ?_
          refine Ex.done (hK _ _ ?_)
          refine At.then_n ?_
          refine W.condT rfl ?_
          refine W.seq ?_
          refine W.sub [] trivial ?_
          refine W.reg [(0, false)] (by kernel_rfl) ?_
          intro K hK
          refine x_assign rfl rfl rfl rfl ?_
          refine Ex.done (hK _ _ ?_)
          refine At.then_n ?_
          refine W.ret ?_
          refine At.blk_r ?_
          refine At.then_r ?_
          refine At.loop_r ?_
          refine At.blk_r ?_
          refine At.then_r ?_
          refine At.ret1 (.tmp 4) rfl ⟨rfl, trivial⟩ ?_
          exact ⟨by rw [decide_eq_false (hne fun e => hsp2 (by rw [e]))], M.frm⟩
        ·
          try simp only [decide_eq_true_eq, decide_eq_false_iff_not, Bool.not_eq_true', Bool.not_eq_false', beq_iff_eq, bne_iff_ne, ne_eq, Bool.not_eq_eq_eq_not, Bool.not_true, Bool.not_false, beq_eq_false_iff_ne, bne_eq_false_iff_eq, Bool.not_not, gt_iff_lt, ge_iff_le] at hsp2
          refine x_move rfl rfl rfl rfl ?_
          refine x_move rfl rfl rfl rfl ?_
          refine x_ia j rfl rfl rfl Try.underlying22 sz25 rfl rfl rfl (by omega) ?_
          refine x_fa rfl rfl rfl fo25_2 rfl ?_
          refine x_ld rfl rfl rfl Try.underlying23 rfl rfl (RowAt.cell hr1 (j := 2) rfl) ?_
          refine x_cvbs _ rfl rfl rfl Try.underlying23 Try.underlying5 Try.underlying9 rfl (strOf_bytes hb1) ?_
          refine x_move rfl rfl rfl rfl ?_
          refine x_move rfl rfl rfl rfl ?_
          refine x_ia j rfl rfl rfl Try.underlying22 sz25 rfl rfl rfl (by omega) ?_
          refine x_fa rfl rfl rfl fo25_2 rfl ?_
          refine x_ld rfl rfl rfl Try.underlying23 rfl rfl (RowAt.cell hr2 (j := 2) rfl) ?_
          refine x_cvbs _ rfl rfl rfl Try.underlying23 Try.underlying5 Try.underlying9 rfl (strOf_bytes hb2) ?_
          refine x_neS _ rfl rfl rfl rfl rfl rfl ?_
          refine x_pickF rfl rfl rfl rfl rfl ?_
          refine Ex.done (hK _ _ ?_)
          refine At.then_n ?_
          refine W.cond rfl (fun hco5 => ?_) (fun hco5 => ?_)
          · try simp only [decide_eq_true_eq, decide_eq_false_iff_not, Bool.not_eq_true', Bool.not_eq_false', beq_iff_eq, bne_iff_ne, ne_eq, Bool.not_eq_eq_eq_not, Bool.not_true, Bool.not_false, beq_eq_false_iff_ne, bne_eq_false_iff_eq, Bool.not_not, gt_iff_lt, ge_iff_le] at hco5
            refine W.seq ?_
            refine W.sub [] trivial ?_
            refine W.reg [(0, false)] (by kernel_rfl) ?_
            intro K hK
            refine x_assign rfl rfl rfl rfl ?_
            refine Ex.done (hK _ _ ?_)
            refine At.then_n ?_
            refine W.ret ?_
            refine At.blk_r ?_
            refine At.then_r ?_
            refine At.loop_r ?_
            refine At.blk_r ?_
            refine At.then_r ?_
            refine At.ret1 (.tmp 4) rfl ⟨rfl, trivial⟩ ?_
            exact ⟨by rw [decide_eq_false (hne fun e => hco5 (by rw [e]))], M.frm⟩
          · try simp only [decide_eq_true_eq, decide_eq_false_iff_not, Bool.not_eq_true', Bool.not_eq_false', beq_iff_eq, bne_iff_ne, ne_eq, Bool.not_eq_eq_eq_not, Bool.not_true, Bool.not_false, beq_eq_false_iff_ne, bne_eq_false_iff_eq, Bool.not_not, gt_iff_lt, ge_iff_le] at hco5
            refine W.skip ?_
            refine At.blk_n ?_
            refine At.then_n ?_
            refine W.sub [(0, _), (1, _), (5, _)] ⟨rfl, rfl, rfl, trivial⟩ ?_
            refine W.reg [(0, false), (1, false), (2, false)] (by kernel_rfl) ?_
            intro K hK
            refine x_move rfl rfl rfl rfl ?_
            refine x_add _ rfl rfl rfl rfl rfl (wadd (by omega) (by omega)) ?_
            refine x_assign rfl rfl rfl rfl ?_
            refine Ex.done (hK _ _ ?_)
            exact At.back (j + 1) ⟨rfl, rfl, rfl, trivial⟩ ⟨by omega, by rw [take_mem hx, take_mem hy, heq, show x = y from Prod.ext hsp1 (Prod.ext hsp2 hco5)], M⟩ (by first | omega | (simp only; omega) | (simp; done) | (simp; omega))
    · try simp only [decide_eq_true_eq, decide_eq_false_iff_not, Bool.not_eq_true', Bool.not_eq_false', beq_iff_eq, bne_iff_ne, ne_eq, Bool.not_eq_eq_eq_not, Bool.not_true, Bool.not_false, beq_eq_false_iff_ne, bne_eq_false_iff_eq, Bool.not_not, gt_iff_lt, ge_iff_le] at hco2
      refine W.exit ?_
      refine At.then_x ?_
      refine At.loop_x ?_
      refine At.blk_x ?_
      refine At.then_n ?_
      refine W.seq ?_
      refine W.sub [] trivial ?_
      refine W.reg [(0, false)] (by kernel_rfl) ?_
      intro K hK
      refine x_assign rfl rfl rfl rfl ?_
      refine Ex.done (hK _ _ ?_)
      refine At.then_n ?_
      refine W.ret ?_
      refine At.ret1 (.tmp 4) rfl ⟨rfl, trivial⟩ ?_
      have hj2 : j = l.length := by omega
      subst hj2
      rw [List.take_length, hlk, List.take_length] at heq
      exact ⟨by rw [decide_eq_true heq], M.frm⟩
end Go.Proofs.Ytccfmfehfhfhhaa

namespace Go.Proofs.Ytccfmfehfhfhhaa
open Go Go.Fw Go.RowKit Go.Proofs
set_option linter.unusedVariables false
set_option linter.unusedSimpArgs false

set_option maxRecDepth 100000 in
theorem with_c {w00 w0 : World} {L X : List (Nat × Obj)} {v : Value} {l : List Raw} {x : Raw} {dv : Value} (M : Sep w00 (L ++ X) w0) (h : FilesK w00 L v l) (hd : SgK w00 L dv 1 x.2.2.length (byteCs x.2.2)) (hl : l.length ≤ 5000) (hnm : ∀ y ∈ l, y.1.length ≤ 2000) (hxl : x.1.length ≤ 2000) : Ret Try.prog 35 #[.agg #[v], .agg #[strV x.1, .bool x.2.1, dv]] w0 fun r w' => ∃ u L', r = .agg #[u] ∧ FilesK w00 (L ++ L') u (withR l x) ∧ Sep w00 ((L ++ L') ++ X) w' := by
  have hFK := h
  obtain ⟨fs, hfm, hfs, hfd⟩ := h
  have hfl : fs.length = l.length := by rw [← hfm]; simp
  rw [hfl] at hfs
  obtain ⟨pv, cv, rfl⟩ := (hfs _ _ M (fun y hy => by simp [hy])).shape
  have hcap := Sg.capLe (hfs _ _ M (fun y hy => by simp [hy]))
  obtain ⟨pd, cd, rfl⟩ := (hd _ _ M (fun y hy => by simp [hy])).shape
  have hone : ∀ f ∈ fs, f.2.oneCell' = true := fun f hf => (hfd f hf).2
  refine Ret.of_W Try.func35 rfl Try.ntmps35 rfl ?_
  refine W.seq ?_
  refine W.sub [(0, _), (1, _)] ⟨rfl, rfl, trivial⟩ ?_
  refine W.reg [(0, true), (1, true), (2, true)] (by kernel_rfl) ?_
  intro K hK
  refine x_box [_] rfl rfl rfl rfl rfl ?_
  intro bbx1 wbx1 hbbx1 hwbx1
  have M := M.acons hbbx1 hwbx1
  refine ⟨trivial, ?_⟩
  refine x_box [_, _, _] rfl rfl rfl rfl rfl ?_
  intro bbx2 wbx2 hbbx2 hwbx2
  have M := M.acons hbbx2 hwbx2
  refine ⟨trivial, ?_⟩
  refine x_alloc [_] rfl rfl rfl ze32 rfl ?_
  intro bal1 wal1 hbal1 hwal1
  have M := M.acons hbal1 hwal1
  refine ⟨trivial, ?_⟩
  refine Ex.done (hK _ _ ?_)
  refine At.then_n ?_
  refine W.seq ?_
  refine W.sub [(2, _), (3, _), (4, _)] ⟨rfl, rfl, rfl, trivial⟩ ?_
  refine W.reg [(0, false)] (by kernel_rfl) ?_
  intro K hK
  refine x_assign rfl rfl rfl rfl ?_
  refine Ex.done (hK _ _ ?_)
  refine At.then_n ?_
  refine W.seq ?_
  refine W.block ?_
  refine W.loop (σ := Nat) (fun j => [(2, _), (3, _), (4, _), (5, .int .i64 ((j : Nat) : Int))]) (fun j w => j ≤ l.length ∧ (∀ y ∈ l.take j, compareP y.1 x.1 < 0) ∧ Sep w00 ([(bal1, .cells [.slice none 0 0].toArray 32 (0, 0)), (bbx2, .cells [strV x.1, .bool x.2.1, .slice pd x.2.2.length cd].toArray 25 (0, 0)), (bbx1, .cells [.slice pv l.length cv].toArray 32 (0, 0))] ++ (L ++ X)) w) (fun j => l.length - j) 0 ⟨rfl, rfl, rfl, rfl, trivial⟩ ⟨Nat.zero_le _, by simp, M⟩ ?_
  rintro j w ⟨hj, hlt, M⟩
  refine W.seq ?_
  refine W.seq ?_
  refine W.sub [(2, _), (3, _), (4, _), (5, _)] ⟨rfl, rfl, rfl, rfl, trivial⟩ ?_
  refine W.regD (by kernel_rfl) #[0, 0, 2, 6, 15, 31, 63, 127, 63, 511, 1023, 2047, 63, 4159, 16383, 32767, 65535] [(0, false), (1, false), (2, false), (3, false), (4, false), (5, false), (6, false), (7, false), (8, false), (9, false), (10, false), (11, false), (12, false), (13, false), (14, true), (15, false), (16, false)] (by kernel_rfl) ?_
  intro K wD1 hK hwD1
  have M := M.drew hwD1
  refine x_move rfl rfl rfl rfl ?_
  refine x_fa rfl rfl rfl fo32_0 rfl ?_
  refine x_ld rfl rfl rfl Try.underlying22 rfl rfl (cell_of (by first | exact M.at_ 0 rfl | exact M.at_ 1 rfl | exact M.at_ 2 rfl | exact M.at_ 3 rfl | exact M.at_ 4 rfl | exact M.at_ 5 rfl | exact M.at_ 6 rfl | exact M.at_ 7 rfl) rfl) ?_
  refine x_len rfl rfl rfl rfl Try.underlying22 rfl ?_
  refine x_lss _ rfl rfl rfl rfl rfl rfl ?_
  refine x_move rfl rfl rfl rfl ?_
  refine Ex.split 12 rfl (fun hsp1 => ?_) (fun hsp1 => ?_)
  ·
    try simp only [decide_eq_true_eq, decide_eq_false_iff_not, Bool.not_eq_true', Bool.not_eq_false', beq_iff_eq, bne_iff_ne, ne_eq, Bool.not_eq_eq_eq_not, Bool.not_true, Bool.not_false, beq_eq_false_iff_ne, bne_eq_false_iff_eq, Bool.not_not, gt_iff_lt, ge_iff_le] at hsp1
    obtain ⟨y, hy⟩ := get_lt (l := l) (q := j) (by omega)
    have hfa := hFK.at_ M (fun y hy => by simp [hy])
    obtain ⟨bb, off, rfl, _⟩ := hfa.blk (j := j) (by omega)
    obtain ⟨py, cy, hrow, _⟩ := hfa.row hy
    have hyl := hnm y (List.mem_of_getElem? hy)
    refine x_fa rfl rfl rfl fo32_0 rfl ?_
    refine x_ld rfl rfl rfl Try.underlying22 rfl rfl (cell_of (by first | exact M.at_ 0 rfl | exact M.at_ 1 rfl | exact M.at_ 2 rfl | exact M.at_ 3 rfl | exact M.at_ 4 rfl | exact M.at_ 5 rfl | exact M.at_ 6 rfl | exact M.at_ 7 rfl) rfl) ?_
    refine x_move rfl rfl rfl rfl ?_
    refine x_ia j rfl rfl rfl Try.underlying22 sz25 rfl rfl rfl (by omega) ?_
    refine x_fa rfl rfl rfl fo25_0 rfl ?_
    refine x_ld rfl rfl rfl Try.underlying9 rfl rfl (RowAt.cell hrow (j := 0) rfl) ?_
    refine x_fa rfl rfl rfl fo25_0 rfl ?_
    refine x_ld rfl rfl rfl Try.underlying9 rfl rfl (cell_of (by first | exact M.at_ 0 rfl | exact M.at_ 1 rfl | exact M.at_ 2 rfl | exact M.at_ 3 rfl | exact M.at_ 4 rfl | exact M.at_ 5 rfl | exact M.at_ 6 rfl | exact M.at_ 7 rfl) rfl) ?_
    refine x_call rfl rfl rfl rfl rfl en26 (rcompare_c (by omega) (by omega)) ?_
    rintro r wcall1 ⟨rfl, hncall1⟩
    have M := M.new hncall1
    refine ⟨⟨.inl (by kernel_rfl), .inl (by kernel_rfl), .inl (by kernel_rfl), .inl (by kernel_rfl), trivial⟩, ?_⟩
    refine x_lss _ rfl rfl rfl rfl rfl rfl ?_
    refine x_pickT rfl rfl rfl rfl rfl ?_
    refine Ex.done (hK _ _ ?_)
    refine At.then_n ?_
    refine W.cond rfl (fun hco1 => ?_) (fun hco1 => ?_)
    · try simp only [decide_eq_true_eq, decide_eq_false_iff_not, Bool.not_eq_true', Bool.not_eq_false', beq_iff_eq, bne_iff_ne, ne_eq, Bool.not_eq_eq_eq_not, Bool.not_true, Bool.not_false, beq_eq_false_iff_ne, bne_eq_false_iff_eq, Bool.not_not, gt_iff_lt, ge_iff_le] at hco1
      refine W.skip ?_
      refine At.then_n ?_
      refine W.block ?_
      refine W.sub [(2, _), (3, _), (4, _), (5, _)] ⟨rfl, rfl, rfl, rfl, trivial⟩ ?_
      refine W.reg [(0, false), (1, false), (2, false)] (by kernel_rfl) ?_
      intro K hK
      refine x_move rfl rfl rfl rfl ?_
      refine x_add _ rfl rfl rfl rfl rfl (wadd (by omega) (by omega)) ?_
      refine x_assign rfl rfl rfl rfl ?_
      refine Ex.done (hK _ _ ?_)
      refine At.blk_n ?_
      exact At.back (j + 1) ⟨rfl, rfl, rfl, rfl, trivial⟩ ⟨by omega, fun z hz => by
        rw [take_mem hy] at hz
        rcases List.mem_append.1 hz with hz | hz
        · exact hlt z hz
        · rw [List.mem_singleton.1 hz]; exact hco1, M⟩ (by first | omega | (simp only; omega) | (simp; done) | (simp; omega))
    · try simp only [decide_eq_true_eq, decide_eq_false_iff_not, Bool.not_eq_true', Bool.not_eq_false', beq_iff_eq, bne_iff_ne, ne_eq, Bool.not_eq_eq_eq_not, Bool.not_true, Bool.not_false, beq_eq_false_iff_ne, bne_eq_false_iff_eq, Bool.not_not, gt_iff_lt, ge_iff_le] at hco1
      have hW := withR_at hj hlt (fun z hz => by rw [hy] at hz; cases hz; exact hco1)
      refine W.exit ?_
      refine At.then_x ?_
      refine At.loop_x ?_
      refine At.blk_x ?_
      refine At.then_n ?_
      refine W.seq ?_
      refine W.sub [(2, _), (3, _), (4, _), (5, _)] ⟨rfl, rfl, rfl, rfl, trivial⟩ ?_
      refine W.reg [(0, true), (1, false), (2, false), (3, false), (4, false), (5, true), (6, false)] (by kernel_rfl) ?_
      intro K hK
      refine x_bs0 rfl rfl rfl Try.underlying22 sz25 ?_
      intro bb wb hbb hwb
      have M := M.acons hbb hwb
      refine ⟨trivial, ?_⟩
      refine x_fa rfl rfl rfl fo32_0 rfl ?_
      refine x_ld rfl rfl rfl Try.underlying22 rfl rfl (cell_of (by first | exact M.at_ 2 rfl | exact M.at_ 3 rfl) rfl) ?_
      refine x_move rfl rfl rfl rfl ?_
      refine x_slh j rfl rfl rfl Try.underlying22 sz25 rfl rfl rfl (by omega) ?_
      refine x_apL (L := [_]) (cs := []) (nn := 0) rfl rfl rfl rfl Try.underlying22 sz25 ze25 rfl by25 rfl rfl (.inr ⟨bb, 0, [], _, rfl, rfl, rfl, rfl⟩) M (by simp) ((Sg.take (hfs _ _ M (fun y hy => by simp [hy])) hj).src Try.underlying22 (fun u hu => fCs_one hone u (List.mem_of_mem_take hu))) (by omega) (by decide) (by omega) ?_
      intro Lo v6 wv6 how M
      rw [Nat.zero_add, List.nil_append] at how
      have M := M.perm List.perm_append_comm
      rw [fCs_take (by omega)] at how
      have ho1 : ∀ f ∈ fs.take j, f.2.oneCell' = true := fun f hf => hone f (List.mem_of_mem_take hf)
      obtain ⟨p6, c6, rfl⟩ := how.shape
      refine ⟨trivial, ?_⟩
      refine x_assign rfl rfl rfl rfl ?_
      refine Ex.done (hK _ _ ?_)
      refine At.then_n ?_
      refine W.seq ?_
      refine W.sub [(2, _), (3, _), (4, _), (5, _), (6, _)] ⟨rfl, rfl, rfl, rfl, rfl, trivial⟩ ?_
      refine W.reg [(0, false), (1, false), (2, true), (3, true), (4, false)] (by kernel_rfl) ?_
      intro K hK
      refine x_move rfl rfl rfl rfl ?_
      refine x_ldA [_, _, _] rfl rfl rfl Try.underlying25 rfl sz25 rfl rfl ⟨_, _, _, (by first | exact M.at_ 0 rfl | exact M.at_ 1 rfl | exact M.at_ 2 rfl | exact M.at_ 3 rfl | exact M.at_ 4 rfl | exact M.at_ 5 rfl | exact M.at_ 6 rfl | exact M.at_ 7 rfl), rfl⟩ ?_
      refine x_bs1 (cs := [strV x.1, .bool x.2.1, .slice pd x.2.2.length cd]) rfl rfl rfl Try.underlying22 sz25 ze25 (Z := [_, _, _]) rfl rfl (by decide) (by decide) rfl rfl rfl ?_
      intro bbs2 wbs2 hbbs2 hwbs2
      have M0 := M.acons hbbs2 hwbs2
      have hslbs2 : Sl wbs2 (.slice (some ⟨bbs2, 0, none⟩) 1 1) 3 1 [strV x.1, .bool x.2.1, .slice pd x.2.2.length cd] := .inr ⟨bbs2, 0, 1, _, _, _, rfl, by omega, M0.at_ 0 rfl, rfl, rfl⟩
      have M := M0.tail
      refine ⟨trivial, ?_⟩
      refine x_apL rfl rfl rfl rfl Try.underlying22 sz25 ze25 rfl by25 rfl rfl how (M.perm List.perm_append_comm) (fCs_one ho1) (hslbs2.src Try.underlying22 (by intro u hu; simp at hu; rcases hu with rfl | rfl | rfl <;> rfl)) (by omega) (by decide) (by omega) ?_
      intro Lo v7 wv7 how M
      have M := M.perm List.perm_append_comm
      obtain ⟨p7, c7, rfl⟩ := how.shape
      refine ⟨trivial, ?_⟩
      refine x_assign rfl rfl rfl rfl ?_
      refine Ex.done (hK _ _ ?_)
      refine At.then_n ?_
      refine W.seq ?_
      refine W.sub [(2, _), (4, _), (5, _), (6, _)] ⟨rfl, rfl, rfl, rfl, trivial⟩ ?_
      refine W.reg [(0, false), (1, false), (2, false), (3, false), (4, false), (5, true), (6, false), (7, true)] (by kernel_rfl) ?_
      intro K hK
      refine x_move rfl rfl rfl rfl ?_
      refine x_fa rfl rfl rfl fo32_0 rfl ?_
      refine x_ld rfl rfl rfl Try.underlying22 rfl rfl (cell_of (by first | exact M.at_ 2 rfl | exact M.at_ 3 rfl) rfl) ?_
      refine x_move rfl rfl rfl rfl ?_
      refine x_sll j rfl rfl rfl Try.underlying22 sz25 rfl rfl rfl hj ?_
      refine x_apL rfl rfl rfl rfl Try.underlying22 sz25 ze25 rfl by25 rfl rfl how (M.perm List.perm_append_comm) (fun u hu => by
        rcases List.mem_append.1 hu with hu | hu
        · exact fCs_one ho1 u hu
        · simp at hu; rcases hu with rfl | rfl | rfl <;> rfl) ((Sg.drop (hfs _ _ M (fun y hy => by simp [hy])) hj).src Try.underlying22 (fun u hu => fCs_one hone u (List.mem_of_mem_drop hu))) (by omega) (by decide) (by omega) ?_
      intro Lo v8 wv8 how M
      have M := M.perm List.perm_append_comm
      obtain ⟨p8, c8, rfl⟩ := how.shape
      refine ⟨trivial, ?_⟩
      refine x_build [_] rfl rfl rfl pl32 ze32 rfl rfl rfl ?_
      refine x_st [_] _ rfl rfl rfl sz32 rfl rfl rfl rfl (by first | exact M.at_ 0 rfl | exact M.at_ 1 rfl | exact M.at_ 2 rfl | exact M.at_ 3 rfl | exact M.at_ 4 rfl | exact M.at_ 5 rfl | exact M.at_ 6 rfl | exact M.at_ 7 rfl) rfl rfl rfl ?_
      intro wst1 hwst1
      have M := by first | exact M.put 0 rfl hwst1 | exact M.put 1 rfl hwst1 | exact M.put 2 rfl hwst1 | exact M.put 3 rfl hwst1 | exact M.put 4 rfl hwst1 | exact M.put 5 rfl hwst1 | exact M.put 6 rfl hwst1 | exact M.put 7 rfl hwst1
      refine ⟨trivial, ?_⟩
      refine Ex.done (hK _ _ ?_)
      refine At.then_n ?_
      refine W.ret ?_
      refine At.ret1 (.cell 4 32) rfl ⟨⟨_, rfl, run_loadVarA (l := [_]) Try.underlying32 rfl sz32 ⟨_, _, _, (by first | exact M.at_ 0 rfl | exact M.at_ 1 rfl | exact M.at_ 2 rfl | exact M.at_ 3 rfl | exact M.at_ 4 rfl | exact M.at_ 5 rfl | exact M.at_ 6 rfl | exact M.at_ 7 rfl), rfl⟩ (Nat.zero_lt_succ _)⟩, trivial⟩ ?_
      refine ⟨_, Lo, rfl, ?_, ?_⟩
      · rw [hW]
        refine ⟨fs.take j ++ (x, .slice pd x.2.2.length cd) :: fs.drop j, by rw [List.map_append, List.map_cons, List.map_take, List.map_drop, hfm], ?_, ?_⟩
        · have e1 : (fs.take j ++ (x, Value.slice pd x.2.2.length cd) :: fs.drop j).length = j + 1 + (l.length - j) := by simp; omega
          have e2 : fCs (fs.take j ++ (x, Value.slice pd x.2.2.length cd) :: fs.drop j) = (fCs (fs.take j) ++ [strV x.1, .bool x.2.1, .slice pd x.2.2.length cd]) ++ (fCs fs).drop (j * 3) := by rw [fCs_drop (by omega), fCs_app]; simp [fCs]
          rw [e1, e2]
          exact SgK.own how (by decide) (fun y hy => List.mem_append_right _ hy)
        · intro f hf
          rcases List.mem_append.1 hf with hf | hf
          · exact ⟨(hfd f (List.mem_of_mem_take hf)).1.mono (fun y hy => List.mem_append_left _ hy), hone f (List.mem_of_mem_take hf)⟩
          · rcases List.mem_cons.1 hf with rfl | hf
            · exact ⟨hd.mono (fun y hy => List.mem_append_left _ hy), rfl⟩
            · exact ⟨(hfd f (List.mem_of_mem_drop hf)).1.mono (fun y hy => List.mem_append_left _ hy), hone f (List.mem_of_mem_drop hf)⟩
      · have M2 : Sep w00 ((L ++ X) ++ Lo) _ := St.tail (St.tail (St.tail M))
        exact M2.perm (by rw [List.append_assoc, List.append_assoc]; exact List.Perm.append_left _ List.perm_append_comm)
  ·
    try simp only [decide_eq_true_eq, decide_eq_false_iff_not, Bool.not_eq_true', Bool.not_eq_false', beq_iff_eq, bne_iff_ne, ne_eq, Bool.not_eq_eq_eq_not, Bool.not_true, Bool.not_false, beq_eq_false_iff_ne, bne_eq_false_iff_eq, Bool.not_not, gt_iff_lt, ge_iff_le] at hsp1
    have hW := withR_at hj hlt (fun z hz => by have := (List.getElem?_eq_some_iff.1 hz).1; omega)
    refine Ex.skip_ rfl rfl rfl ?_
    refine Ex.skip_ rfl rfl rfl ?_
    refine Ex.skip_ rfl rfl rfl ?_
    refine Ex.skip_ rfl rfl rfl ?_
    refine Ex.skip_ rfl rfl rfl ?_
    refine Ex.skip_ rfl rfl rfl ?_
    refine Ex.skip_ rfl rfl rfl ?_
    refine Ex.skip_ rfl rfl rfl ?_
    refine Ex.skipm_ rfl rfl rfl ?_
    refine Ex.skip_ rfl rfl rfl ?_
    refine x_pickF rfl rfl rfl rfl rfl ?_
    refine Ex.done (hK _ _ ?_)
    refine At.then_n ?_
    refine W.condF rfl ?_
    refine W.exit ?_
    refine At.then_x ?_
    refine At.loop_x ?_
    refine At.blk_x ?_
    refine At.then_n ?_
    refine W.seq ?_
    refine W.sub [(2, _), (3, _), (4, _), (5, _)] ⟨rfl, rfl, rfl, rfl, trivial⟩ ?_
    refine W.reg [(0, true), (1, false), (2, false), (3, false), (4, false), (5, true), (6, false)] (by kernel_rfl) ?_
    intro K hK
    refine x_bs0 rfl rfl rfl Try.underlying22 sz25 ?_
    intro bb wb hbb hwb
    have M := M.acons hbb hwb
    refine ⟨trivial, ?_⟩
    refine x_fa rfl rfl rfl fo32_0 rfl ?_
    refine x_ld rfl rfl rfl Try.underlying22 rfl rfl (cell_of (by first | exact M.at_ 2 rfl | exact M.at_ 3 rfl) rfl) ?_
    refine x_move rfl rfl rfl rfl ?_
    refine x_slh j rfl rfl rfl Try.underlying22 sz25 rfl rfl rfl (by omega) ?_
    refine x_apL (L := [_]) (cs := []) (nn := 0) rfl rfl rfl rfl Try.underlying22 sz25 ze25 rfl by25 rfl rfl (.inr ⟨bb, 0, [], _, rfl, rfl, rfl, rfl⟩) M (by simp) ((Sg.take (hfs _ _ M (fun y hy => by simp [hy])) hj).src Try.underlying22 (fun u hu => fCs_one hone u (List.mem_of_mem_take hu))) (by omega) (by decide) (by omega) ?_
    intro Lo v6 wv6 how M
    rw [Nat.zero_add, List.nil_append] at how
    have M := M.perm List.perm_append_comm
    rw [fCs_take (by omega)] at how
    have ho1 : ∀ f ∈ fs.take j, f.2.oneCell' = true := fun f hf => hone f (List.mem_of_mem_take hf)
    obtain ⟨p6, c6, rfl⟩ := how.shape
    refine ⟨trivial, ?_⟩
    refine x_assign rfl rfl rfl rfl ?_
    refine Ex.done (hK _ _ ?_)
    refine At.then_n ?_
    refine W.seq ?_
    refine W.sub [(2, _), (3, _), (4, _), (5, _), (6, _)] ⟨rfl, rfl, rfl, rfl, rfl, trivial⟩ ?_
    refine W.reg [(0, false), (1, false), (2, true), (3, true), (4, false)] (by kernel_rfl) ?_
    intro K hK
    refine x_move rfl rfl rfl rfl ?_
    refine x_ldA [_, _, _] rfl rfl rfl Try.underlying25 rfl sz25 rfl rfl ⟨_, _, _, (by first | exact M.at_ 0 rfl | exact M.at_ 1 rfl | exact M.at_ 2 rfl | exact M.at_ 3 rfl | exact M.at_ 4 rfl | exact M.at_ 5 rfl | exact M.at_ 6 rfl | exact M.at_ 7 rfl), rfl⟩ ?_
    refine x_bs1 (cs := [strV x.1, .bool x.2.1, .slice pd x.2.2.length cd]) rfl rfl rfl Try.underlying22 sz25 ze25 (Z := [_, _, _]) rfl rfl (by decide) (by decide) rfl rfl rfl ?_
    intro bbs4 wbs4 hbbs4 hwbs4
    have M0 := M.acons hbbs4 hwbs4
    have hslbs4 : Sl wbs4 (.slice (some ⟨bbs4, 0, none⟩) 1 1) 3 1 [strV x.1, .bool x.2.1, .slice pd x.2.2.length cd] := .inr ⟨bbs4, 0, 1, _, _, _, rfl, by omega, M0.at_ 0 rfl, rfl, rfl⟩
    have M := M0.tail
    refine ⟨trivial, ?_⟩
    refine x_apL rfl rfl rfl rfl Try.underlying22 sz25 ze25 rfl by25 rfl rfl how (M.perm List.perm_append_comm) (fCs_one ho1) (hslbs4.src Try.underlying22 (by intro u hu; simp at hu; rcases hu with rfl | rfl | rfl <;> rfl)) (by omega) (by decide) (by omega) ?_
    intro Lo v7 wv7 how M
    have M := M.perm List.perm_append_comm
    obtain ⟨p7, c7, rfl⟩ := how.shape
    refine ⟨trivial, ?_⟩
    refine x_assign rfl rfl rfl rfl ?_
    refine Ex.done (hK _ _ ?_)
    refine At.then_n ?_
    refine W.seq ?_
    refine W.sub [(2, _), (4, _), (5, _), (6, _)] ⟨rfl, rfl, rfl, rfl, trivial⟩ ?_
    refine W.reg [(0, false), (1, false), (2, false), (3, false), (4, false), (5, true), (6, false), (7, true)] (by kernel_rfl) ?_
    intro K hK
    refine x_move rfl rfl rfl rfl ?_
    refine x_fa rfl rfl rfl fo32_0 rfl ?_
    refine x_ld rfl rfl rfl Try.underlying22 rfl rfl (cell_of (by first | exact M.at_ 2 rfl | exact M.at_ 3 rfl) rfl) ?_
    refine x_move rfl rfl rfl rfl ?_
    refine x_sll j rfl rfl rfl Try.underlying22 sz25 rfl rfl rfl hj ?_
    refine x_apL rfl rfl rfl rfl Try.underlying22 sz25 ze25 rfl by25 rfl rfl how (M.perm List.perm_append_comm) (fun u hu => by
      rcases List.mem_append.1 hu with hu | hu
      · exact fCs_one ho1 u hu
      · simp at hu; rcases hu with rfl | rfl | rfl <;> rfl) ((Sg.drop (hfs _ _ M (fun y hy => by simp [hy])) hj).src Try.underlying22 (fun u hu => fCs_one hone u (List.mem_of_mem_drop hu))) (by omega) (by decide) (by omega) ?_
    intro Lo v8 wv8 how M
    have M := M.perm List.perm_append_comm
    obtain ⟨p8, c8, rfl⟩ := how.shape
    refine ⟨trivial, ?_⟩
    refine x_build [_] rfl rfl rfl pl32 ze32 rfl rfl rfl ?_
    refine x_st [_] _ rfl rfl rfl sz32 rfl rfl rfl rfl (by first | exact M.at_ 0 rfl | exact M.at_ 1 rfl | exact M.at_ 2 rfl | exact M.at_ 3 rfl | exact M.at_ 4 rfl | exact M.at_ 5 rfl | exact M.at_ 6 rfl | exact M.at_ 7 rfl) rfl rfl rfl ?_
    intro wst2 hwst2
    have M := by first | exact M.put 0 rfl hwst2 | exact M.put 1 rfl hwst2 | exact M.put 2 rfl hwst2 | exact M.put 3 rfl hwst2 | exact M.put 4 rfl hwst2 | exact M.put 5 rfl hwst2 | exact M.put 6 rfl hwst2 | exact M.put 7 rfl hwst2
    refine ⟨trivial, ?_⟩
    refine Ex.done (hK _ _ ?_)
    refine At.then_n ?_
    refine W.ret ?_
    refine At.ret1 (.cell 4 32) rfl ⟨⟨_, rfl, run_loadVarA (l := [_]) Try.underlying32 rfl sz32 ⟨_, _, _, (by first | exact M.at_ 0 rfl | exact M.at_ 1 rfl | exact M.at_ 2 rfl | exact M.at_ 3 rfl | exact M.at_ 4 rfl | exact M.at_ 5 rfl | exact M.at_ 6 rfl | exact M.at_ 7 rfl), rfl⟩ (Nat.zero_lt_succ _)⟩, trivial⟩ ?_
    refine ⟨_, Lo, rfl, ?_, ?_⟩
    · rw [hW]
      refine ⟨fs.take j ++ (x, .slice pd x.2.2.length cd) :: fs.drop j, by rw [List.map_append, List.map_cons, List.map_take, List.map_drop, hfm], ?_, ?_⟩
      · have e1 : (fs.take j ++ (x, Value.slice pd x.2.2.length cd) :: fs.drop j).length = j + 1 + (l.length - j) := by simp; omega
        have e2 : fCs (fs.take j ++ (x, Value.slice pd x.2.2.length cd) :: fs.drop j) = (fCs (fs.take j) ++ [strV x.1, .bool x.2.1, .slice pd x.2.2.length cd]) ++ (fCs fs).drop (j * 3) := by rw [fCs_drop (by omega), fCs_app]; simp [fCs]
        rw [e1, e2]
        exact SgK.own how (by decide) (fun y hy => List.mem_append_right _ hy)
      · intro f hf
        rcases List.mem_append.1 hf with hf | hf
        · exact ⟨(hfd f (List.mem_of_mem_take hf)).1.mono (fun y hy => List.mem_append_left _ hy), hone f (List.mem_of_mem_take hf)⟩
        · rcases List.mem_cons.1 hf with rfl | hf
          · exact ⟨hd.mono (fun y hy => List.mem_append_left _ hy), rfl⟩
          · exact ⟨(hfd f (List.mem_of_mem_drop hf)).1.mono (fun y hy => List.mem_append_left _ hy), hone f (List.mem_of_mem_drop hf)⟩
    · have M2 : Sep w00 ((L ++ X) ++ Lo) _ := St.tail (St.tail (St.tail M))
      exact M2.perm (by rw [List.append_assoc, List.append_assoc]; exact List.Perm.append_left _ List.perm_append_comm)
end Go.Proofs.Ytccfmfehfhfhhaa

namespace Go.Proofs.Ytccfmfehfhfhhaa
open Go Go.Fw Go.RowKit Go.Proofs
set_option linter.unusedVariables false
set_option linter.unusedSimpArgs false

set_option maxRecDepth 100000 in
theorem without_c {w00 w0 : World} {L X : List (Nat × Obj)} {v : Value} {l : List Raw} {j : Nat} (M : Sep w00 (L ++ X) w0) (h : FilesK w00 L v l) (hl : l.length ≤ 1000) (hj : j < l.length) : Ret Try.prog 72 #[.agg #[v], .int .i64 ((j : Nat) : Int)] w0 fun r w' => ∃ u L', r = .agg #[u] ∧ FilesK w00 (L ++ L') u (l.eraseIdx j) ∧ Sep w00 ((L ++ L') ++ X) w' := by
  have hFK := h
  obtain ⟨fs, hfm, hfs, hfd⟩ := h
  have hfl : fs.length = l.length := by rw [← hfm]; simp
  rw [hfl] at hfs
  obtain ⟨pv, cv, rfl⟩ := (hfs _ _ M (fun y hy => by simp [hy])).shape
  have hcap := Sg.capLe (hfs _ _ M (fun y hy => by simp [hy]))
  have hone : ∀ f ∈ fs, f.2.oneCell' = true := fun f hf => (hfd f hf).2
  refine Ret.of_W Try.func72 rfl Try.ntmps72 rfl ?_
  refine W.seq ?_
  refine W.sub [(0, _), (1, _)] ⟨rfl, rfl, trivial⟩ ?_
  refine W.reg [(0, true), (1, true)] (by kernel_rfl) ?_
  intro K hK
  refine x_box [_] rfl rfl rfl rfl rfl ?_
  intro bbx1 wbx1 hbbx1 hwbx1
  have M := M.acons hbbx1 hwbx1
  refine ⟨trivial, ?_⟩
  refine x_alloc [_] rfl rfl rfl ze32 rfl ?_
  intro bal1 wal1 hbal1 hwal1
  have M := M.acons hbal1 hwal1
  refine ⟨trivial, ?_⟩
  refine Ex.done (hK _ _ ?_)
  refine At.then_n ?_
  refine W.seq ?_
  refine W.sub [(1, _), (2, _), (4, _)] ⟨rfl, rfl, rfl, trivial⟩ ?_
  refine W.regD (by kernel_rfl) #[0, 0, 2, 0, 14, 31, 0, 64, 0, 256, 960, 2047, 4095, 8191] [(1, false), (2, false), (3, false), (4, false), (6, false), (7, false), (8, false), (9, false), (10, false), (0, true), (5, true), (11, true), (12, false), (13, true)] (by kernel_rfl) ?_
  intro K wD1 hK hwD1
  have M := M.drew hwD1
  refine x_fa rfl rfl rfl fo32_0 rfl ?_
  refine x_ld rfl rfl rfl Try.underlying22 rfl rfl (cell_of (by first | exact M.at_ 0 rfl | exact M.at_ 1 rfl | exact M.at_ 2 rfl | exact M.at_ 3 rfl | exact M.at_ 4 rfl | exact M.at_ 5 rfl | exact M.at_ 6 rfl | exact M.at_ 7 rfl) rfl) ?_
  refine x_move rfl rfl rfl rfl ?_
  refine x_slh j rfl rfl rfl Try.underlying22 sz25 rfl rfl rfl (by omega) ?_
  refine x_fa rfl rfl rfl fo32_0 rfl ?_
  refine x_ld rfl rfl rfl Try.underlying22 rfl rfl (cell_of (by first | exact M.at_ 0 rfl | exact M.at_ 1 rfl | exact M.at_ 2 rfl | exact M.at_ 3 rfl | exact M.at_ 4 rfl | exact M.at_ 5 rfl | exact M.at_ 6 rfl | exact M.at_ 7 rfl) rfl) ?_
  refine x_move rfl rfl rfl rfl ?_
  refine x_add _ rfl rfl rfl rfl rfl (wadd (by omega) (by omega)) ?_
  refine x_sll (j + 1) rfl rfl rfl Try.underlying22 sz25 rfl rfl (by omega) (by omega) ?_
  refine x_bs0 rfl rfl rfl Try.underlying22 sz25 ?_
  intro bb wb hbb hwb
  have M := M.acons hbb hwb
  refine ⟨⟨.inr (cell_of (by first | exact M.at_ 0 rfl | exact M.at_ 1 rfl | exact M.at_ 2 rfl | exact M.at_ 3 rfl | exact M.at_ 4 rfl | exact M.at_ 5 rfl | exact M.at_ 6 rfl | exact M.at_ 7 rfl) rfl), .inr (cell_of (by first | exact M.at_ 0 rfl | exact M.at_ 1 rfl | exact M.at_ 2 rfl | exact M.at_ 3 rfl | exact M.at_ 4 rfl | exact M.at_ 5 rfl | exact M.at_ 6 rfl | exact M.at_ 7 rfl) rfl), trivial⟩, ?_⟩
  refine x_apL (L := [_]) (cs := []) (nn := 0) rfl rfl rfl rfl Try.underlying22 sz25 ze25 rfl by25 rfl rfl (.inr ⟨bb, 0, [], _, rfl, rfl, rfl, rfl⟩) M (by simp) ((Sg.take (hfs _ _ M (fun y hy => by simp [hy])) (j := j) (by omega)).src Try.underlying22 (fun u hu => fCs_one hone u (List.mem_of_mem_take hu))) (by omega) (by decide) (by omega) ?_
  intro Lo v6 wv6 how M
  rw [Nat.zero_add, List.nil_append] at how
  have M := M.perm List.perm_append_comm
  rw [fCs_take (by omega)] at how
  have ho1 : ∀ f ∈ fs.take j, f.2.oneCell' = true := fun f hf => hone f (List.mem_of_mem_take hf)
  obtain ⟨p6, c6, rfl⟩ := how.shape
  refine ⟨⟨.inr (cell_of (by first | exact M.at_ 0 rfl | exact M.at_ 1 rfl | exact M.at_ 2 rfl | exact M.at_ 3 rfl | exact M.at_ 4 rfl | exact M.at_ 5 rfl | exact M.at_ 6 rfl | exact M.at_ 7 rfl) rfl), .inl (by kernel_rfl), trivial⟩, ?_⟩
  refine x_apL rfl rfl rfl rfl Try.underlying22 sz25 ze25 rfl by25 rfl rfl how (M.perm List.perm_append_comm) (fCs_one ho1) ((Sg.drop (hfs _ _ M (fun y hy => by simp [hy])) (j := j + 1) (by omega)).src Try.underlying22 (fun u hu => fCs_one hone u (List.mem_of_mem_drop hu))) (by omega) (by decide) (by omega) ?_
  intro Lo v7 wv7 how M
  have M := M.perm List.perm_append_comm
  obtain ⟨p7, c7, rfl⟩ := how.shape
  refine ⟨⟨.inl (by kernel_rfl), .inl (by kernel_rfl), trivial⟩, ?_⟩
  refine x_build [_] rfl rfl rfl pl32 ze32 rfl rfl rfl ?_
  refine x_st [_] _ rfl rfl rfl sz32 rfl rfl rfl rfl (by first | exact M.at_ 0 rfl | exact M.at_ 1 rfl | exact M.at_ 2 rfl | exact M.at_ 3 rfl | exact M.at_ 4 rfl | exact M.at_ 5 rfl | exact M.at_ 6 rfl | exact M.at_ 7 rfl) rfl rfl rfl ?_
  intro wst1 hwst1
  have M := by first | exact M.put 0 rfl hwst1 | exact M.put 1 rfl hwst1 | exact M.put 2 rfl hwst1 | exact M.put 3 rfl hwst1 | exact M.put 4 rfl hwst1 | exact M.put 5 rfl hwst1 | exact M.put 6 rfl hwst1 | exact M.put 7 rfl hwst1
  refine ⟨⟨.inl (by kernel_rfl), .inl (by kernel_rfl), trivial⟩, ?_⟩
  refine Ex.done (hK _ _ ?_)
  refine At.then_n ?_
  refine W.ret ?_
  refine At.ret1 (.cell 4 32) rfl ⟨⟨_, rfl, run_loadVarA (l := [_]) Try.underlying32 rfl sz32 ⟨_, _, _, (by first | exact M.at_ 0 rfl | exact M.at_ 1 rfl | exact M.at_ 2 rfl | exact M.at_ 3 rfl | exact M.at_ 4 rfl | exact M.at_ 5 rfl | exact M.at_ 6 rfl | exact M.at_ 7 rfl), rfl⟩ (Nat.zero_lt_succ _)⟩, trivial⟩ ?_
  refine ⟨_, Lo, rfl, ?_, ?_⟩
  · rw [List.eraseIdx_eq_take_drop_succ]
    refine ⟨fs.take j ++ fs.drop (j + 1), by rw [List.map_append, List.map_take, List.map_drop, hfm], ?_, ?_⟩
    · have e1 : (fs.take j ++ fs.drop (j + 1)).length = j + (l.length - (j + 1)) := by simp; omega
      have e2 : fCs (fs.take j ++ fs.drop (j + 1)) = fCs (fs.take j) ++ (fCs fs).drop ((j + 1) * 3) := by rw [fCs_drop (by omega), fCs_app]
      rw [e1, e2]
      exact SgK.own how (by decide) (fun y hy => List.mem_append_right _ hy)
    · intro f hf
      rcases List.mem_append.1 hf with hf | hf
      · exact ⟨(hfd f (List.mem_of_mem_take hf)).1.mono (fun y hy => List.mem_append_left _ hy), hone f (List.mem_of_mem_take hf)⟩
      · exact ⟨(hfd f (List.mem_of_mem_drop hf)).1.mono (fun y hy => List.mem_append_left _ hy), hone f (List.mem_of_mem_drop hf)⟩
  · have M2 : Sep w00 ((L ++ X) ++ Lo) _ := St.tail (St.tail M)
    exact M2.perm (by rw [List.append_assoc, List.append_assoc]; exact List.Perm.append_left _ List.perm_append_comm)

set_option maxRecDepth 100000 in
theorem rfind_c {w0 : World} {v : Value} {l : List Raw} {p : List UInt8} (h : FilesAt w0 v l) (hl : l.length ≤ 1000) : Ret Try.prog 57 #[.agg #[v], strV p] w0 fun r w' => ∃ dv, r = .tuple #[.agg #[strV (findL l p).1.1, .bool (findL l p).1.2.1, dv], .int .i64 (findL l p).2] ∧ BytesAt w0 dv (findL l p).1.2.2 ∧ New w0 w' := by
  have M : Sep w0 [] w0 := St.nil w0
  obtain ⟨pv, cv, rfl⟩ := h.shape
  refine Ret.of_W Try.func57 rfl Try.ntmps57 rfl ?_
  refine W.seq ?_
  refine W.sub [(0, _), (1, _)] ⟨rfl, rfl, trivial⟩ ?_
  refine W.reg [(0, true), (1, true), (2, false)] (by kernel_rfl) ?_
  intro K hK
  refine x_box [_] rfl rfl rfl rfl rfl ?_
  intro bbx1 wbx1 hbbx1 hwbx1
  have M := M.acons hbbx1 hwbx1
  refine ⟨trivial, ?_⟩
  refine x_alloc [_, _, _] rfl rfl rfl ze25 rfl ?_
  intro bal1 wal1 hbal1 hwal1
  have M := M.acons hbal1 hwal1
  refine ⟨trivial, ?_⟩
  refine x_assign rfl rfl rfl rfl ?_
  refine Ex.done (hK _ _ ?_)
  refine At.then_n ?_
  refine W.seq ?_
  refine W.sub [(1, _), (2, _), (4, _)] ⟨rfl, rfl, rfl, trivial⟩ ?_
  refine W.reg [(0, false), (1, true), (2, false), (3, false), (4, false), (5, false), (6, false)] (by kernel_rfl) ?_
  intro K hK
  refine x_move rfl rfl rfl rfl ?_
  refine x_call rfl rfl rfl rfl rfl en33 (rsplit_c) ?_
  rintro r_ w1 ⟨v1, L1, rfl, M1, hs1⟩
  have M := M.grow M1
  obtain ⟨p1, c1, rfl, hcap1⟩ := hs1.shape2 (by decide)
  have hsl := splitN_len p
  refine ⟨trivial, ?_⟩
  refine x_move rfl rfl rfl rfl ?_
  refine x_ext rfl rfl rfl rfl rfl ?_
  refine x_ext rfl rfl rfl rfl rfl ?_
  refine x_assign rfl rfl rfl rfl ?_
  refine x_assign rfl rfl rfl rfl ?_
  refine Ex.done (hK _ _ ?_)
  refine At.then_n ?_
  refine W.seq ?_
  refine W.seq ?_
  refine W.sub [(2, _), (4, _), (6, _), (7, _)] ⟨rfl, rfl, rfl, rfl, trivial⟩ ?_
  refine W.reg [(0, false), (1, false)] (by kernel_rfl) ?_
  intro K hK
  refine x_move rfl rfl rfl rfl ?_
  refine x_nei _ rfl rfl rfl rfl rfl rfl ?_
  refine Ex.done (hK _ _ ?_)
  refine At.then_n ?_
  refine W.cond rfl (fun hco1 => ?_) (fun hco1 => ?_)
  · try simp only [decide_eq_true_eq, decide_eq_false_iff_not, Bool.not_eq_true', Bool.not_eq_false', beq_iff_eq, bne_iff_ne, ne_eq, Bool.not_eq_eq_eq_not, Bool.not_true, Bool.not_false, beq_eq_false_iff_ne, bne_eq_false_iff_eq, Bool.not_not, gt_iff_lt, ge_iff_le] at hco1
    refine W.seq ?_
    refine W.sub [(4, _)] ⟨rfl, trivial⟩ ?_
    refine W.reg [(0, false), (1, true), (2, false)] (by kernel_rfl) ?_
    intro K hK
    refine x_build [_, _, _] rfl rfl rfl pl25 ze25 rfl rfl rfl ?_
    refine x_st [_, _, _] _ rfl rfl rfl sz25 rfl rfl rfl rfl (by first | exact M.at_ 0 rfl | exact M.at_ 1 rfl | exact M.at_ 2 rfl | exact M.at_ 3 rfl | exact M.at_ 4 rfl | exact M.at_ 5 rfl | exact M.at_ 6 rfl | exact M.at_ 7 rfl) rfl rfl rfl ?_
    intro wst1 hwst1
    have M := by first | exact M.put 0 rfl hwst1 | exact M.put 1 rfl hwst1 | exact M.put 2 rfl hwst1 | exact M.put 3 rfl hwst1 | exact M.put 4 rfl hwst1 | exact M.put 5 rfl hwst1 | exact M.put 6 rfl hwst1 | exact M.put 7 rfl hwst1
    refine ⟨trivial, ?_⟩
    refine x_assign rfl rfl rfl rfl ?_
    refine Ex.done (hK _ _ ?_)
    refine At.then_n ?_
    refine W.ret ?_
    refine At.then_r ?_
    refine At.ret2 (.cell 4 25) (.tmp 5) rfl ⟨⟨_, rfl, run_loadVarA (l := [_, _, _]) Try.underlying25 rfl sz25 ⟨_, _, _, (by first | exact M.at_ 0 rfl | exact M.at_ 1 rfl | exact M.at_ 2 rfl | exact M.at_ 3 rfl | exact M.at_ 4 rfl | exact M.at_ 5 rfl | exact M.at_ 6 rfl | exact M.at_ 7 rfl), rfl⟩ (Nat.zero_lt_succ _)⟩, rfl, trivial⟩ ?_
    have hF : findL l p = (fileZ, 8) := by unfold findL; rw [if_neg hco1]
    rw [hF]; exact ⟨_, rfl, .inr (.inl ⟨rfl, rfl, rfl⟩), M.frm⟩
  · try simp only [decide_eq_true_eq, decide_eq_false_iff_not, Bool.not_eq_true', Bool.not_eq_false', beq_iff_eq, bne_iff_ne, ne_eq, Bool.not_eq_eq_eq_not, Bool.not_true, Bool.not_false, beq_eq_false_iff_ne, bne_eq_false_iff_eq, Bool.not_not, gt_iff_lt, ge_iff_le] at hco1
    have hF : findL l p = findF l [] (splitN p) ([], true, []) := by unfold findL; rw [if_pos hco1]
    have hPK := POK_split hco1
    refine W.skip ?_
    refine At.then_n ?_
    refine W.seq ?_
    refine W.sub [(2, _), (4, _), (6, _)] ⟨rfl, rfl, rfl, trivial⟩ ?_
    refine W.reg [(0, false), (1, true), (2, true)] (by kernel_rfl) ?_
    intro K hK
    refine x_build [_, _, _] rfl rfl rfl pl25 ze25 rfl rfl rfl ?_
    refine x_alloc [_, _, _] rfl rfl rfl ze25 rfl ?_
    intro bal2 wal2 hbal2 hwal2
    have M := M.acons hbal2 hwal2
    refine ⟨trivial, ?_⟩
    refine x_st [_, _, _] _ rfl rfl rfl sz25 rfl rfl rfl rfl (by first | exact M.at_ 0 rfl | exact M.at_ 1 rfl | exact M.at_ 2 rfl | exact M.at_ 3 rfl | exact M.at_ 4 rfl | exact M.at_ 5 rfl | exact M.at_ 6 rfl | exact M.at_ 7 rfl) rfl rfl rfl ?_
    intro wst2 hwst2
    have M := by first | exact M.put 0 rfl hwst2 | exact M.put 1 rfl hwst2 | exact M.put 2 rfl hwst2 | exact M.put 3 rfl hwst2 | exact M.put 4 rfl hwst2 | exact M.put 5 rfl hwst2 | exact M.put 6 rfl hwst2 | exact M.put 7 rfl hwst2
    refine ⟨trivial, ?_⟩
    refine Ex.done (hK _ _ ?_)
    refine At.then_n ?_
    refine W.seq ?_
    refine W.seq ?_
    refine W.sub [(2, _), (4, _), (6, _), (8, _)] ⟨rfl, rfl, rfl, rfl, trivial⟩ ?_
    refine W.reg [(0, false)] (by kernel_rfl) ?_
    intro K hK
    refine x_assign rfl rfl rfl rfl ?_
    refine Ex.done (hK _ _ ?_)
    refine At.then_n ?_
    refine W.block ?_
    refine W.loop (σ := Nat × Raw × Value) (fun q => [(2, _), (4, _), (6, _), (8, _), (9, .int .i64 ((q.1 : Nat) : Int))]) (fun q w => q.1 ≤ (splitN p).length ∧ findL l p = findF l ((splitN p).take q.1) ((splitN p).drop q.1) q.2.1 ∧ BytesAt w0 q.2.2 q.2.1.2.2 ∧ Sep w0 ([(bal2, .cells [strV q.2.1.1, .bool q.2.1.2.1, q.2.2].toArray 25 (0, 0)), (bal1, .cells [.string ByteArray.empty, .bool false, .slice none 0 0].toArray 25 (0, 0)), (bbx1, .cells [.slice pv l.length cv].toArray 32 (0, 0))] ++ L1) w) (fun q => (splitN p).length - q.1) (0, ([], true, []), .slice none 0 0) ⟨rfl, rfl, rfl, rfl, rfl, trivial⟩ ⟨Nat.zero_le _, hF, .inr (.inl ⟨rfl, rfl, rfl⟩), M⟩ ?_
    rintro ⟨j, f, dv⟩ w ⟨hj, hfj, hb, M⟩
    simp only at hj hfj hb M
    obtain ⟨pd, cd, rfl⟩ := hb.shape
    refine W.seq ?_
    refine W.seq ?_
    refine W.sub [(2, _), (4, _), (6, _), (8, _), (9, _)] ⟨rfl, rfl, rfl, rfl, rfl, trivial⟩ ?_
    refine W.reg [(0, false), (1, false), (2, false), (3, false)] (by kernel_rfl) ?_
    intro K hK
    refine x_move rfl rfl rfl rfl ?_
    refine x_move rfl rfl rfl rfl ?_
    refine x_len rfl rfl rfl rfl Try.underlying56 rfl ?_
    refine x_lss _ rfl rfl rfl rfl rfl rfl ?_
    refine Ex.done (hK _ _ ?_)
    refine At.then_n ?_
    refine W.cond rfl (fun hco2 => ?_) (fun hco2 => ?_)
    · try simp only [decide_eq_true_eq, decide_eq_false_iff_not, Bool.not_eq_true', Bool.not_eq_false', beq_iff_eq, bne_iff_ne, ne_eq, Bool.not_eq_eq_eq_not, Bool.not_true, Bool.not_false, beq_eq_false_iff_ne, bne_eq_false_iff_eq, Bool.not_not, gt_iff_lt, ge_iff_le] at hco2
      obtain ⟨n, hn⟩ := get_lt (l := splitN p) (q := j) (by omega)
      rw [findF_at hn] at hfj
      refine W.skip ?_
      refine At.then_n ?_
      refine W.seq ?_
      refine W.block ?_
      refine W.seq ?_
      refine W.seq ?_
      refine W.sub [(2, _), (4, _), (6, _), (8, _), (9, _)] ⟨rfl, rfl, rfl, rfl, rfl, trivial⟩ ?_
      refine W.reg [(0, false), (1, false), (2, false)] (by kernel_rfl) ?_
      intro K hK
      refine x_fa rfl rfl rfl fo25_1 rfl ?_
      refine x_ld rfl rfl rfl Try.underlying4 rfl rfl (cell_of (by first | exact M.at_ 0 rfl | exact M.at_ 1 rfl | exact M.at_ 2 rfl | exact M.at_ 3 rfl | exact M.at_ 4 rfl | exact M.at_ 5 rfl | exact M.at_ 6 rfl | exact M.at_ 7 rfl) rfl) ?_
      refine x_not _ rfl rfl rfl rfl rfl ?_
      refine Ex.done (hK _ _ ?_)
      refine At.then_n ?_
      refine W.cond rfl (fun hco3 => ?_) (fun hco3 => ?_)
      · try simp only [decide_eq_true_eq, decide_eq_false_iff_not, Bool.not_eq_true', Bool.not_eq_false', beq_iff_eq, bne_iff_ne, ne_eq, Bool.not_eq_eq_eq_not, Bool.not_true, Bool.not_false, beq_eq_false_iff_ne, bne_eq_false_iff_eq, Bool.not_not, gt_iff_lt, ge_iff_le] at hco3
        refine W.seq ?_
        refine W.sub [(4, _)] ⟨rfl, trivial⟩ ?_
        refine W.reg [(0, false), (1, true), (2, false)] (by kernel_rfl) ?_
        intro K hK
        refine x_build [_, _, _] rfl rfl rfl pl25 ze25 rfl rfl rfl ?_
        refine x_st [_, _, _] _ rfl rfl rfl sz25 rfl rfl rfl rfl (by first | exact M.at_ 0 rfl | exact M.at_ 1 rfl | exact M.at_ 2 rfl | exact M.at_ 3 rfl | exact M.at_ 4 rfl | exact M.at_ 5 rfl | exact M.at_ 6 rfl | exact M.at_ 7 rfl) rfl rfl rfl ?_
        intro wst3 hwst3
        have M := by first | exact M.put 0 rfl hwst3 | exact M.put 1 rfl hwst3 | exact M.put 2 rfl hwst3 | exact M.put 3 rfl hwst3 | exact M.put 4 rfl hwst3 | exact M.put 5 rfl hwst3 | exact M.put 6 rfl hwst3 | exact M.put 7 rfl hwst3
        refine ⟨trivial, ?_⟩
        refine x_assign rfl rfl rfl rfl ?_
        refine Ex.done (hK _ _ ?_)
        refine At.then_n ?_
        refine W.ret ?_
        refine At.then_r ?_
        refine At.blk_r ?_
        refine At.then_r ?_
        refine At.loop_r ?_
        refine At.blk_r ?_
        refine At.then_r ?_
        refine At.ret2 (.cell 4 25) (.tmp 5) rfl ⟨⟨_, rfl, run_loadVarA (l := [_, _, _]) Try.underlying25 rfl sz25 ⟨_, _, _, (by first | exact M.at_ 0 rfl | exact M.at_ 1 rfl | exact M.at_ 2 rfl | exact M.at_ 3 rfl | exact M.at_ 4 rfl | exact M.at_ 5 rfl | exact M.at_ 6 rfl | exact M.at_ 7 rfl), rfl⟩ (Nat.zero_lt_succ _)⟩, rfl, trivial⟩ ?_
        rw [if_neg (by simp [hco3])] at hfj
        rw [hfj]; exact ⟨_, rfl, .inr (.inl ⟨rfl, rfl, rfl⟩), M.frm⟩
      · try simp only [decide_eq_true_eq, decide_eq_false_iff_not, Bool.not_eq_true', Bool.not_eq_false', beq_iff_eq, bne_iff_ne, ne_eq, Bool.not_eq_eq_eq_not, Bool.not_true, Bool.not_false, beq_eq_false_iff_ne, bne_eq_false_iff_eq, Bool.not_not, gt_iff_lt, ge_iff_le] at hco3
        rw [if_pos hco3] at hfj
        have hac := atR_cases l (joinS ((splitN p).take (j + 1)))
        refine W.skip ?_
        refine At.then_n ?_
        refine W.seq ?_
        refine W.sub [(2, _), (4, _), (6, _), (8, _), (9, _)] ⟨rfl, rfl, rfl, rfl, rfl, trivial⟩ ?_
        refine W.regD (by kernel_rfl) #[0, 0, 0, 4, 14, 30, 63, 127] [(0, false), (1, false), (2, false), (3, false), (4, false), (5, true), (6, true), (7, false)] (by kernel_rfl) ?_
        intro K wD1 hK hwD1
        have M := M.drew hwD1
        refine x_ldA [_] rfl rfl rfl Try.underlying32 rfl sz32 rfl rfl ⟨_, _, _, (by first | exact M.at_ 0 rfl | exact M.at_ 1 rfl | exact M.at_ 2 rfl | exact M.at_ 3 rfl | exact M.at_ 4 rfl | exact M.at_ 5 rfl | exact M.at_ 6 rfl | exact M.at_ 7 rfl), rfl⟩ ?_
        refine x_move rfl rfl rfl rfl ?_
        refine x_move rfl rfl rfl rfl ?_
        refine x_add _ rfl rfl rfl rfl rfl (wadd (by omega) (by omega)) ?_
        refine x_slh (j + 1) rfl rfl rfl Try.underlying56 sz9 rfl rfl (by omega) (by omega) ?_
        refine x_call rfl rfl rfl rfl rfl en36 (rtext_c (strsO_at (strsO_take hs1 (j := j + 1) (by omega)) M (fun y hy => by simp [hy])) (by simp; omega) (fun y hy => by have := allOK_len hPK.2.1 y (List.mem_of_mem_take hy); omega)) ?_
        rintro r_ w2 ⟨rfl, hn2⟩
        have M := M.new hn2
        refine ⟨⟨.inr ⟨_, _, _, (by first | exact M.at_ 0 rfl | exact M.at_ 1 rfl | exact M.at_ 2 rfl | exact M.at_ 3 rfl | exact M.at_ 4 rfl | exact M.at_ 5 rfl | exact M.at_ 6 rfl | exact M.at_ 7 rfl), rfl⟩, trivial⟩, ?_⟩
        refine x_call rfl rfl rfl rfl rfl en34 (at_c (h.new M.frm) (by omega)) ?_
        rintro r wcall3 ⟨rfl, hncall3⟩
        have M := M.new hncall3
        refine ⟨⟨.inl (by kernel_rfl), trivial⟩, ?_⟩
        refine x_assign rfl rfl rfl rfl ?_
        refine Ex.done (hK _ _ ?_)
        refine At.then_n ?_
        refine W.seq ?_
        refine W.seq ?_
        refine W.sub [(2, _), (4, _), (6, _), (8, _), (9, _), (10, _)] ⟨rfl, rfl, rfl, rfl, rfl, rfl, trivial⟩ ?_
        refine W.reg [(0, false), (1, false)] (by kernel_rfl) ?_
        intro K hK
        refine x_move rfl rfl rfl rfl ?_
        refine x_lss _ rfl rfl rfl rfl rfl rfl ?_
        refine Ex.done (hK _ _ ?_)
        refine At.then_n ?_
        refine W.cond rfl (fun hco4 => ?_) (fun hco4 => ?_)
        · try simp only [decide_eq_true_eq, decide_eq_false_iff_not, Bool.not_eq_true', Bool.not_eq_false', beq_iff_eq, bne_iff_ne, ne_eq, Bool.not_eq_eq_eq_not, Bool.not_true, Bool.not_false, beq_eq_false_iff_ne, bne_eq_false_iff_eq, Bool.not_not, gt_iff_lt, ge_iff_le] at hco4
          refine W.seq ?_
          refine W.sub [(4, _)] ⟨rfl, trivial⟩ ?_
          refine W.reg [(0, false), (1, true), (2, false)] (by kernel_rfl) ?_
          intro K hK
          refine x_build [_, _, _] rfl rfl rfl pl25 ze25 rfl rfl rfl ?_
          refine x_st [_, _, _] _ rfl rfl rfl sz25 rfl rfl rfl rfl (by first | exact M.at_ 0 rfl | exact M.at_ 1 rfl | exact M.at_ 2 rfl | exact M.at_ 3 rfl | exact M.at_ 4 rfl | exact M.at_ 5 rfl | exact M.at_ 6 rfl | exact M.at_ 7 rfl) rfl rfl rfl ?_
          intro wst4 hwst4
          have M := by first | exact M.put 0 rfl hwst4 | exact M.put 1 rfl hwst4 | exact M.put 2 rfl hwst4 | exact M.put 3 rfl hwst4 | exact M.put 4 rfl hwst4 | exact M.put 5 rfl hwst4 | exact M.put 6 rfl hwst4 | exact M.put 7 rfl hwst4
          refine ⟨trivial, ?_⟩
          refine x_assign rfl rfl rfl rfl ?_
          refine Ex.done (hK _ _ ?_)
          refine At.then_n ?_
          refine W.ret ?_
          refine At.then_r ?_
          refine At.blk_r ?_
          refine At.then_r ?_
          refine At.loop_r ?_
          refine At.blk_r ?_
          refine At.then_r ?_
          refine At.ret2 (.cell 4 25) (.tmp 5) rfl ⟨⟨_, rfl, run_loadVarA (l := [_, _, _]) Try.underlying25 rfl sz25 ⟨_, _, _, (by first | exact M.at_ 0 rfl | exact M.at_ 1 rfl | exact M.at_ 2 rfl | exact M.at_ 3 rfl | exact M.at_ 4 rfl | exact M.at_ 5 rfl | exact M.at_ 6 rfl | exact M.at_ 7 rfl), rfl⟩ (Nat.zero_lt_succ _)⟩, rfl, trivial⟩ ?_
          have hno : ∀ y ∈ l, y.1 ≠ joinS ((splitN p).take (j + 1)) := by
            rcases hac with ⟨i, x, _, _, h3, _⟩ | ⟨h1, _⟩
            · omega
            · exact h1
          rw [at_find0 hno] at hfj
          rw [hfj]; exact ⟨_, rfl, .inr (.inl ⟨rfl, rfl, rfl⟩), M.frm⟩
        · try simp only [decide_eq_true_eq, decide_eq_false_iff_not, Bool.not_eq_true', Bool.not_eq_false', beq_iff_eq, bne_iff_ne, ne_eq, Bool.not_eq_eq_eq_not, Bool.not_true, Bool.not_false, beq_eq_false_iff_ne, bne_eq_false_iff_eq, Bool.not_not, gt_iff_lt, ge_iff_le] at hco4
          obtain ⟨i, x, hx, hxp, hat, hno⟩ := hac.resolve_right (fun h => by have := h.2; omega)
          rw [at_find hx hxp hno] at hfj
          obtain ⟨b2, o2, rfl, _⟩ := h.blk (j := i) (by have := (List.getElem?_eq_some_iff.1 hx).1; omega)
          obtain ⟨px, cx, hrow0, hbx⟩ := h.row hx
          have hrow := RowAt.new hrow0 M.frm
          have hil := (List.getElem?_eq_some_iff.1 hx).1
          refine W.skip ?_
          refine At.then_n ?_
          refine W.sub [(2, _), (4, _), (6, _), (8, _), (9, _), (10, _)] ⟨rfl, rfl, rfl, rfl, rfl, rfl, trivial⟩ ?_
          refine W.reg [(0, false), (1, false), (2, false), (3, false), (4, false), (5, true)] (by kernel_rfl) ?_
          intro K hK
          refine x_fa rfl rfl rfl fo32_0 rfl ?_
          refine x_ld rfl rfl rfl Try.underlying22 rfl rfl (cell_of (by first | exact M.at_ 0 rfl | exact M.at_ 1 rfl | exact M.at_ 2 rfl | exact M.at_ 3 rfl | exact M.at_ 4 rfl | exact M.at_ 5 rfl | exact M.at_ 6 rfl | exact M.at_ 7 rfl) rfl) ?_
          refine x_move rfl rfl rfl rfl ?_
          refine x_ia i rfl rfl rfl Try.underlying22 sz25 rfl rfl hat (by omega) ?_
          refine x_ldA [_, _, _] rfl rfl rfl Try.underlying25 rfl sz25 rfl rfl hrow ?_
          refine x_st [_, _, _] _ rfl rfl rfl sz25 rfl rfl rfl rfl (by first | exact M.at_ 0 rfl | exact M.at_ 1 rfl | exact M.at_ 2 rfl | exact M.at_ 3 rfl | exact M.at_ 4 rfl | exact M.at_ 5 rfl | exact M.at_ 6 rfl | exact M.at_ 7 rfl) rfl rfl rfl ?_
          intro wst5 hwst5
          have M := by first | exact M.put 0 rfl hwst5 | exact M.put 1 rfl hwst5 | exact M.put 2 rfl hwst5 | exact M.put 3 rfl hwst5 | exact M.put 4 rfl hwst5 | exact M.put 5 rfl hwst5 | exact M.put 6 rfl hwst5 | exact M.put 7 rfl hwst5
          refine ⟨trivial, ?_⟩
          refine Ex.done (hK _ _ ?_)
          refine At.blk_n ?_
          refine At.then_n ?_
          refine W.sub [(2, _), (4, _), (6, _), (8, _), (9, _)] ⟨rfl, rfl, rfl, rfl, rfl, trivial⟩ ?_
          refine W.reg [(0, false), (1, false), (2, false)] (by kernel_rfl) ?_
          intro K hK
          refine x_move rfl rfl rfl rfl ?_
          refine x_add _ rfl rfl rfl rfl rfl (wadd (by omega) (by omega)) ?_
          refine x_assign rfl rfl rfl rfl ?_
          refine Ex.done (hK _ _ ?_)
          exact At.back ((j + 1, x, .slice px x.2.2.length cx)) ⟨rfl, rfl, rfl, rfl, rfl, trivial⟩ ⟨by omega, hfj, hbx, M⟩ (by first | omega | (simp only; omega) | (simp; done) | (simp; omega))
    · try simp only [decide_eq_true_eq, decide_eq_false_iff_not, Bool.not_eq_true', Bool.not_eq_false', beq_iff_eq, bne_iff_ne, ne_eq, Bool.not_eq_eq_eq_not, Bool.not_true, Bool.not_false, beq_eq_false_iff_ne, bne_eq_false_iff_eq, Bool.not_not, gt_iff_lt, ge_iff_le] at hco2
      refine W.exit ?_
      refine At.then_x ?_
      refine At.loop_x ?_
      refine At.blk_x ?_
      refine At.then_n ?_
      refine W.seq ?_
      refine W.sub [(4, _), (8, _)] ⟨rfl, rfl, trivial⟩ ?_
      refine W.reg [(0, false), (1, true), (2, false)] (by kernel_rfl) ?_
      intro K hK
      refine x_ldA [_, _, _] rfl rfl rfl Try.underlying25 rfl sz25 rfl rfl ⟨_, _, _, (by first | exact M.at_ 0 rfl | exact M.at_ 1 rfl | exact M.at_ 2 rfl | exact M.at_ 3 rfl | exact M.at_ 4 rfl | exact M.at_ 5 rfl | exact M.at_ 6 rfl | exact M.at_ 7 rfl), rfl⟩ ?_
      refine x_st [_, _, _] _ rfl rfl rfl sz25 rfl rfl rfl rfl (by first | exact M.at_ 0 rfl | exact M.at_ 1 rfl | exact M.at_ 2 rfl | exact M.at_ 3 rfl | exact M.at_ 4 rfl | exact M.at_ 5 rfl | exact M.at_ 6 rfl | exact M.at_ 7 rfl) rfl rfl rfl ?_
      intro wst6 hwst6
      have M := by first | exact M.put 0 rfl hwst6 | exact M.put 1 rfl hwst6 | exact M.put 2 rfl hwst6 | exact M.put 3 rfl hwst6 | exact M.put 4 rfl hwst6 | exact M.put 5 rfl hwst6 | exact M.put 6 rfl hwst6 | exact M.put 7 rfl hwst6
      refine ⟨trivial, ?_⟩
      refine x_assign rfl rfl rfl rfl ?_
      refine Ex.done (hK _ _ ?_)
      refine At.then_n ?_
      refine W.ret ?_
      refine At.ret2 (.cell 4 25) (.tmp 5) rfl ⟨⟨_, rfl, run_loadVarA (l := [_, _, _]) Try.underlying25 rfl sz25 ⟨_, _, _, (by first | exact M.at_ 0 rfl | exact M.at_ 1 rfl | exact M.at_ 2 rfl | exact M.at_ 3 rfl | exact M.at_ 4 rfl | exact M.at_ 5 rfl | exact M.at_ 6 rfl | exact M.at_ 7 rfl), rfl⟩ (Nat.zero_lt_succ _)⟩, rfl, trivial⟩ ?_
      obtain rfl : j = (splitN p).length := by omega
      rw [List.drop_length] at hfj
      have hfj : findL l p = (f, 0) := hfj
      rw [hfj]; exact ⟨_, rfl, hb, M.frm⟩
end Go.Proofs.Ytccfmfehfhfhhaa

namespace Go.Proofs.Ytccfmfehfhfhhaa
open Go Go.Fw Go.RowKit Go.Proofs
set_option linter.unusedVariables false
set_option linter.unusedSimpArgs false

set_option maxRecDepth 100000 in
theorem rlist_c16 {w0 : World} {v : Value} {l : List Raw} {p : List UInt8} (h : FilesAt w0 v l) (hl : l.length ≤ 1000) : Ret Try.prog 55 #[.agg #[v], strV p] w0 fun r w' => ∃ u Lr, r = .tuple #[u, .int .i64 (listL l p).2] ∧ StrsO Lr u (listL l p).1 ∧ Sep w0 Lr w' := by
  have M : Sep w0 [] w0 := St.nil w0
  obtain ⟨pv, cv, rfl⟩ := h.shape
  refine Ret.of_W Try.func55 rfl Try.ntmps55 rfl ?_
  refine W.seq ?_
  refine W.sub [(0, _), (1, _)] ⟨rfl, rfl, trivial⟩ ?_
  refine W.reg [(0, true), (1, false), (2, false)] (by kernel_rfl) ?_
  intro K hK
  refine x_box [_] rfl rfl rfl rfl rfl ?_
  intro bbx1 wbx1 hbbx1 hwbx1
  have M := M.acons hbbx1 hwbx1
  refine ⟨trivial, ?_⟩
  refine x_assign rfl rfl rfl rfl ?_
  refine x_assign rfl rfl rfl rfl ?_
  refine Ex.done (hK _ _ ?_)
  refine At.then_n ?_
  refine W.seq ?_
  refine W.sub [(1, _), (2, _)] ⟨rfl, rfl, trivial⟩ ?_
  refine W.reg [(0, false), (1, false), (2, true), (3, false), (4, false), (5, false), (6, true), (7, true), (8, false)] (by kernel_rfl) ?_
  intro K hK
  refine x_ldA [_] rfl rfl rfl Try.underlying32 rfl sz32 rfl rfl ⟨_, _, _, (by first | exact M.at_ 0 rfl | exact M.at_ 1 rfl | exact M.at_ 2 rfl | exact M.at_ 3 rfl | exact M.at_ 4 rfl | exact M.at_ 5 rfl | exact M.at_ 6 rfl | exact M.at_ 7 rfl), rfl⟩ ?_
  refine x_move rfl rfl rfl rfl ?_
  refine x_call rfl rfl rfl rfl rfl en57 (rfind_c (h.new M.frm) (by omega)) ?_
  rintro r_ wcall1 ⟨dv, rfl, hb, hncall1⟩
  have M := M.new hncall1
  obtain ⟨pd, cd, rfl⟩ := hb.shape
  refine ⟨trivial, ?_⟩
  refine x_move rfl rfl rfl rfl ?_
  refine x_ext rfl rfl rfl rfl rfl ?_
  refine x_ext rfl rfl rfl rfl rfl ?_
  refine x_alloc [_, _, _] rfl rfl rfl ze25 rfl ?_
  intro bal1 wal1 hbal1 hwal1
  have M := M.acons hbal1 hwal1
  refine ⟨trivial, ?_⟩
  refine x_st [_, _, _] _ rfl rfl rfl sz25 rfl rfl rfl rfl (by first | exact M.at_ 0 rfl | exact M.at_ 1 rfl | exact M.at_ 2 rfl | exact M.at_ 3 rfl | exact M.at_ 4 rfl | exact M.at_ 5 rfl | exact M.at_ 6 rfl | exact M.at_ 7 rfl) rfl rfl rfl ?_
  intro wst1 hwst1
  have M := by first | exact M.put 0 rfl hwst1 | exact M.put 1 rfl hwst1 | exact M.put 2 rfl hwst1 | exact M.put 3 rfl hwst1 | exact M.put 4 rfl hwst1 | exact M.put 5 rfl hwst1 | exact M.put 6 rfl hwst1 | exact M.put 7 rfl hwst1
  refine ⟨trivial, ?_⟩
  refine x_assign rfl rfl rfl rfl ?_
  refine Ex.done (hK _ _ ?_)
  refine At.then_n ?_
  refine W.seq ?_
  refine W.seq ?_
  refine W.sub [(1, _), (2, _), (6, _), (7, _)] ⟨rfl, rfl, rfl, rfl, trivial⟩ ?_
  refine W.reg [(0, false), (1, false)] (by kernel_rfl) ?_
  intro K hK
  refine x_move rfl rfl rfl rfl ?_
  refine x_nei _ rfl rfl rfl rfl rfl rfl ?_
  refine Ex.done (hK _ _ ?_)
  refine At.then_n ?_
  refine W.cond rfl (fun hco1 => ?_) (fun hco1 => ?_)
  · try simp only [decide_eq_true_eq, decide_eq_false_iff_not, Bool.not_eq_true', Bool.not_eq_false', beq_iff_eq, bne_iff_ne, ne_eq, Bool.not_eq_eq_eq_not, Bool.not_true, Bool.not_false, beq_eq_false_iff_ne, bne_eq_false_iff_eq, Bool.not_not, gt_iff_lt, ge_iff_le] at hco1
    refine W.seq ?_
    refine W.sub [(7, _)] ⟨rfl, trivial⟩ ?_
    refine W.reg [(0, false), (1, false), (2, false)] (by kernel_rfl) ?_
    intro K hK
    refine x_move rfl rfl rfl rfl ?_
    refine x_assign rfl rfl rfl rfl ?_
    refine x_assign rfl rfl rfl rfl ?_
    refine Ex.done (hK _ _ ?_)
    refine At.then_n ?_
    refine W.ret ?_
    refine At.then_r ?_
    refine At.ret2 (.tmp 4) (.tmp 5) rfl ⟨rfl, rfl, trivial⟩ ?_
    have hF : listL l p = ([], (findL l p).2) := by unfold listL; rw [if_neg hco1]
    rw [hF]; exact ⟨_, [], rfl, OwL.nil, M.frm⟩
  · try simp only [decide_eq_true_eq, decide_eq_false_iff_not, Bool.not_eq_true', Bool.not_eq_false', beq_iff_eq, bne_iff_ne, ne_eq, Bool.not_eq_eq_eq_not, Bool.not_true, Bool.not_false, beq_eq_false_iff_ne, bne_eq_false_iff_eq, Bool.not_not, gt_iff_lt, ge_iff_le] at hco1
    refine W.skip ?_
    refine At.then_n ?_
    refine W.seq ?_
    refine W.seq ?_
    refine W.sub [(1, _), (2, _), (6, _)] ⟨rfl, rfl, rfl, trivial⟩ ?_
    refine W.reg [(0, false), (1, false), (2, false)] (by kernel_rfl) ?_
    intro K hK
    refine x_fa rfl rfl rfl fo25_1 rfl ?_
    refine x_ld rfl rfl rfl Try.underlying4 rfl rfl (cell_of (by first | exact M.at_ 0 rfl | exact M.at_ 1 rfl | exact M.at_ 2 rfl | exact M.at_ 3 rfl | exact M.at_ 4 rfl | exact M.at_ 5 rfl | exact M.at_ 6 rfl | exact M.at_ 7 rfl) rfl) ?_
    refine x_not _ rfl rfl rfl rfl rfl ?_
    refine Ex.done (hK _ _ ?_)
    refine At.then_n ?_
    refine W.cond rfl (fun hco2 => ?_) (fun hco2 => ?_)
    · try simp only [decide_eq_true_eq, decide_eq_false_iff_not, Bool.not_eq_true', Bool.not_eq_false', beq_iff_eq, bne_iff_ne, ne_eq, Bool.not_eq_eq_eq_not, Bool.not_true, Bool.not_false, beq_eq_false_iff_ne, bne_eq_false_iff_eq, Bool.not_not, gt_iff_lt, ge_iff_le] at hco2
      refine W.seq ?_
      refine W.sub [] trivial ?_
      refine W.reg [(0, false), (1, false)] (by kernel_rfl) ?_
      intro K hK
      refine x_assign rfl rfl rfl rfl ?_
      refine x_assign rfl rfl rfl rfl ?_
      refine Ex.done (hK _ _ ?_)
      refine At.then_n ?_
      refine W.ret ?_
      refine At.then_r ?_
      refine At.ret2 (.tmp 4) (.tmp 5) rfl ⟨rfl, rfl, trivial⟩ ?_
      have hF : listL l p = ([], 17) := by unfold listL; rw [if_pos hco1, if_neg (by simp [hco2])]
      rw [hF]; exact ⟨_, [], rfl, OwL.nil, M.frm⟩
    · try simp only [decide_eq_true_eq, decide_eq_false_iff_not, Bool.not_eq_true', Bool.not_eq_false', beq_iff_eq, bne_iff_ne, ne_eq, Bool.not_eq_eq_eq_not, Bool.not_true, Bool.not_false, beq_eq_false_iff_ne, bne_eq_false_iff_eq, Bool.not_not, gt_iff_lt, ge_iff_le] at hco2
      refine W.skip ?_
      refine At.then_n ?_
      refine W.seq ?_
      refine W.sub [(1, _), (2, _)] ⟨rfl, rfl, trivial⟩ ?_
      refine W.reg [(0, false)] (by kernel_rfl) ?_
      intro K hK
      refine x_assign rfl rfl rfl rfl ?_
      refine Ex.done (hK _ _ ?_)
      refine At.then_n ?_
      refine W.seq ?_
      refine W.seq ?_
      refine W.sub [(1, _), (2, _), (8, _)] ⟨rfl, rfl, rfl, trivial⟩ ?_
      refine W.reg [(0, false)] (by kernel_rfl) ?_
      intro K hK
      refine x_assign rfl rfl rfl rfl ?_
      refine Ex.done (hK _ _ ?_)
      refine At.then_n ?_
      refine W.block ?_
      refine W.loop (σ := Nat × Value × List (Nat × Obj)) (fun q => [(1, _), (2, _), (8, q.2.1), (9, .int .i64 ((q.1 : Nat) : Int))]) (fun q w => q.1 ≤ l.length ∧ StrsO q.2.2 q.2.1 (namesL (l.take q.1) p) ∧ Sep w0 ([(bal1, .cells [strV (findL l p).1.1, .bool (findL l p).1.2.1, .slice pd (findL l p).1.2.2.length cd].toArray 25 (0, 0)), (bbx1, .cells [.slice pv l.length cv].toArray 32 (0, 0))] ++ q.2.2) w) (fun q => l.length - q.1) (0, .slice none 0 0, []) ⟨rfl, rfl, rfl, rfl, trivial⟩ ⟨Nat.zero_le _, OwL.nil, M⟩ ?_
      rintro ⟨j, ov, Lo⟩ w ⟨hj, how, M⟩
      simp only at hj how M
      refine W.seq ?_
      refine W.seq ?_
      refine W.sub [(1, _), (2, _), (8, _), (9, _)] ⟨rfl, rfl, rfl, rfl, trivial⟩ ?_
      refine W.reg [(0, false), (1, false), (2, false), (3, false), (4, false)] (by kernel_rfl) ?_
      intro K hK
      refine x_move rfl rfl rfl rfl ?_
      refine x_fa rfl rfl rfl fo32_0 rfl ?_
      refine x_ld rfl rfl rfl Try.underlying22 rfl rfl (cell_of (by first | exact M.at_ 0 rfl | exact M.at_ 1 rfl | exact M.at_ 2 rfl | exact M.at_ 3 rfl | exact M.at_ 4 rfl | exact M.at_ 5 rfl | exact M.at_ 6 rfl | exact M.at_ 7 rfl) rfl) ?_
      refine x_len rfl rfl rfl rfl Try.underlying22 rfl ?_
      refine x_lss _ rfl rfl rfl rfl rfl rfl ?_
      refine Ex.done (hK _ _ ?_)
      refine At.then_n ?_
      refine W.cond rfl (fun hco3 => ?_) (fun hco3 => ?_)
      · try simp only [decide_eq_true_eq, decide_eq_false_iff_not, Bool.not_eq_true', Bool.not_eq_false', beq_iff_eq, bne_iff_ne, ne_eq, Bool.not_eq_eq_eq_not, Bool.not_true, Bool.not_false, beq_eq_false_iff_ne, bne_eq_false_iff_eq, Bool.not_not, gt_iff_lt, ge_iff_le] at hco3
        obtain ⟨x, hx⟩ := get_lt (l := l) (q := j) (by omega)
        obtain ⟨bb, off, rfl, _⟩ := (h.new M.frm).blk (j := j) (by omega)
        obtain ⟨px, cx, hrow, _⟩ := (h.new M.frm).row hx
        have hnl := namesL_len (l.take j) p
        rw [List.length_take] at hnl
        refine W.skip ?_
        refine At.then_n ?_
        refine W.seq ?_
        refine W.block ?_
        refine W.seq ?_
        refine W.sub [(1, _), (2, _), (8, _), (9, _)] ⟨rfl, rfl, rfl, rfl, trivial⟩ ?_
        refine W.reg [(0, false), (1, false), (2, false), (3, false), (4, false), (5, false), (6, true), (7, false), (8, false), (9, false), (10, false), (11, false), (12, false), (13, false)] (by kernel_rfl) ?_
        intro K hK
        refine x_fa rfl rfl rfl fo32_0 rfl ?_
        refine x_ld rfl rfl rfl Try.underlying22 rfl rfl (cell_of (by first | exact M.at_ 0 rfl | exact M.at_ 1 rfl | exact M.at_ 2 rfl | exact M.at_ 3 rfl | exact M.at_ 4 rfl | exact M.at_ 5 rfl | exact M.at_ 6 rfl | exact M.at_ 7 rfl) rfl) ?_
        refine x_move rfl rfl rfl rfl ?_
        refine x_ia j rfl rfl rfl Try.underlying22 sz25 rfl rfl rfl (by omega) ?_
        refine x_fa rfl rfl rfl fo25_0 rfl ?_
        refine x_ld rfl rfl rfl Try.underlying9 rfl rfl (RowAt.cell hrow (j := 0) rfl) ?_
        refine x_call rfl rfl rfl rfl rfl en25 (rparent_c) ?_
        rintro r wcall2 ⟨rfl, hncall2⟩
        have M := M.new hncall2
        refine ⟨trivial, ?_⟩
        refine x_move rfl rfl rfl rfl ?_
        refine x_ext rfl rfl rfl rfl rfl ?_
        refine x_ext rfl rfl rfl rfl rfl ?_
        refine x_ext rfl rfl rfl rfl rfl ?_
        refine x_assign rfl rfl rfl rfl ?_
        refine x_assign rfl rfl rfl rfl ?_
        refine x_assign rfl rfl rfl rfl ?_
        refine Ex.done (hK _ _ ?_)
        refine At.then_n ?_
        refine W.seq ?_
        refine W.sub [(1, _), (2, _), (8, _), (9, _), (10, _), (11, _)] ⟨rfl, rfl, rfl, rfl, rfl, rfl, trivial⟩ ?_
        refine W.reg [(0, false), (1, false), (2, false)] (by kernel_rfl) ?_
        intro K hK
        refine x_move rfl rfl rfl rfl ?_
        refine x_move rfl rfl rfl rfl ?_
        refine x_eqS _ rfl rfl rfl rfl rfl rfl ?_
        refine Ex.done (hK _ _ ?_)
        refine At.then_n ?_
        refine W.cond rfl (fun hco4 => ?_) (fun hco4 => ?_)
        · try simp only [decide_eq_true_eq, decide_eq_false_iff_not, Bool.not_eq_true', Bool.not_eq_false', beq_iff_eq, bne_iff_ne, ne_eq, Bool.not_eq_eq_eq_not, Bool.not_true, Bool.not_false, beq_eq_false_iff_ne, bne_eq_false_iff_eq, Bool.not_not, gt_iff_lt, ge_iff_le] at hco4
          refine W.sub [(1, _), (2, _), (8, _), (9, _), (11, _)] ⟨rfl, rfl, rfl, rfl, rfl, trivial⟩ ?_
          refine W.reg [(0, false), (1, false), (2, true), (3, true), (4, false)] (by kernel_rfl) ?_
          intro K hK
          refine x_move rfl rfl rfl rfl ?_
          refine x_move rfl rfl rfl rfl ?_
          refine x_bs1 (cs := [strV (parentP x.1).2.1]) rfl rfl rfl Try.underlying56 sz9 ze9 (Z := [_]) rfl rfl (by decide) (by decide) rfl rfl rfl ?_
          intro bbs1 wbs1 hbbs1 hwbs1
          have M0 := M.acons hbbs1 hwbs1
          have hslbs1 : Sl wbs1 (.slice (some ⟨bbs1, 0, none⟩) 1 1) 1 1 [strV (parentP x.1).2.1] := .inr ⟨bbs1, 0, 1, _, _, _, rfl, by omega, M0.at_ 0 rfl, rfl, rfl⟩
          have M := M0.tail
          refine ⟨trivial, ?_⟩
          refine x_apL rfl rfl rfl rfl Try.underlying56 sz9 ze9 rfl by9 rfl rfl how (M.perm List.perm_append_comm) (strCs_one _) (hslbs1.src Try.underlying56 (by intro u hu; simp at hu; subst hu; rfl)) (by omega) (by decide) (by omega) ?_
          intro Lo v6 w6 how M
          have M := M.perm List.perm_append_comm
          have how := strsO_snoc how
          refine ⟨trivial, ?_⟩
          refine x_assign rfl rfl rfl rfl ?_
          refine Ex.done (hK _ _ ?_)
          refine At.blk_n ?_
          refine At.then_n ?_
          refine W.sub [(1, _), (2, _), (8, _), (9, _)] ⟨rfl, rfl, rfl, rfl, trivial⟩ ?_
          refine W.reg [(0, false), (1, false), (2, false)] (by kernel_rfl) ?_
          intro K hK
          refine x_move rfl rfl rfl rfl ?_
          refine x_add _ rfl rfl rfl rfl rfl (wadd (by omega) (by omega)) ?_
          refine x_assign rfl rfl rfl rfl ?_
          refine Ex.done (hK _ _ ?_)
          exact At.back ((j + 1, v6, Lo)) ⟨rfl, rfl, rfl, rfl, trivial⟩ ⟨by omega, by rw [namesL_step hx, if_pos hco4]; exact how, M⟩ (by first | omega | (simp only; omega) | (simp; done) | (simp; omega))
        · try simp only [decide_eq_true_eq, decide_eq_false_iff_not, Bool.not_eq_true', Bool.not_eq_false', beq_iff_eq, bne_iff_ne, ne_eq, Bool.not_eq_eq_eq_not, Bool.not_true, Bool.not_false, beq_eq_false_iff_ne, bne_eq_false_iff_eq, Bool.not_not, gt_iff_lt, ge_iff_le] at hco4
          refine W.skip ?_
          refine At.blk_n ?_
          refine At.then_n ?_
          refine W.sub [(1, _), (2, _), (8, _), (9, _)] ⟨rfl, rfl, rfl, rfl, trivial⟩ ?_
          refine W.reg [(0, false), (1, false), (2, false)] (by kernel_rfl) ?_
          intro K hK
          refine x_move rfl rfl rfl rfl ?_
          refine x_add _ rfl rfl rfl rfl rfl (wadd (by omega) (by omega)) ?_
          refine x_assign rfl rfl rfl rfl ?_
          refine Ex.done (hK _ _ ?_)
          exact At.back ((j + 1, ov, Lo)) ⟨rfl, rfl, rfl, rfl, trivial⟩ ⟨by omega, by rw [namesL_step hx, if_neg hco4, List.append_nil]; exact how, M⟩ (by first | omega | (simp only; omega) | (simp; done) | (simp; omega))
      · try simp only [decide_eq_true_eq, decide_eq_false_iff_not, Bool.not_eq_true', Bool.not_eq_false', beq_iff_eq, bne_iff_ne, ne_eq, Bool.not_eq_eq_eq_not, Bool.not_true, Bool.not_false, beq_eq_false_iff_ne, bne_eq_false_iff_eq, Bool.not_not, gt_iff_lt, ge_iff_le] at hco3
        refine W.exit ?_
        refine At.then_x ?_
        refine At.loop_x ?_
        refine At.blk_x ?_
        refine At.then_n ?_
        refine W.seq ?_
        refine W.sub [(8, _)] ⟨rfl, trivial⟩ ?_
        refine W.reg [(0, false), (1, false), (2, false)] (by kernel_rfl) ?_
        intro K hK
        refine x_move rfl rfl rfl rfl ?_
        refine x_assign rfl rfl rfl rfl ?_
        refine x_assign rfl rfl rfl rfl ?_
        refine Ex.done (hK _ _ ?_)
        refine At.then_n ?_
        refine W.ret ?_
        refine At.ret2 (.tmp 4) (.tmp 5) rfl ⟨rfl, rfl, trivial⟩ ?_
        have hj2 : j = l.length := by omega
        subst hj2
        rw [List.take_length] at how
        have hF : listL l p = (namesL l p, 0) := by unfold listL; rw [if_pos hco1, if_pos hco2]
        rw [hF]; exact ⟨_, Lo, rfl, how, M.dropL (L' := [_, _])⟩
end Go.Proofs.Ytccfmfehfhfhhaa

namespace Go.Proofs.Ytccfmfehfhfhhaa
open Go Go.Fw Go.RowKit Go.Proofs
set_option linter.unusedVariables false
set_option linter.unusedSimpArgs false

set_option maxRecDepth 100000 in
theorem rremove_c {w00 w0 : World} {L X : List (Nat × Obj)} {v : Value} {l : List Raw} {p : List UInt8} (M : Sep w00 (L ++ X) w0) (h : FilesK w00 L v l) (hl : l.length ≤ 1000) : Ret Try.prog 53 #[.agg #[v], strV p] w0 fun r w' => ∃ u L', r = .tuple #[.agg #[u], .int .i64 (removeL l p).2] ∧ FilesK w00 (L ++ L') u (removeL l p).1 ∧ Sep w00 ((L ++ L') ++ X) w' := by
  have hFK := h
  obtain ⟨pv, cv, rfl⟩ := (h.at_ M (fun y hy => by simp [hy])).shape
  refine Ret.of_W Try.func53 rfl Try.ntmps53 rfl ?_
  refine W.seq ?_
  refine W.sub [(0, _), (1, _)] ⟨rfl, rfl, trivial⟩ ?_
  refine W.reg [(0, true), (1, true), (2, false)] (by kernel_rfl) ?_
  intro K hK
  refine x_box [_] rfl rfl rfl rfl rfl ?_
  intro bbx1 wbx1 hbbx1 hwbx1
  have M := M.acons hbbx1 hwbx1
  refine ⟨trivial, ?_⟩
  refine x_alloc [_] rfl rfl rfl ze32 rfl ?_
  intro bal1 wal1 hbal1 hwal1
  have M := M.acons hbal1 hwal1
  refine ⟨trivial, ?_⟩
  refine x_assign rfl rfl rfl rfl ?_
  refine Ex.done (hK _ _ ?_)
  refine At.then_n ?_
  refine W.seq ?_
  refine W.sub [(1, _), (2, _), (4, _)] ⟨rfl, rfl, rfl, trivial⟩ ?_
  refine W.reg [(0, false), (1, false), (2, true), (3, false), (4, false), (5, false), (6, true), (7, true), (8, false)] (by kernel_rfl) ?_
  intro K hK
  refine x_ldA [_] rfl rfl rfl Try.underlying32 rfl sz32 rfl rfl ⟨_, _, _, (by first | exact M.at_ 0 rfl | exact M.at_ 1 rfl | exact M.at_ 2 rfl | exact M.at_ 3 rfl | exact M.at_ 4 rfl | exact M.at_ 5 rfl | exact M.at_ 6 rfl | exact M.at_ 7 rfl), rfl⟩ ?_
  refine x_move rfl rfl rfl rfl ?_
  refine x_call rfl rfl rfl rfl rfl en57 (rfind_c (hFK.at_ M (fun y hy => by simp [hy])) (by omega)) ?_
  rintro r_ w1 ⟨dv, rfl, hb, hn1⟩
  have M := M.new hn1
  obtain ⟨pd, cd, rfl⟩ := hb.shape
  refine ⟨trivial, ?_⟩
  refine x_move rfl rfl rfl rfl ?_
  refine x_ext rfl rfl rfl rfl rfl ?_
  refine x_ext rfl rfl rfl rfl rfl ?_
  refine x_alloc [_, _, _] rfl rfl rfl ze25 rfl ?_
  intro bal2 wal2 hbal2 hwal2
  have M := M.acons hbal2 hwal2
  refine ⟨trivial, ?_⟩
  refine x_st [_, _, _] _ rfl rfl rfl sz25 rfl rfl rfl rfl (by first | exact M.at_ 0 rfl | exact M.at_ 1 rfl | exact M.at_ 2 rfl | exact M.at_ 3 rfl | exact M.at_ 4 rfl | exact M.at_ 5 rfl | exact M.at_ 6 rfl | exact M.at_ 7 rfl) rfl rfl rfl ?_
  intro wst1 hwst1
  have M := by first | exact M.put 0 rfl hwst1 | exact M.put 1 rfl hwst1 | exact M.put 2 rfl hwst1 | exact M.put 3 rfl hwst1 | exact M.put 4 rfl hwst1 | exact M.put 5 rfl hwst1 | exact M.put 6 rfl hwst1 | exact M.put 7 rfl hwst1
  refine ⟨trivial, ?_⟩
  refine x_assign rfl rfl rfl rfl ?_
  refine Ex.done (hK _ _ ?_)
  refine At.then_n ?_
  refine W.seq ?_
  refine W.seq ?_
  refine W.sub [(1, _), (2, _), (4, _), (7, _)] ⟨rfl, rfl, rfl, rfl, trivial⟩ ?_
  refine W.reg [(0, false), (1, false)] (by kernel_rfl) ?_
  intro K hK
  refine x_move rfl rfl rfl rfl ?_
  refine x_nei _ rfl rfl rfl rfl rfl rfl ?_
  refine Ex.done (hK _ _ ?_)
  refine At.then_n ?_
  refine W.cond rfl (fun hco1 => ?_) (fun hco1 => ?_)
  · try simp only [decide_eq_true_eq, decide_eq_false_iff_not, Bool.not_eq_true', Bool.not_eq_false', beq_iff_eq, bne_iff_ne, ne_eq, Bool.not_eq_eq_eq_not, Bool.not_true, Bool.not_false, beq_eq_false_iff_ne, bne_eq_false_iff_eq, Bool.not_not, gt_iff_lt, ge_iff_le] at hco1
    refine W.seq ?_
    refine W.sub [(2, _), (4, _), (7, _)] ⟨rfl, rfl, rfl, trivial⟩ ?_
    refine W.reg [(0, false), (1, false), (2, true), (3, false)] (by kernel_rfl) ?_
    intro K hK
    refine x_ldA [_] rfl rfl rfl Try.underlying32 rfl sz32 rfl rfl ⟨_, _, _, (by first | exact M.at_ 0 rfl | exact M.at_ 1 rfl | exact M.at_ 2 rfl | exact M.at_ 3 rfl | exact M.at_ 4 rfl | exact M.at_ 5 rfl | exact M.at_ 6 rfl | exact M.at_ 7 rfl), rfl⟩ ?_
    refine x_move rfl rfl rfl rfl ?_
    refine x_st [_] _ rfl rfl rfl sz32 rfl rfl rfl rfl (by first | exact M.at_ 0 rfl | exact M.at_ 1 rfl | exact M.at_ 2 rfl | exact M.at_ 3 rfl | exact M.at_ 4 rfl | exact M.at_ 5 rfl | exact M.at_ 6 rfl | exact M.at_ 7 rfl) rfl rfl rfl ?_
    intro wst2 hwst2
    have M := by first | exact M.put 0 rfl hwst2 | exact M.put 1 rfl hwst2 | exact M.put 2 rfl hwst2 | exact M.put 3 rfl hwst2 | exact M.put 4 rfl hwst2 | exact M.put 5 rfl hwst2 | exact M.put 6 rfl hwst2 | exact M.put 7 rfl hwst2
    refine ⟨trivial, ?_⟩
    refine x_assign rfl rfl rfl rfl ?_
    refine Ex.done (hK _ _ ?_)
    refine At.then_n ?_
    refine W.ret ?_
    refine At.then_r ?_
    refine At.ret2 (.cell 4 32) (.tmp 5) rfl ⟨⟨_, rfl, run_loadVarA (l := [_]) Try.underlying32 rfl sz32 ⟨_, _, _, (by first | exact M.at_ 0 rfl | exact M.at_ 1 rfl | exact M.at_ 2 rfl | exact M.at_ 3 rfl | exact M.at_ 4 rfl | exact M.at_ 5 rfl | exact M.at_ 6 rfl | exact M.at_ 7 rfl), rfl⟩ (Nat.zero_lt_succ _)⟩, rfl, trivial⟩ ?_
    have hR : removeL l p = (l, (findL l p).2) := by unfold removeL; rw [if_neg hco1]
    rw [hR]; exact ⟨_, [], rfl, hFK.mono (fun y hy => by simp [hy]), by simpa using (St.dropL (L' := [_, _, _]) M : Sep w00 (L ++ X) _)⟩
  · try simp only [decide_eq_true_eq, decide_eq_false_iff_not, Bool.not_eq_true', Bool.not_eq_false', beq_iff_eq, bne_iff_ne, ne_eq, Bool.not_eq_eq_eq_not, Bool.not_true, Bool.not_false, beq_eq_false_iff_ne, bne_eq_false_iff_eq, Bool.not_not, gt_iff_lt, ge_iff_le] at hco1
    refine W.skip ?_
    refine At.then_n ?_
    refine W.seq ?_
    refine W.seq ?_
    refine W.sub [(1, _), (2, _), (4, _)] ⟨rfl, rfl, rfl, trivial⟩ ?_
    refine W.reg [(0, false), (1, false)] (by kernel_rfl) ?_
    intro K hK
    refine x_move rfl rfl rfl rfl ?_
    refine x_eqS _ rfl rfl rfl rfl rfl rfl ?_
    refine Ex.done (hK _ _ ?_)
    refine At.then_n ?_
    refine W.cond rfl (fun hco2 => ?_) (fun hco2 => ?_)
    · try simp only [decide_eq_true_eq, decide_eq_false_iff_not, Bool.not_eq_true', Bool.not_eq_false', beq_iff_eq, bne_iff_ne, ne_eq, Bool.not_eq_eq_eq_not, Bool.not_true, Bool.not_false, beq_eq_false_iff_ne, bne_eq_false_iff_eq, Bool.not_not, gt_iff_lt, ge_iff_le] at hco2
      refine W.seq ?_
      refine W.sub [(2, _), (4, _)] ⟨rfl, rfl, trivial⟩ ?_
      refine W.reg [(0, false), (1, true), (2, false)] (by kernel_rfl) ?_
      intro K hK
      refine x_ldA [_] rfl rfl rfl Try.underlying32 rfl sz32 rfl rfl ⟨_, _, _, (by first | exact M.at_ 0 rfl | exact M.at_ 1 rfl | exact M.at_ 2 rfl | exact M.at_ 3 rfl | exact M.at_ 4 rfl | exact M.at_ 5 rfl | exact M.at_ 6 rfl | exact M.at_ 7 rfl), rfl⟩ ?_
      refine x_st [_] _ rfl rfl rfl sz32 rfl rfl rfl rfl (by first | exact M.at_ 0 rfl | exact M.at_ 1 rfl | exact M.at_ 2 rfl | exact M.at_ 3 rfl | exact M.at_ 4 rfl | exact M.at_ 5 rfl | exact M.at_ 6 rfl | exact M.at_ 7 rfl) rfl rfl rfl ?_
      intro wst3 hwst3
      have M := by first | exact M.put 0 rfl hwst3 | exact M.put 1 rfl hwst3 | exact M.put 2 rfl hwst3 | exact M.put 3 rfl hwst3 | exact M.put 4 rfl hwst3 | exact M.put 5 rfl hwst3 | exact M.put 6 rfl hwst3 | exact M.put 7 rfl hwst3
      refine ⟨trivial, ?_⟩
      refine x_assign rfl rfl rfl rfl ?_
      refine Ex.done (hK _ _ ?_)
      refine At.then_n ?_
      refine W.ret ?_
      refine At.then_r ?_
      refine At.ret2 (.cell 4 32) (.tmp 5) rfl ⟨⟨_, rfl, run_loadVarA (l := [_]) Try.underlying32 rfl sz32 ⟨_, _, _, (by first | exact M.at_ 0 rfl | exact M.at_ 1 rfl | exact M.at_ 2 rfl | exact M.at_ 3 rfl | exact M.at_ 4 rfl | exact M.at_ 5 rfl | exact M.at_ 6 rfl | exact M.at_ 7 rfl), rfl⟩ (Nat.zero_lt_succ _)⟩, rfl, trivial⟩ ?_
      have hR : removeL l p = (l, 18) := by unfold removeL; rw [if_pos hco1, if_pos hco2]
      rw [hR]; exact ⟨_, [], rfl, hFK.mono (fun y hy => by simp [hy]), by simpa using (St.dropL (L' := [_, _, _]) M : Sep w00 (L ++ X) _)⟩
    · try simp only [decide_eq_true_eq, decide_eq_false_iff_not, Bool.not_eq_true', Bool.not_eq_false', beq_iff_eq, bne_iff_ne, ne_eq, Bool.not_eq_eq_eq_not, Bool.not_true, Bool.not_false, beq_eq_false_iff_ne, bne_eq_false_iff_eq, Bool.not_not, gt_iff_lt, ge_iff_le] at hco2
      refine W.skip ?_
      refine At.then_n ?_
      refine W.seq ?_
      refine W.seq ?_
      refine W.sub [(1, _), (2, _), (4, _)] ⟨rfl, rfl, rfl, trivial⟩ ?_
      refine W.reg [(0, false)] (by kernel_rfl) ?_
      intro K hK
      refine x_assign rfl rfl rfl rfl ?_
      refine Ex.done (hK _ _ ?_)
      refine At.then_n ?_
      refine W.block ?_
      refine W.loop (σ := Nat) (fun j => [(1, _), (2, _), (4, _), (8, .int .i64 ((j : Nat) : Int))]) (fun j w => j ≤ l.length ∧ (∀ y ∈ l.take j, y.1 ≠ p → underP y.1 p = false) ∧ Sep w00 ([(bal2, .cells [strV (findL l p).1.1, .bool (findL l p).1.2.1, .slice pd (findL l p).1.2.2.length cd].toArray 25 (0, 0)), (bal1, .cells [.slice none 0 0].toArray 32 (0, 0)), (bbx1, .cells [.slice pv l.length cv].toArray 32 (0, 0))] ++ (L ++ X)) w) (fun j => l.length - j) 0 ⟨rfl, rfl, rfl, rfl, trivial⟩ ⟨Nat.zero_le _, by simp, M⟩ ?_
      rintro j w ⟨hj, hno, M⟩
      refine W.seq ?_
      refine W.seq ?_
      refine W.sub [(1, _), (2, _), (4, _), (8, _)] ⟨rfl, rfl, rfl, rfl, trivial⟩ ?_
      refine W.reg [(0, false), (1, false), (2, false), (3, false), (4, false)] (by kernel_rfl) ?_
      intro K hK
      refine x_move rfl rfl rfl rfl ?_
      refine x_fa rfl rfl rfl fo32_0 rfl ?_
      refine x_ld rfl rfl rfl Try.underlying22 rfl rfl (cell_of (by first | exact M.at_ 0 rfl | exact M.at_ 1 rfl | exact M.at_ 2 rfl | exact M.at_ 3 rfl | exact M.at_ 4 rfl | exact M.at_ 5 rfl | exact M.at_ 6 rfl | exact M.at_ 7 rfl) rfl) ?_
      refine x_len rfl rfl rfl rfl Try.underlying22 rfl ?_
      refine x_lss _ rfl rfl rfl rfl rfl rfl ?_
      refine Ex.done (hK _ _ ?_)
      refine At.then_n ?_
      refine W.cond rfl (fun hco3 => ?_) (fun hco3 => ?_)
      · try simp only [decide_eq_true_eq, decide_eq_false_iff_not, Bool.not_eq_true', Bool.not_eq_false', beq_iff_eq, bne_iff_ne, ne_eq, Bool.not_eq_eq_eq_not, Bool.not_true, Bool.not_false, beq_eq_false_iff_ne, bne_eq_false_iff_eq, Bool.not_not, gt_iff_lt, ge_iff_le] at hco3
        obtain ⟨x, hx⟩ := get_lt (l := l) (q := j) (by omega)
        have hfa := hFK.at_ M (fun y hy => by simp [hy])
        obtain ⟨bb, off, rfl, _⟩ := hfa.blk (j := j) (by omega)
        obtain ⟨px, cx, hrow, _⟩ := hfa.row hx
        refine W.skip ?_
        refine At.then_n ?_
        refine W.seq ?_
        refine W.block ?_
        refine W.seq ?_
        refine W.sub [(1, _), (2, _), (4, _), (8, _)] ⟨rfl, rfl, rfl, rfl, trivial⟩ ?_
        refine W.reg [(0, false), (1, false), (2, false), (3, false), (4, false), (5, false), (6, false), (7, false), (8, false), (9, false), (10, false), (11, false), (12, false), (13, false), (14, false), (15, false), (16, true), (17, false)] (by kernel_rfl) ?_
        intro K hK
        refine x_fa rfl rfl rfl fo32_0 rfl ?_
        refine x_ld rfl rfl rfl Try.underlying22 rfl rfl (cell_of (by first | exact M.at_ 0 rfl | exact M.at_ 1 rfl | exact M.at_ 2 rfl | exact M.at_ 3 rfl | exact M.at_ 4 rfl | exact M.at_ 5 rfl | exact M.at_ 6 rfl | exact M.at_ 7 rfl) rfl) ?_
        refine x_move rfl rfl rfl rfl ?_
        refine x_ia j rfl rfl rfl Try.underlying22 sz25 rfl rfl rfl (by omega) ?_
        refine x_fa rfl rfl rfl fo25_0 rfl ?_
        refine x_ld rfl rfl rfl Try.underlying9 rfl rfl (RowAt.cell hrow (j := 0) rfl) ?_
        refine x_move rfl rfl rfl rfl ?_
        refine x_neS _ rfl rfl rfl rfl rfl rfl ?_
        refine x_move rfl rfl rfl rfl ?_
        refine Ex.split 37 rfl (fun hsp1 => ?_) (fun hsp1 => ?_)
        ·
          try simp only [decide_eq_true_eq, decide_eq_false_iff_not, Bool.not_eq_true', Bool.not_eq_false', beq_iff_eq, bne_iff_ne, ne_eq, Bool.not_eq_eq_eq_not, Bool.not_true, Bool.not_false, beq_eq_false_iff_ne, bne_eq_false_iff_eq, Bool.not_not, gt_iff_lt, ge_iff_le] at hsp1
          refine x_fa rfl rfl rfl fo32_0 rfl ?_
          refine x_ld rfl rfl rfl Try.underlying22 rfl rfl (cell_of (by first | exact M.at_ 0 rfl | exact M.at_ 1 rfl | exact M.at_ 2 rfl | exact M.at_ 3 rfl | exact M.at_ 4 rfl | exact M.at_ 5 rfl | exact M.at_ 6 rfl | exact M.at_ 7 rfl) rfl) ?_
          refine x_move rfl rfl rfl rfl ?_
          refine x_ia j rfl rfl rfl Try.underlying22 sz25 rfl rfl rfl (by omega) ?_
          refine x_fa rfl rfl rfl fo25_0 rfl ?_
          refine x_ld rfl rfl rfl Try.underlying9 rfl rfl (RowAt.cell hrow (j := 0) rfl) ?_
          refine x_move rfl rfl rfl rfl ?_
          refine x_call rfl rfl rfl rfl rfl en18 (runder_c) ?_
          rintro r wcall2 ⟨rfl, hncall2⟩
          have M := M.new hncall2
          refine ⟨trivial, ?_⟩
          refine x_pickT rfl rfl rfl rfl rfl ?_
          refine Ex.done (hK _ _ ?_)
          refine At.then_n ?_
          refine W.cond rfl (fun hco4 => ?_) (fun hco4 => ?_)
          · try simp only [decide_eq_true_eq, decide_eq_false_iff_not, Bool.not_eq_true', Bool.not_eq_false', beq_iff_eq, bne_iff_ne, ne_eq, Bool.not_eq_eq_eq_not, Bool.not_true, Bool.not_false, beq_eq_false_iff_ne, bne_eq_false_iff_eq, Bool.not_not, gt_iff_lt, ge_iff_le] at hco4
            refine W.seq ?_
            refine W.sub [(2, _), (4, _)] ⟨rfl, rfl, trivial⟩ ?_
            refine W.reg [(0, false), (1, true), (2, false)] (by kernel_rfl) ?_
            intro K hK
            refine x_ldA [_] rfl rfl rfl Try.underlying32 rfl sz32 rfl rfl ⟨_, _, _, (by first | exact M.at_ 0 rfl | exact M.at_ 1 rfl | exact M.at_ 2 rfl | exact M.at_ 3 rfl | exact M.at_ 4 rfl | exact M.at_ 5 rfl | exact M.at_ 6 rfl | exact M.at_ 7 rfl), rfl⟩ ?_
            refine x_st [_] _ rfl rfl rfl sz32 rfl rfl rfl rfl (by first | exact M.at_ 0 rfl | exact M.at_ 1 rfl | exact M.at_ 2 rfl | exact M.at_ 3 rfl | exact M.at_ 4 rfl | exact M.at_ 5 rfl | exact M.at_ 6 rfl | exact M.at_ 7 rfl) rfl rfl rfl ?_
            intro wst4 hwst4
            have M := by first | exact M.put 0 rfl hwst4 | exact M.put 1 rfl hwst4 | exact M.put 2 rfl hwst4 | exact M.put 3 rfl hwst4 | exact M.put 4 rfl hwst4 | exact M.put 5 rfl hwst4 | exact M.put 6 rfl hwst4 | exact M.put 7 rfl hwst4
            refine ⟨trivial, ?_⟩
            refine x_assign rfl rfl rfl rfl ?_
            refine Ex.done (hK _ _ ?_)
            refine At.then_n ?_
            refine W.ret ?_
            refine At.blk_r ?_
            refine At.then_r ?_
            refine At.loop_r ?_
            refine At.blk_r ?_
            refine At.then_r ?_
            refine At.ret2 (.cell 4 32) (.tmp 5) rfl ⟨⟨_, rfl, run_loadVarA (l := [_]) Try.underlying32 rfl sz32 ⟨_, _, _, (by first | exact M.at_ 0 rfl | exact M.at_ 1 rfl | exact M.at_ 2 rfl | exact M.at_ 3 rfl | exact M.at_ 4 rfl | exact M.at_ 5 rfl | exact M.at_ 6 rfl | exact M.at_ 7 rfl), rfl⟩ (Nat.zero_lt_succ _)⟩, rfl, trivial⟩ ?_
            have hR : removeL l p = (l, 18) := by
              have hb : busyL l p = true := by
                unfold busyL; rw [List.any_eq_true]
                exact ⟨x, List.mem_of_getElem? hx, by simp [hsp1, hco4]⟩
              unfold removeL; rw [if_pos hco1, if_neg hco2, if_pos hb]
            rw [hR]; exact ⟨_, [], rfl, hFK.mono (fun y hy => by simp [hy]), by simpa using (St.dropL (L' := [_, _, _]) M : Sep w00 (L ++ X) _)⟩
          · try simp only [decide_eq_true_eq, decide_eq_false_iff_not, Bool.not_eq_true', Bool.not_eq_false', beq_iff_eq, bne_iff_ne, ne_eq, Bool.not_eq_eq_eq_not, Bool.not_true, Bool.not_false, beq_eq_false_iff_ne, bne_eq_false_iff_eq, Bool.not_not, gt_iff_lt, ge_iff_le] at hco4
            refine W.skip ?_
            refine At.blk_n ?_
            refine At.then_n ?_
            refine W.sub [(1, _), (2, _), (4, _), (8, _)] ⟨rfl, rfl, rfl, rfl, trivial⟩ ?_
            refine W.reg [(0, false), (1, false), (2, false)] (by kernel_rfl) ?_
            intro K hK
            refine x_move rfl rfl rfl rfl ?_
            refine x_add _ rfl rfl rfl rfl rfl (wadd (by omega) (by omega)) ?_
            refine x_assign rfl rfl rfl rfl ?_
            refine Ex.done (hK _ _ ?_)
            exact At.back (j + 1) ⟨rfl, rfl, rfl, rfl, trivial⟩ ⟨by omega, fun z hz h0 => by
              rw [take_mem hx] at hz
              rcases List.mem_append.1 hz with hz | hz
              · exact hno z hz h0
              · rw [List.mem_singleton.1 hz]; exact hco4, M⟩ (by first | omega | (simp only; omega) | (simp; done) | (simp; omega))
        ·
          try simp only [decide_eq_true_eq, decide_eq_false_iff_not, Bool.not_eq_true', Bool.not_eq_false', beq_iff_eq, bne_iff_ne, ne_eq, Bool.not_eq_eq_eq_not, Bool.not_true, Bool.not_false, beq_eq_false_iff_ne, bne_eq_false_iff_eq, Bool.not_not, gt_iff_lt, ge_iff_le] at hsp1
          refine Ex.skip_ rfl rfl rfl ?_
          refine Ex.skip_ rfl rfl rfl ?_
          refine Ex.skip_ rfl rfl rfl ?_
          refine Ex.skip_ rfl rfl rfl ?_
          refine Ex.skip_ rfl rfl rfl ?_
          refine Ex.skip_ rfl rfl rfl ?_
          refine Ex.skip_ rfl rfl rfl ?_
          refine Ex.skipm_ rfl rfl rfl ?_
          refine x_pickF rfl rfl rfl rfl rfl ?_
          refine Ex.done (hK _ _ ?_)
          refine At.then_n ?_
          refine W.condF rfl ?_
          refine W.skip ?_
          refine At.blk_n ?_
          refine At.then_n ?_
          refine W.sub [(1, _), (2, _), (4, _), (8, _)] ⟨rfl, rfl, rfl, rfl, trivial⟩ ?_
          refine W.reg [(0, false), (1, false), (2, false)] (by kernel_rfl) ?_
          intro K hK
          refine x_move rfl rfl rfl rfl ?_
          refine x_add _ rfl rfl rfl rfl rfl (wadd (by omega) (by omega)) ?_
          refine x_assign rfl rfl rfl rfl ?_
          refine Ex.done (hK _ _ ?_)
          exact At.back (j + 1) ⟨rfl, rfl, rfl, rfl, trivial⟩ ⟨by omega, fun z hz h0 => by
            rw [take_mem hx] at hz
            rcases List.mem_append.1 hz with hz | hz
            · exact hno z hz h0
            · rw [List.mem_singleton.1 hz] at h0; exact absurd hsp1 h0, M⟩ (by first | omega | (simp only; omega) | (simp; done) | (simp; omega))
      · try simp only [decide_eq_true_eq, decide_eq_false_iff_not, Bool.not_eq_true', Bool.not_eq_false', beq_iff_eq, bne_iff_ne, ne_eq, Bool.not_eq_eq_eq_not, Bool.not_true, Bool.not_false, beq_eq_false_iff_ne, bne_eq_false_iff_eq, Bool.not_not, gt_iff_lt, ge_iff_le] at hco3
        have hj2 : j = l.length := by omega
        subst hj2
        rw [List.take_length] at hno
        have hb : busyL l p = false := by
          unfold busyL
          rw [List.any_eq_false]
          intro y hy
          by_cases h0 : y.1 = p
          · simp [h0]
          · simp [hno y hy h0]
        obtain ⟨x, hxm, hxp⟩ := findL_mem hco1 hco2
        obtain ⟨i, y, hy, _, hat, _⟩ := (atR_cases l p).resolve_right (fun h => h.1 x hxm hxp)
        have hil := (List.getElem?_eq_some_iff.1 hy).1
        have hR : removeL l p = (l.eraseIdx i, 0) := by unfold removeL; rw [if_pos hco1, if_neg hco2, hb, if_neg (by simp), hat]; rfl
        rw [hR]
        refine W.exit ?_
        refine At.then_x ?_
        refine At.loop_x ?_
        refine At.blk_x ?_
        refine At.then_n ?_
        refine W.seq ?_
        refine W.sub [(1, _), (2, _), (4, _)] ⟨rfl, rfl, rfl, trivial⟩ ?_
        refine W.regD (by kernel_rfl) #[0, 0, 0, 6, 15, 31, 63] [(0, false), (1, false), (2, false), (3, true), (4, true), (5, true), (6, false)] (by kernel_rfl) ?_
        intro K wD1 hK hwD1
        have M := M.drew hwD1
        refine x_ldA [_] rfl rfl rfl Try.underlying32 rfl sz32 rfl rfl ⟨_, _, _, (by first | exact M.at_ 0 rfl | exact M.at_ 1 rfl | exact M.at_ 2 rfl | exact M.at_ 3 rfl | exact M.at_ 4 rfl | exact M.at_ 5 rfl | exact M.at_ 6 rfl | exact M.at_ 7 rfl), rfl⟩ ?_
        refine x_ldA [_] rfl rfl rfl Try.underlying32 rfl sz32 rfl rfl ⟨_, _, _, (by first | exact M.at_ 0 rfl | exact M.at_ 1 rfl | exact M.at_ 2 rfl | exact M.at_ 3 rfl | exact M.at_ 4 rfl | exact M.at_ 5 rfl | exact M.at_ 6 rfl | exact M.at_ 7 rfl), rfl⟩ ?_
        refine x_move rfl rfl rfl rfl ?_
        refine x_call rfl rfl rfl rfl rfl en34 (at_c (hFK.at_ M (fun y hy => by simp [hy])) (by omega)) ?_
        rintro r_ w3 ⟨rfl, hn3⟩
        have M := M.new hn3
        rw [hat]
        refine ⟨⟨.inl (by kernel_rfl), .inr ⟨_, _, _, (by first | exact M.at_ 0 rfl | exact M.at_ 1 rfl | exact M.at_ 2 rfl | exact M.at_ 3 rfl | exact M.at_ 4 rfl | exact M.at_ 5 rfl | exact M.at_ 6 rfl | exact M.at_ 7 rfl), rfl⟩, trivial⟩, ?_⟩
        refine x_call rfl rfl rfl rfl rfl en72 (without_c (St.inn2 (F := [_, _, _]) M) hFK hl hil) ?_
        rintro r_ w4 ⟨u, L', rfl, hu, M⟩
        have M := M.out2 [_, _, _]
        obtain ⟨pu, cu, rfl⟩ := (hu.at_ M (fun y hy => by rcases List.mem_append.1 hy with hy | hy <;> simp [hy])).shape
        refine ⟨⟨.inl (by kernel_rfl), .inl (by kernel_rfl), trivial⟩, ?_⟩
        refine x_st [_] _ rfl rfl rfl sz32 rfl rfl rfl rfl (by first | exact M.at_ 0 rfl | exact M.at_ 1 rfl | exact M.at_ 2 rfl | exact M.at_ 3 rfl | exact M.at_ 4 rfl | exact M.at_ 5 rfl | exact M.at_ 6 rfl | exact M.at_ 7 rfl) rfl rfl rfl ?_
        intro wst5 hwst5
        have M := by first | exact M.put 0 rfl hwst5 | exact M.put 1 rfl hwst5 | exact M.put 2 rfl hwst5 | exact M.put 3 rfl hwst5 | exact M.put 4 rfl hwst5 | exact M.put 5 rfl hwst5 | exact M.put 6 rfl hwst5 | exact M.put 7 rfl hwst5
        refine ⟨⟨.inl (by kernel_rfl), .inl (by kernel_rfl), trivial⟩, ?_⟩
        refine x_assign rfl rfl rfl rfl ?_
        refine Ex.done (hK _ _ ?_)
        refine At.then_n ?_
        refine W.ret ?_
        refine At.ret2 (.cell 4 32) (.tmp 5) rfl ⟨⟨_, rfl, run_loadVarA (l := [_]) Try.underlying32 rfl sz32 ⟨_, _, _, (by first | exact M.at_ 0 rfl | exact M.at_ 1 rfl | exact M.at_ 2 rfl | exact M.at_ 3 rfl | exact M.at_ 4 rfl | exact M.at_ 5 rfl | exact M.at_ 6 rfl | exact M.at_ 7 rfl), rfl⟩ (Nat.zero_lt_succ _)⟩, rfl, trivial⟩ ?_
        exact ⟨_, L', rfl, hu, St.dropL (L' := [_, _, _]) M⟩
end Go.Proofs.Ytccfmfehfhfhhaa

namespace Go.Proofs.Ytccfmfehfhfhhaa
open Go Go.Fw Go.RowKit Go.Proofs
set_option linter.unusedVariables false
set_option linter.unusedSimpArgs false

set_option maxRecDepth 100000 in
theorem rhome_c {w0 : World} {v : Value} {l : List Raw} {p : List UInt8} {root : Int} (h : FilesAt w0 v l) (hl : l.length ≤ 1000) : Ret Try.prog 71 #[.agg #[v], strV p, .int .i64 root] w0 fun r w' => r = .int .i64 (homeL l p root) ∧ New w0 w' := by
  have M : Sep w0 [] w0 := St.nil w0
  obtain ⟨pv, cv, rfl⟩ := h.shape
  refine Ret.of_W Try.func71 rfl Try.ntmps71 rfl ?_
  refine W.seq ?_
  refine W.sub [(0, _), (1, _), (2, _)] ⟨rfl, rfl, rfl, trivial⟩ ?_
  refine W.reg [(0, true), (1, false)] (by kernel_rfl) ?_
  intro K hK
  refine x_box [_] rfl rfl rfl rfl rfl ?_
  intro bbx1 wbx1 hbbx1 hwbx1
  have M := M.acons hbbx1 hwbx1
  refine ⟨trivial, ?_⟩
  refine x_assign rfl rfl rfl rfl ?_
  refine Ex.done (hK _ _ ?_)
  refine At.then_n ?_
  refine W.seq ?_
  refine W.sub [(1, _), (2, _), (3, _)] ⟨rfl, rfl, rfl, trivial⟩ ?_
  refine W.reg [(0, false), (1, true), (2, false), (3, false), (4, false), (5, false), (6, false)] (by kernel_rfl) ?_
  intro K hK
  refine x_move rfl rfl rfl rfl ?_
  refine x_call rfl rfl rfl rfl rfl en33 (rsplit_c) ?_
  rintro r_ w1 ⟨v1, L1, rfl, M1, hs1⟩
  have M := M.grow M1
  obtain ⟨p1, c1, rfl, hcap1⟩ := hs1.shape2 (by decide)
  have hsl := splitN_len p
  refine ⟨trivial, ?_⟩
  refine x_move rfl rfl rfl rfl ?_
  refine x_ext rfl rfl rfl rfl rfl ?_
  refine x_ext rfl rfl rfl rfl rfl ?_
  refine x_assign rfl rfl rfl rfl ?_
  refine x_assign rfl rfl rfl rfl ?_
  refine Ex.done (hK _ _ ?_)
  refine At.then_n ?_
  refine W.seq ?_
  refine W.seq ?_
  refine W.sub [(2, _), (3, _), (7, _), (8, _)] ⟨rfl, rfl, rfl, rfl, trivial⟩ ?_
  refine W.reg [(0, false), (1, false)] (by kernel_rfl) ?_
  intro K hK
  refine x_move rfl rfl rfl rfl ?_
  refine x_nei _ rfl rfl rfl rfl rfl rfl ?_
  refine Ex.done (hK _ _ ?_)
  refine At.then_n ?_
  refine W.cond rfl (fun hco1 => ?_) (fun hco1 => ?_)
  · try simp only [decide_eq_true_eq, decide_eq_false_iff_not, Bool.not_eq_true', Bool.not_eq_false', beq_iff_eq, bne_iff_ne, ne_eq, Bool.not_eq_eq_eq_not, Bool.not_true, Bool.not_false, beq_eq_false_iff_ne, bne_eq_false_iff_eq, Bool.not_not, gt_iff_lt, ge_iff_le] at hco1
    refine W.seq ?_
    refine W.sub [] trivial ?_
    refine W.reg [(0, false)] (by kernel_rfl) ?_
    intro K hK
    refine x_assign rfl rfl rfl rfl ?_
    refine Ex.done (hK _ _ ?_)
    refine At.then_n ?_
    refine W.ret ?_
    refine At.then_r ?_
    refine At.ret1 (.tmp 6) rfl ⟨rfl, trivial⟩ ?_
    exact ⟨by unfold homeL; rw [if_neg hco1], M.frm⟩
  · try simp only [decide_eq_true_eq, decide_eq_false_iff_not, Bool.not_eq_true', Bool.not_eq_false', beq_iff_eq, bne_iff_ne, ne_eq, Bool.not_eq_eq_eq_not, Bool.not_true, Bool.not_false, beq_eq_false_iff_ne, bne_eq_false_iff_eq, Bool.not_not, gt_iff_lt, ge_iff_le] at hco1
    have hPK := POK_split hco1
    refine W.skip ?_
    refine At.then_n ?_
    refine W.seq ?_
    refine W.seq ?_
    refine W.sub [(2, _), (3, _), (7, _)] ⟨rfl, rfl, rfl, trivial⟩ ?_
    refine W.reg [(0, false), (1, false), (2, false)] (by kernel_rfl) ?_
    intro K hK
    refine x_move rfl rfl rfl rfl ?_
    refine x_len rfl rfl rfl rfl Try.underlying56 rfl ?_
    refine x_eqi _ rfl rfl rfl rfl rfl rfl ?_
    refine Ex.done (hK _ _ ?_)
    refine At.then_n ?_
    refine W.cond rfl (fun hco2 => ?_) (fun hco2 => ?_)
    · try simp only [decide_eq_true_eq, decide_eq_false_iff_not, Bool.not_eq_true', Bool.not_eq_false', beq_iff_eq, bne_iff_ne, ne_eq, Bool.not_eq_eq_eq_not, Bool.not_true, Bool.not_false, beq_eq_false_iff_ne, bne_eq_false_iff_eq, Bool.not_not, gt_iff_lt, ge_iff_le] at hco2
      refine W.seq ?_
      refine W.sub [(2, _)] ⟨rfl, trivial⟩ ?_
      refine W.reg [(0, false), (1, false)] (by kernel_rfl) ?_
      intro K hK
      refine x_move rfl rfl rfl rfl ?_
      refine x_assign rfl rfl rfl rfl ?_
      refine Ex.done (hK _ _ ?_)
      refine At.then_n ?_
      refine W.ret ?_
      refine At.then_r ?_
      refine At.ret1 (.tmp 6) rfl ⟨rfl, trivial⟩ ?_
      exact ⟨by unfold homeL; rw [if_pos hco1, if_pos (List.length_eq_zero_iff.1 (by omega))], M.frm⟩
    · try simp only [decide_eq_true_eq, decide_eq_false_iff_not, Bool.not_eq_true', Bool.not_eq_false', beq_iff_eq, bne_iff_ne, ne_eq, Bool.not_eq_eq_eq_not, Bool.not_true, Bool.not_false, beq_eq_false_iff_ne, bne_eq_false_iff_eq, Bool.not_not, gt_iff_lt, ge_iff_le] at hco2
      have hn0 : splitN p ≠ [] := fun e => hco2 (by rw [e]; rfl)
      have hln := List.length_pos_iff.2 hn0
      refine W.skip ?_
      refine At.then_n ?_
      refine W.seq ?_
      refine W.sub [(3, _), (7, _)] ⟨rfl, rfl, trivial⟩ ?_
      refine W.regT (by kernel_rfl) #[0, 0, 0, 4, 12, 30, 62, 127, 255, 511, 511, 0, 3071, 8191] (.par [(0, false), (1, false), (2, false), (3, false), (4, false), (5, false)] 6 (.two [] 7 [(8, false), (9, false), (10, false), (11, true)] 11 [(7, true), (8, false), (9, false), (10, false)] (.leaf [(12, true), (13, false)])) 11 (.leaf [(6, true), (7, true), (8, false), (9, false), (10, false), (12, true), (13, false)])) (by kernel_rfl) ?_
      intro K wD1 hK hwD1
      have M := M.drew hwD1
      refine ExT.par ?_
      refine x_ldA [_] rfl rfl rfl Try.underlying32 rfl sz32 rfl rfl ⟨_, _, _, (by first | exact M.at_ 0 rfl | exact M.at_ 1 rfl | exact M.at_ 2 rfl | exact M.at_ 3 rfl | exact M.at_ 4 rfl | exact M.at_ 5 rfl | exact M.at_ 6 rfl | exact M.at_ 7 rfl), rfl⟩ ?_
      refine x_move rfl rfl rfl rfl ?_
      refine x_move rfl rfl rfl rfl ?_
      refine x_len rfl rfl rfl rfl Try.underlying56 rfl ?_
      refine x_sub _ rfl rfl rfl rfl rfl (wsub (by omega) (by omega)) ?_
      refine x_slh ((splitN p).length - 1) rfl rfl rfl Try.underlying56 sz9 rfl rfl (by omega) (by omega) ?_
      refine Ex.fork ?_
      refine ⟨?_, ?_⟩
      ·
        refine x_call rfl rfl rfl rfl rfl en36 (rtext_c (strsO_at (strsO_take hs1 (j := (splitN p).length - 1) (by omega)) M (fun y hy => by simp [hy])) (by simp; omega) (fun y hy => by have := allOK_len hPK.2.1 y (List.mem_of_mem_take hy); omega)) ?_
        rintro r_ w2 ⟨rfl, hn2⟩
        have M := M.new hn2
        refine ⟨⟨.inr ⟨_, _, _, (by first | exact M.at_ 0 rfl | exact M.at_ 1 rfl | exact M.at_ 2 rfl | exact M.at_ 3 rfl | exact M.at_ 4 rfl | exact M.at_ 5 rfl | exact M.at_ 6 rfl | exact M.at_ 7 rfl), rfl⟩, trivial⟩, ?_⟩
        refine Ex.fork ?_
        refine ExT.two ?_
        refine Ex.fork ?_
        refine Ex.join (fun F' T' w' => ∃ bx pd cd R1, T' = [(0, R1)] ∧ F' = [(9, ptr bx), (31, .agg #[strV (findL l (joinS ((splitN p).take ((splitN p).length - 1)))).1.1, .bool (findL l (joinS ((splitN p).take ((splitN p).length - 1)))).1.2.1, .slice pd (findL l (joinS ((splitN p).take ((splitN p).length - 1)))).1.2.2.length cd]), (32, .int .i64 (findL l (joinS ((splitN p).take ((splitN p).length - 1)))).2)] ∧ Sep w0 ([(bx, .cells [.string ByteArray.empty, .bool false, .slice none 0 0].toArray 25 (0, 0)), (bbx1, .cells [.slice pv l.length cv].toArray 32 (0, 0))] ++ L1) w') ?_ ?_ ?_
        ·
          refine x_call rfl rfl rfl rfl rfl en57 (rfind_c (h.new M.frm) (by omega)) ?_
          rintro r_ wcall3 ⟨dv, rfl, hb, hncall3⟩
          have M := M.new hncall3
          obtain ⟨pd, cd, rfl⟩ := hb.shape
          refine ⟨⟨.inl (by kernel_rfl), trivial⟩, ?_⟩
          refine x_move rfl rfl rfl rfl ?_
          refine x_ext rfl rfl rfl rfl rfl ?_
          refine x_ext rfl rfl rfl rfl rfl ?_
          refine x_alloc [_, _, _] rfl rfl rfl ze25 rfl ?_
          intro bal1 wal1 hbal1 hwal1
          have M := M.acons hbal1 hwal1
          refine ⟨⟨.inr ⟨_, _, _, (by first | exact M.at_ 0 rfl | exact M.at_ 1 rfl | exact M.at_ 2 rfl | exact M.at_ 3 rfl | exact M.at_ 4 rfl | exact M.at_ 5 rfl | exact M.at_ 6 rfl | exact M.at_ 7 rfl), rfl⟩, trivial⟩, ?_⟩
          refine Ex.forkS [(9, _), (31, _), (32, _)] ⟨rfl, rfl, rfl, trivial⟩ ?_
          exact ⟨bal1, pd, cd, _, rfl, rfl, M⟩
        · refine x_alloc [_, _, _] rfl rfl rfl ze25 rfl ?_
          intro bal2 wal2 hbal2 hwal2
          have M := M.acons hbal2 hwal2
          refine ⟨⟨.inr ⟨_, _, _, (by first | exact M.at_ 0 rfl | exact M.at_ 1 rfl | exact M.at_ 2 rfl | exact M.at_ 3 rfl | exact M.at_ 4 rfl | exact M.at_ 5 rfl | exact M.at_ 6 rfl | exact M.at_ 7 rfl), rfl⟩, trivial⟩, ?_⟩
          refine x_call rfl rfl rfl rfl rfl en57 (rfind_c (h.new M.frm) (by omega)) ?_
          rintro r_ wcall4 ⟨dv, rfl, hb, hncall4⟩
          have M := M.new hncall4
          obtain ⟨pd, cd, rfl⟩ := hb.shape
          refine ⟨⟨.inl (by kernel_rfl), trivial⟩, ?_⟩
          refine x_move rfl rfl rfl rfl ?_
          refine x_ext rfl rfl rfl rfl rfl ?_
          refine x_ext rfl rfl rfl rfl rfl ?_
          refine Ex.forkS [(9, _), (31, _), (32, _)] ⟨rfl, rfl, rfl, trivial⟩ ?_
          exact ⟨bal2, pd, cd, _, rfl, rfl, M⟩
        rintro F1 T1 w4 ⟨bx, pd, cd, R1, rfl, rfl, M⟩
        refine ExT.leaf ?_
        refine x_st [_, _, _] _ rfl rfl rfl sz25 rfl rfl rfl rfl (by first | exact M.at_ 0 rfl | exact M.at_ 1 rfl | exact M.at_ 2 rfl | exact M.at_ 3 rfl | exact M.at_ 4 rfl | exact M.at_ 5 rfl | exact M.at_ 6 rfl | exact M.at_ 7 rfl) rfl rfl rfl ?_
        intro wst1 hwst1
        have M := by first | exact M.put 0 rfl hwst1 | exact M.put 1 rfl hwst1 | exact M.put 2 rfl hwst1 | exact M.put 3 rfl hwst1 | exact M.put 4 rfl hwst1 | exact M.put 5 rfl hwst1 | exact M.put 6 rfl hwst1 | exact M.put 7 rfl hwst1
        refine ⟨⟨.inl (by kernel_rfl), trivial⟩, ?_⟩
        refine x_assign rfl rfl rfl rfl ?_
        refine Ex.done (hK _ _ ?_)
        refine At.then_n ?_
        refine W.seq ?_
        refine W.seq ?_
        refine W.sub [(9, _), (10, _)] ⟨rfl, rfl, trivial⟩ ?_
        refine W.reg [(0, false), (1, false)] (by kernel_rfl) ?_
        intro K hK
        refine x_move rfl rfl rfl rfl ?_
        refine x_nei _ rfl rfl rfl rfl rfl rfl ?_
        refine Ex.done (hK _ _ ?_)
        refine At.then_n ?_
        refine W.cond rfl (fun hco3 => ?_) (fun hco3 => ?_)
        · try simp only [decide_eq_true_eq, decide_eq_false_iff_not, Bool.not_eq_true', Bool.not_eq_false', beq_iff_eq, bne_iff_ne, ne_eq, Bool.not_eq_eq_eq_not, Bool.not_true, Bool.not_false, beq_eq_false_iff_ne, bne_eq_false_iff_eq, Bool.not_not, gt_iff_lt, ge_iff_le] at hco3
          refine W.seq ?_
          refine W.sub [(10, _)] ⟨rfl, trivial⟩ ?_
          refine W.reg [(0, false), (1, false)] (by kernel_rfl) ?_
          intro K hK
          refine x_move rfl rfl rfl rfl ?_
          refine x_assign rfl rfl rfl rfl ?_
          refine Ex.done (hK _ _ ?_)
          refine At.then_n ?_
          refine W.ret ?_
          refine At.then_r ?_
          refine At.ret1 (.tmp 6) rfl ⟨rfl, trivial⟩ ?_
          exact ⟨by unfold homeL; rw [if_pos hco1, if_neg hn0, if_neg hco3]; try rfl, M.frm⟩
        · try simp only [decide_eq_true_eq, decide_eq_false_iff_not, Bool.not_eq_true', Bool.not_eq_false', beq_iff_eq, bne_iff_ne, ne_eq, Bool.not_eq_eq_eq_not, Bool.not_true, Bool.not_false, beq_eq_false_iff_ne, bne_eq_false_iff_eq, Bool.not_not, gt_iff_lt, ge_iff_le] at hco3
          refine W.skip ?_
          refine At.then_n ?_
          refine W.seq ?_
          refine W.seq ?_
          refine W.sub [(9, _)] ⟨rfl, trivial⟩ ?_
          refine W.reg [(0, false), (1, false), (2, false)] (by kernel_rfl) ?_
          intro K hK
          refine x_fa rfl rfl rfl fo25_1 rfl ?_
          refine x_ld rfl rfl rfl Try.underlying4 rfl rfl (cell_of (by first | exact M.at_ 0 rfl | exact M.at_ 1 rfl | exact M.at_ 2 rfl | exact M.at_ 3 rfl | exact M.at_ 4 rfl | exact M.at_ 5 rfl | exact M.at_ 6 rfl | exact M.at_ 7 rfl) rfl) ?_
          refine x_not _ rfl rfl rfl rfl rfl ?_
          refine Ex.done (hK _ _ ?_)
          refine At.then_n ?_
          refine W.cond rfl (fun hco4 => ?_) (fun hco4 => ?_)
          · try simp only [decide_eq_true_eq, decide_eq_false_iff_not, Bool.not_eq_true', Bool.not_eq_false', beq_iff_eq, bne_iff_ne, ne_eq, Bool.not_eq_eq_eq_not, Bool.not_true, Bool.not_false, beq_eq_false_iff_ne, bne_eq_false_iff_eq, Bool.not_not, gt_iff_lt, ge_iff_le] at hco4
            refine W.seq ?_
            refine W.sub [] trivial ?_
            refine W.reg [(0, false)] (by kernel_rfl) ?_
            intro K hK
            refine x_assign rfl rfl rfl rfl ?_
            refine Ex.done (hK _ _ ?_)
            refine At.then_n ?_
            refine W.ret ?_
            refine At.then_r ?_
            refine At.ret1 (.tmp 6) rfl ⟨rfl, trivial⟩ ?_
            exact ⟨by unfold homeL; rw [if_pos hco1, if_neg hn0, if_pos hco3, if_neg (by simp [hco4])]; try rfl, M.frm⟩
          · try simp only [decide_eq_true_eq, decide_eq_false_iff_not, Bool.not_eq_true', Bool.not_eq_false', beq_iff_eq, bne_iff_ne, ne_eq, Bool.not_eq_eq_eq_not, Bool.not_true, Bool.not_false, beq_eq_false_iff_ne, bne_eq_false_iff_eq, Bool.not_not, gt_iff_lt, ge_iff_le] at hco4
            refine W.skip ?_
            refine At.then_n ?_
            refine W.seq ?_
            refine W.sub [] trivial ?_
            refine W.reg [(0, false)] (by kernel_rfl) ?_
            intro K hK
            refine x_assign rfl rfl rfl rfl ?_
            refine Ex.done (hK _ _ ?_)
            refine At.then_n ?_
            refine W.ret ?_
            refine At.ret1 (.tmp 6) rfl ⟨rfl, trivial⟩ ?_
            exact ⟨by unfold homeL; rw [if_pos hco1, if_neg hn0, if_pos hco3, if_pos hco4]; try rfl, M.frm⟩
      · refine x_alloc [_, _, _] rfl rfl rfl ze25 rfl ?_
        intro bal3 wal3 hbal3 hwal3
        have M := M.acons hbal3 hwal3
        refine ⟨⟨.inr ⟨_, _, _, (by first | exact M.at_ 0 rfl | exact M.at_ 1 rfl | exact M.at_ 2 rfl | exact M.at_ 3 rfl | exact M.at_ 4 rfl | exact M.at_ 5 rfl | exact M.at_ 6 rfl | exact M.at_ 7 rfl), rfl⟩, trivial⟩, ?_⟩
        refine Ex.fork ?_
        refine ExT.leaf ?_
        refine x_call rfl rfl rfl rfl rfl en36 (rtext_c (strsO_at (strsO_take hs1 (j := (splitN p).length - 1) (by omega)) M (fun y hy => by simp [hy])) (by simp; omega) (fun y hy => by have := allOK_len hPK.2.1 y (List.mem_of_mem_take hy); omega)) ?_
        rintro r_ w2 ⟨rfl, hn2⟩
        have M := M.new hn2
        refine ⟨⟨.inr ⟨_, _, _, (by first | exact M.at_ 0 rfl | exact M.at_ 1 rfl | exact M.at_ 2 rfl | exact M.at_ 3 rfl | exact M.at_ 4 rfl | exact M.at_ 5 rfl | exact M.at_ 6 rfl | exact M.at_ 7 rfl), rfl⟩, trivial⟩, ?_⟩
        refine x_call rfl rfl rfl rfl rfl en57 (rfind_c (h.new M.frm) (by omega)) ?_
        rintro r_ wcall6 ⟨dv, rfl, hb, hncall6⟩
        have M := M.new hncall6
        obtain ⟨pd, cd, rfl⟩ := hb.shape
        refine ⟨⟨.inl (by kernel_rfl), trivial⟩, ?_⟩
        refine x_move rfl rfl rfl rfl ?_
        refine x_ext rfl rfl rfl rfl rfl ?_
        refine x_ext rfl rfl rfl rfl rfl ?_
        refine x_st [_, _, _] _ rfl rfl rfl sz25 rfl rfl rfl rfl (by first | exact M.at_ 0 rfl | exact M.at_ 1 rfl | exact M.at_ 2 rfl | exact M.at_ 3 rfl | exact M.at_ 4 rfl | exact M.at_ 5 rfl | exact M.at_ 6 rfl | exact M.at_ 7 rfl) rfl rfl rfl ?_
        intro wst2 hwst2
        have M := by first | exact M.put 0 rfl hwst2 | exact M.put 1 rfl hwst2 | exact M.put 2 rfl hwst2 | exact M.put 3 rfl hwst2 | exact M.put 4 rfl hwst2 | exact M.put 5 rfl hwst2 | exact M.put 6 rfl hwst2 | exact M.put 7 rfl hwst2
        refine ⟨⟨.inl (by kernel_rfl), trivial⟩, ?_⟩
        refine x_assign rfl rfl rfl rfl ?_
        refine Ex.done (hK _ _ ?_)
        refine At.then_n ?_
        refine W.seq ?_
        refine W.seq ?_
        refine W.sub [(9, _), (10, _)] ⟨rfl, rfl, trivial⟩ ?_
        refine W.reg [(0, false), (1, false)] (by kernel_rfl) ?_
        intro K hK
        refine x_move rfl rfl rfl rfl ?_
        refine x_nei _ rfl rfl rfl rfl rfl rfl ?_
        refine Ex.done (hK _ _ ?_)
        refine At.then_n ?_
        refine W.cond rfl (fun hco5 => ?_) (fun hco5 => ?_)
        · try simp only [decide_eq_true_eq, decide_eq_false_iff_not, Bool.not_eq_true', Bool.not_eq_false', beq_iff_eq, bne_iff_ne, ne_eq, Bool.not_eq_eq_eq_not, Bool.not_true, Bool.not_false, beq_eq_false_iff_ne, bne_eq_false_iff_eq, Bool.not_not, gt_iff_lt, ge_iff_le] at hco5
          refine W.seq ?_
          refine W.sub [(10, _)] ⟨rfl, trivial⟩ ?_
          refine W.reg [(0, false), (1, false)] (by kernel_rfl) ?_
          intro K hK
          refine x_move rfl rfl rfl rfl ?_
          refine x_assign rfl rfl rfl rfl ?_
          refine Ex.done (hK _ _ ?_)
          refine At.then_n ?_
          refine W.ret ?_
          refine At.then_r ?_
          refine At.ret1 (.tmp 6) rfl ⟨rfl, trivial⟩ ?_
          exact ⟨by unfold homeL; rw [if_pos hco1, if_neg hn0, if_neg hco5]; try rfl, M.frm⟩
        · try simp only [decide_eq_true_eq, decide_eq_false_iff_not, Bool.not_eq_true', Bool.not_eq_false', beq_iff_eq, bne_iff_ne, ne_eq, Bool.not_eq_eq_eq_not, Bool.not_true, Bool.not_false, beq_eq_false_iff_ne, bne_eq_false_iff_eq, Bool.not_not, gt_iff_lt, ge_iff_le] at hco5
          refine W.skip ?_
          refine At.then_n ?_
          refine W.seq ?_
          refine W.seq ?_
          refine W.sub [(9, _)] ⟨rfl, trivial⟩ ?_
          refine W.reg [(0, false), (1, false), (2, false)] (by kernel_rfl) ?_
          intro K hK
          refine x_fa rfl rfl rfl fo25_1 rfl ?_
          refine x_ld rfl rfl rfl Try.underlying4 rfl rfl (cell_of (by first | exact M.at_ 0 rfl | exact M.at_ 1 rfl | exact M.at_ 2 rfl | exact M.at_ 3 rfl | exact M.at_ 4 rfl | exact M.at_ 5 rfl | exact M.at_ 6 rfl | exact M.at_ 7 rfl) rfl) ?_
          refine x_not _ rfl rfl rfl rfl rfl ?_
          refine Ex.done (hK _ _ ?_)
          refine At.then_n ?_
          refine W.cond rfl (fun hco6 => ?_) (fun hco6 => ?_)
          · try simp only [decide_eq_true_eq, decide_eq_false_iff_not, Bool.not_eq_true', Bool.not_eq_false', beq_iff_eq, bne_iff_ne, ne_eq, Bool.not_eq_eq_eq_not, Bool.not_true, Bool.not_false, beq_eq_false_iff_ne, bne_eq_false_iff_eq, Bool.not_not, gt_iff_lt, ge_iff_le] at hco6
            refine W.seq ?_
            refine W.sub [] trivial ?_
            refine W.reg [(0, false)] (by kernel_rfl) ?_
            intro K hK
            refine x_assign rfl rfl rfl rfl ?_
            refine Ex.done (hK _ _ ?_)
            refine At.then_n ?_
            refine W.ret ?_
            refine At.then_r ?_
            refine At.ret1 (.tmp 6) rfl ⟨rfl, trivial⟩ ?_
            exact ⟨by unfold homeL; rw [if_pos hco1, if_neg hn0, if_pos hco5, if_neg (by simp [hco6])]; try rfl, M.frm⟩
          · try simp only [decide_eq_true_eq, decide_eq_false_iff_not, Bool.not_eq_true', Bool.not_eq_false', beq_iff_eq, bne_iff_ne, ne_eq, Bool.not_eq_eq_eq_not, Bool.not_true, Bool.not_false, beq_eq_false_iff_ne, bne_eq_false_iff_eq, Bool.not_not, gt_iff_lt, ge_iff_le] at hco6
            refine W.skip ?_
            refine At.then_n ?_
            refine W.seq ?_
            refine W.sub [] trivial ?_
            refine W.reg [(0, false)] (by kernel_rfl) ?_
            intro K hK
            refine x_assign rfl rfl rfl rfl ?_
            refine Ex.done (hK _ _ ?_)
            refine At.then_n ?_
            refine W.ret ?_
            refine At.ret1 (.tmp 6) rfl ⟨rfl, trivial⟩ ?_
            exact ⟨by unfold homeL; rw [if_pos hco1, if_neg hn0, if_pos hco5, if_pos hco6]; try rfl, M.frm⟩
end Go.Proofs.Ytccfmfehfhfhhaa

namespace Go.Proofs.Ytccfmfehfhfhhaa
open Go Go.Fw Go.RowKit Go.Proofs
set_option linter.unusedVariables false
set_option linter.unusedSimpArgs false

set_option maxRecDepth 100000 in
theorem rmkdir_c {w00 w0 : World} {L X : List (Nat × Obj)} {v : Value} {l : List Raw} {p : List UInt8} (M : Sep w00 (L ++ X) w0) (h : FilesK w00 L v l) (hl : l.length ≤ 999) (hnm : ∀ y ∈ l, y.1.length ≤ 2000) (hp : p.length ≤ 2000) : Ret Try.prog 51 #[.agg #[v], strV p] w0 fun r w' => ∃ u L', r = .tuple #[.agg #[u], .int .i64 (mkdirL l p).2] ∧ FilesK w00 (L ++ L') u (mkdirL l p).1 ∧ Sep w00 ((L ++ L') ++ X) w' := by
  have hFK := h
  obtain ⟨pv, cv, rfl⟩ := (h.at_ M (fun y hy => by simp [hy])).shape
  refine Ret.of_W Try.func51 rfl Try.ntmps51 rfl ?_
  refine W.seq ?_
  refine W.sub [(0, _), (1, _)] ⟨rfl, rfl, trivial⟩ ?_
  refine W.reg [(0, true), (1, true), (2, false)] (by kernel_rfl) ?_
  intro K hK
  refine x_box [_] rfl rfl rfl rfl rfl ?_
  intro bbx1 wbx1 hbbx1 hwbx1
  have M := M.acons hbbx1 hwbx1
  refine ⟨trivial, ?_⟩
  refine x_alloc [_] rfl rfl rfl ze32 rfl ?_
  intro bal1 wal1 hbal1 hwal1
  have M := M.acons hbal1 hwal1
  refine ⟨trivial, ?_⟩
  refine x_assign rfl rfl rfl rfl ?_
  refine Ex.done (hK _ _ ?_)
  refine At.then_n ?_
  refine W.seq ?_
  refine W.seq ?_
  refine W.sub [(1, _), (2, _), (4, _)] ⟨rfl, rfl, rfl, trivial⟩ ?_
  refine W.reg [(0, false), (1, false), (2, true), (3, false)] (by kernel_rfl) ?_
  intro K hK
  refine x_ldA [_] rfl rfl rfl Try.underlying32 rfl sz32 rfl rfl ⟨_, _, _, (by first | exact M.at_ 0 rfl | exact M.at_ 1 rfl | exact M.at_ 2 rfl | exact M.at_ 3 rfl | exact M.at_ 4 rfl | exact M.at_ 5 rfl | exact M.at_ 6 rfl | exact M.at_ 7 rfl), rfl⟩ ?_
  refine x_move rfl rfl rfl rfl ?_
  refine x_call rfl rfl rfl rfl rfl en71 (rhome_c (hFK.at_ M (fun y hy => by simp [hy])) (by omega)) ?_
  rintro r_ w1 ⟨rfl, hn1⟩
  have M := M.new hn1
  refine ⟨trivial, ?_⟩
  refine x_assign rfl rfl rfl rfl ?_
  refine Ex.done (hK _ _ ?_)
  refine At.then_n ?_
  refine W.seq ?_
  refine W.sub [(1, _), (2, _), (4, _), (6, _)] ⟨rfl, rfl, rfl, rfl, trivial⟩ ?_
  refine W.reg [(0, false), (1, false)] (by kernel_rfl) ?_
  intro K hK
  refine x_move rfl rfl rfl rfl ?_
  refine x_nei _ rfl rfl rfl rfl rfl rfl ?_
  refine Ex.done (hK _ _ ?_)
  refine At.then_n ?_
  refine W.cond rfl (fun hco1 => ?_) (fun hco1 => ?_)
  · try simp only [decide_eq_true_eq, decide_eq_false_iff_not, Bool.not_eq_true', Bool.not_eq_false', beq_iff_eq, bne_iff_ne, ne_eq, Bool.not_eq_eq_eq_not, Bool.not_true, Bool.not_false, beq_eq_false_iff_ne, bne_eq_false_iff_eq, Bool.not_not, gt_iff_lt, ge_iff_le] at hco1
    refine W.seq ?_
    refine W.sub [(2, _), (4, _), (6, _)] ⟨rfl, rfl, rfl, trivial⟩ ?_
    refine W.reg [(0, false), (1, false), (2, true), (3, false)] (by kernel_rfl) ?_
    intro K hK
    refine x_ldA [_] rfl rfl rfl Try.underlying32 rfl sz32 rfl rfl ⟨_, _, _, (by first | exact M.at_ 0 rfl | exact M.at_ 1 rfl | exact M.at_ 2 rfl | exact M.at_ 3 rfl | exact M.at_ 4 rfl | exact M.at_ 5 rfl | exact M.at_ 6 rfl | exact M.at_ 7 rfl), rfl⟩ ?_
    refine x_move rfl rfl rfl rfl ?_
    refine x_st [_] _ rfl rfl rfl sz32 rfl rfl rfl rfl (by first | exact M.at_ 0 rfl | exact M.at_ 1 rfl | exact M.at_ 2 rfl | exact M.at_ 3 rfl | exact M.at_ 4 rfl | exact M.at_ 5 rfl | exact M.at_ 6 rfl | exact M.at_ 7 rfl) rfl rfl rfl ?_
    intro wst1 hwst1
    have M := by first | exact M.put 0 rfl hwst1 | exact M.put 1 rfl hwst1 | exact M.put 2 rfl hwst1 | exact M.put 3 rfl hwst1 | exact M.put 4 rfl hwst1 | exact M.put 5 rfl hwst1 | exact M.put 6 rfl hwst1 | exact M.put 7 rfl hwst1
    refine ⟨trivial, ?_⟩
    refine x_assign rfl rfl rfl rfl ?_
    refine Ex.done (hK _ _ ?_)
    refine At.then_n ?_
    refine W.ret ?_
    refine At.then_r ?_
    refine At.ret2 (.cell 4 32) (.tmp 5) rfl ⟨⟨_, rfl, run_loadVarA (l := [_]) Try.underlying32 rfl sz32 ⟨_, _, _, (by first | exact M.at_ 0 rfl | exact M.at_ 1 rfl | exact M.at_ 2 rfl | exact M.at_ 3 rfl | exact M.at_ 4 rfl | exact M.at_ 5 rfl | exact M.at_ 6 rfl | exact M.at_ 7 rfl), rfl⟩ (Nat.zero_lt_succ _)⟩, rfl, trivial⟩ ?_
    have hR : mkdirL l p = (l, homeL l p 10) := by unfold mkdirL; rw [if_neg hco1]
    rw [hR]; exact ⟨_, [], rfl, hFK.mono (fun y hy => by simp [hy]), by simpa using (St.dropL (L' := [_, _]) M : Sep w00 (L ++ X) _)⟩
  · try simp only [decide_eq_true_eq, decide_eq_false_iff_not, Bool.not_eq_true', Bool.not_eq_false', beq_iff_eq, bne_iff_ne, ne_eq, Bool.not_eq_eq_eq_not, Bool.not_true, Bool.not_false, beq_eq_false_iff_ne, bne_eq_false_iff_eq, Bool.not_not, gt_iff_lt, ge_iff_le] at hco1
    refine W.skip ?_
    refine At.then_n ?_
    refine W.seq ?_
    refine W.seq ?_
    refine W.sub [(1, _), (2, _), (4, _)] ⟨rfl, rfl, rfl, trivial⟩ ?_
    refine W.reg [(0, false), (1, false), (2, true), (3, false)] (by kernel_rfl) ?_
    intro K hK
    refine x_ldA [_] rfl rfl rfl Try.underlying32 rfl sz32 rfl rfl ⟨_, _, _, (by first | exact M.at_ 0 rfl | exact M.at_ 1 rfl | exact M.at_ 2 rfl | exact M.at_ 3 rfl | exact M.at_ 4 rfl | exact M.at_ 5 rfl | exact M.at_ 6 rfl | exact M.at_ 7 rfl), rfl⟩ ?_
    refine x_move rfl rfl rfl rfl ?_
    refine x_call rfl rfl rfl rfl rfl en34 (at_c (hFK.at_ M (fun y hy => by simp [hy])) (by omega)) ?_
    rintro r_ w2 ⟨rfl, hn2⟩
    have M := M.new hn2
    refine ⟨trivial, ?_⟩
    refine x_geq _ rfl rfl rfl rfl rfl rfl ?_
    refine Ex.done (hK _ _ ?_)
    refine At.then_n ?_
    refine W.cond rfl (fun hco2 => ?_) (fun hco2 => ?_)
    · try simp only [decide_eq_true_eq, decide_eq_false_iff_not, Bool.not_eq_true', Bool.not_eq_false', beq_iff_eq, bne_iff_ne, ne_eq, Bool.not_eq_eq_eq_not, Bool.not_true, Bool.not_false, beq_eq_false_iff_ne, bne_eq_false_iff_eq, Bool.not_not, gt_iff_lt, ge_iff_le] at hco2
      refine W.seq ?_
      refine W.sub [(2, _), (4, _)] ⟨rfl, rfl, trivial⟩ ?_
      refine W.reg [(0, false), (1, true), (2, false)] (by kernel_rfl) ?_
      intro K hK
      refine x_ldA [_] rfl rfl rfl Try.underlying32 rfl sz32 rfl rfl ⟨_, _, _, (by first | exact M.at_ 0 rfl | exact M.at_ 1 rfl | exact M.at_ 2 rfl | exact M.at_ 3 rfl | exact M.at_ 4 rfl | exact M.at_ 5 rfl | exact M.at_ 6 rfl | exact M.at_ 7 rfl), rfl⟩ ?_
      refine x_st [_] _ rfl rfl rfl sz32 rfl rfl rfl rfl (by first | exact M.at_ 0 rfl | exact M.at_ 1 rfl | exact M.at_ 2 rfl | exact M.at_ 3 rfl | exact M.at_ 4 rfl | exact M.at_ 5 rfl | exact M.at_ 6 rfl | exact M.at_ 7 rfl) rfl rfl rfl ?_
      intro wst2 hwst2
      have M := by first | exact M.put 0 rfl hwst2 | exact M.put 1 rfl hwst2 | exact M.put 2 rfl hwst2 | exact M.put 3 rfl hwst2 | exact M.put 4 rfl hwst2 | exact M.put 5 rfl hwst2 | exact M.put 6 rfl hwst2 | exact M.put 7 rfl hwst2
      refine ⟨trivial, ?_⟩
      refine x_assign rfl rfl rfl rfl ?_
      refine Ex.done (hK _ _ ?_)
      refine At.then_n ?_
      refine W.ret ?_
      refine At.then_r ?_
      refine At.ret2 (.cell 4 32) (.tmp 5) rfl ⟨⟨_, rfl, run_loadVarA (l := [_]) Try.underlying32 rfl sz32 ⟨_, _, _, (by first | exact M.at_ 0 rfl | exact M.at_ 1 rfl | exact M.at_ 2 rfl | exact M.at_ 3 rfl | exact M.at_ 4 rfl | exact M.at_ 5 rfl | exact M.at_ 6 rfl | exact M.at_ 7 rfl), rfl⟩ (Nat.zero_lt_succ _)⟩, rfl, trivial⟩ ?_
      have hR : mkdirL l p = (l, 10) := by unfold mkdirL; rw [if_pos hco1, if_pos hco2]
      rw [hR]; exact ⟨_, [], rfl, hFK.mono (fun y hy => by simp [hy]), by simpa using (St.dropL (L' := [_, _]) M : Sep w00 (L ++ X) _)⟩
    · try simp only [decide_eq_true_eq, decide_eq_false_iff_not, Bool.not_eq_true', Bool.not_eq_false', beq_iff_eq, bne_iff_ne, ne_eq, Bool.not_eq_eq_eq_not, Bool.not_true, Bool.not_false, beq_eq_false_iff_ne, bne_eq_false_iff_eq, Bool.not_not, gt_iff_lt, ge_iff_le] at hco2
      refine W.skip ?_
      refine At.then_n ?_
      refine W.seq ?_
      refine W.seq ?_
      refine W.sub [(1, _), (2, _), (4, _)] ⟨rfl, rfl, rfl, trivial⟩ ?_
      refine W.reg [(0, false), (1, false), (2, false), (3, false)] (by kernel_rfl) ?_
      intro K hK
      refine x_fa rfl rfl rfl fo32_0 rfl ?_
      refine x_ld rfl rfl rfl Try.underlying22 rfl rfl (cell_of (by first | exact M.at_ 0 rfl | exact M.at_ 1 rfl | exact M.at_ 2 rfl | exact M.at_ 3 rfl | exact M.at_ 4 rfl | exact M.at_ 5 rfl | exact M.at_ 6 rfl | exact M.at_ 7 rfl) rfl) ?_
      refine x_len rfl rfl rfl rfl Try.underlying22 rfl ?_
      refine x_geq _ rfl rfl rfl rfl rfl rfl ?_
      refine Ex.done (hK _ _ ?_)
      refine At.then_n ?_
      refine W.cond rfl (fun hco3 => ?_) (fun hco3 => ?_)
      · try simp only [decide_eq_true_eq, decide_eq_false_iff_not, Bool.not_eq_true', Bool.not_eq_false', beq_iff_eq, bne_iff_ne, ne_eq, Bool.not_eq_eq_eq_not, Bool.not_true, Bool.not_false, beq_eq_false_iff_ne, bne_eq_false_iff_eq, Bool.not_not, gt_iff_lt, ge_iff_le] at hco3
        refine W.seq ?_
        refine W.sub [(2, _), (4, _)] ⟨rfl, rfl, trivial⟩ ?_
        refine W.reg [(0, false), (1, true), (2, false)] (by kernel_rfl) ?_
        intro K hK
        refine x_ldA [_] rfl rfl rfl Try.underlying32 rfl sz32 rfl rfl ⟨_, _, _, (by first | exact M.at_ 0 rfl | exact M.at_ 1 rfl | exact M.at_ 2 rfl | exact M.at_ 3 rfl | exact M.at_ 4 rfl | exact M.at_ 5 rfl | exact M.at_ 6 rfl | exact M.at_ 7 rfl), rfl⟩ ?_
        refine x_st [_] _ rfl rfl rfl sz32 rfl rfl rfl rfl (by first | exact M.at_ 0 rfl | exact M.at_ 1 rfl | exact M.at_ 2 rfl | exact M.at_ 3 rfl | exact M.at_ 4 rfl | exact M.at_ 5 rfl | exact M.at_ 6 rfl | exact M.at_ 7 rfl) rfl rfl rfl ?_
        intro wst3 hwst3
        have M := by first | exact M.put 0 rfl hwst3 | exact M.put 1 rfl hwst3 | exact M.put 2 rfl hwst3 | exact M.put 3 rfl hwst3 | exact M.put 4 rfl hwst3 | exact M.put 5 rfl hwst3 | exact M.put 6 rfl hwst3 | exact M.put 7 rfl hwst3
        refine ⟨trivial, ?_⟩
        refine x_assign rfl rfl rfl rfl ?_
        refine Ex.done (hK _ _ ?_)
        refine At.then_n ?_
        refine W.ret ?_
        refine At.then_r ?_
        refine At.ret2 (.cell 4 32) (.tmp 5) rfl ⟨⟨_, rfl, run_loadVarA (l := [_]) Try.underlying32 rfl sz32 ⟨_, _, _, (by first | exact M.at_ 0 rfl | exact M.at_ 1 rfl | exact M.at_ 2 rfl | exact M.at_ 3 rfl | exact M.at_ 4 rfl | exact M.at_ 5 rfl | exact M.at_ 6 rfl | exact M.at_ 7 rfl), rfl⟩ (Nat.zero_lt_succ _)⟩, rfl, trivial⟩ ?_
        have hR : mkdirL l p = (l, 7) := by unfold mkdirL; rw [if_pos hco1, if_neg hco2, if_pos (by omega)]
        rw [hR]; exact ⟨_, [], rfl, hFK.mono (fun y hy => by simp [hy]), by simpa using (St.dropL (L' := [_, _]) M : Sep w00 (L ++ X) _)⟩
      · try simp only [decide_eq_true_eq, decide_eq_false_iff_not, Bool.not_eq_true', Bool.not_eq_false', beq_iff_eq, bne_iff_ne, ne_eq, Bool.not_eq_eq_eq_not, Bool.not_true, Bool.not_false, beq_eq_false_iff_ne, bne_eq_false_iff_eq, Bool.not_not, gt_iff_lt, ge_iff_le] at hco3
        refine W.skip ?_
        refine At.then_n ?_
        refine W.seq ?_
        refine W.sub [(1, _), (2, _), (4, _)] ⟨rfl, rfl, rfl, trivial⟩ ?_
        refine W.reg [(0, false), (1, false), (2, false), (3, true), (4, true), (5, false)] (by kernel_rfl) ?_
        intro K hK
        refine x_ldA [_] rfl rfl rfl Try.underlying32 rfl sz32 rfl rfl ⟨_, _, _, (by first | exact M.at_ 0 rfl | exact M.at_ 1 rfl | exact M.at_ 2 rfl | exact M.at_ 3 rfl | exact M.at_ 4 rfl | exact M.at_ 5 rfl | exact M.at_ 6 rfl | exact M.at_ 7 rfl), rfl⟩ ?_
        refine x_move rfl rfl rfl rfl ?_
        refine x_build [_, _, _] rfl rfl rfl pl25 ze25 rfl rfl rfl ?_
        refine x_call rfl rfl rfl rfl rfl en35 (with_c (x := (p, true, [])) (St.inn2 (F := [_, _]) M) hFK (SgK.own (L' := []) OwL.nil (by decide) (by simp)) (by omega) hnm hp) ?_
        rintro r_ w3 ⟨u, L', rfl, hu, M⟩
        have M := M.out2 [_, _]
        obtain ⟨pu, cu, rfl⟩ := (hu.at_ M (fun y hy => by rcases List.mem_append.1 hy with hy | hy <;> simp [hy])).shape
        refine ⟨trivial, ?_⟩
        refine x_st [_] _ rfl rfl rfl sz32 rfl rfl rfl rfl (by first | exact M.at_ 0 rfl | exact M.at_ 1 rfl | exact M.at_ 2 rfl | exact M.at_ 3 rfl | exact M.at_ 4 rfl | exact M.at_ 5 rfl | exact M.at_ 6 rfl | exact M.at_ 7 rfl) rfl rfl rfl ?_
        intro wst4 hwst4
        have M := by first | exact M.put 0 rfl hwst4 | exact M.put 1 rfl hwst4 | exact M.put 2 rfl hwst4 | exact M.put 3 rfl hwst4 | exact M.put 4 rfl hwst4 | exact M.put 5 rfl hwst4 | exact M.put 6 rfl hwst4 | exact M.put 7 rfl hwst4
        refine ⟨trivial, ?_⟩
        refine x_assign rfl rfl rfl rfl ?_
        refine Ex.done (hK _ _ ?_)
        refine At.then_n ?_
        refine W.ret ?_
        refine At.ret2 (.cell 4 32) (.tmp 5) rfl ⟨⟨_, rfl, run_loadVarA (l := [_]) Try.underlying32 rfl sz32 ⟨_, _, _, (by first | exact M.at_ 0 rfl | exact M.at_ 1 rfl | exact M.at_ 2 rfl | exact M.at_ 3 rfl | exact M.at_ 4 rfl | exact M.at_ 5 rfl | exact M.at_ 6 rfl | exact M.at_ 7 rfl), rfl⟩ (Nat.zero_lt_succ _)⟩, rfl, trivial⟩ ?_
        have hR : mkdirL l p = (withR l (p, true, []), 0) := by unfold mkdirL; rw [if_pos hco1, if_neg hco2, if_neg (by omega)]
        rw [hR]; exact ⟨_, L', rfl, hu, St.dropL (L' := [_, _]) M⟩
end Go.Proofs.Ytccfmfehfhfhhaa

namespace Go.Proofs.Ytccfmfehfhfhhaa
open Go Go.Fw Go.RowKit Go.Proofs
set_option linter.unusedVariables false
set_option linter.unusedSimpArgs false

set_option maxRecDepth 100000 in
theorem rput_c {w00 w0 : World} {L X : List (Nat × Obj)} {v : Value} {l : List Raw} {p b : List UInt8} {bv : Value} (M : Sep w00 (L ++ X) w0) (h : FilesK w00 L v l) (hl : l.length ≤ 999) (hnm : ∀ y ∈ l, y.1.length ≤ 2000) (hp : p.length ≤ 2000) (hb : SgK w00 L bv 1 b.length (byteCs b)) : Ret Try.prog 52 #[.agg #[v], strV p, bv] w0 fun r w' => ∃ u L', r = .tuple #[.agg #[u], .int .i64 (putL l p b).2] ∧ FilesK w00 (L ++ L') u (putL l p b).1 ∧ Sep w00 ((L ++ L') ++ X) w' := by
  have hFK := h
  obtain ⟨pv, cv, rfl⟩ := (h.at_ M (fun y hy => by simp [hy])).shape
  obtain ⟨pb, cb, rfl⟩ := (hb _ _ M (fun y hy => by simp [hy])).shape
  refine Ret.of_W Try.func52 rfl Try.ntmps52 rfl ?_
  refine W.seq ?_
  refine W.sub [(0, _), (1, _), (2, _)] ⟨rfl, rfl, rfl, trivial⟩ ?_
  refine W.reg [(0, true), (1, true), (2, false)] (by kernel_rfl) ?_
  intro K hK
  refine x_box [_] rfl rfl rfl rfl rfl ?_
  intro bbx1 wbx1 hbbx1 hwbx1
  have M := M.acons hbbx1 hwbx1
  refine ⟨trivial, ?_⟩
  refine x_alloc [_] rfl rfl rfl ze32 rfl ?_
  intro bal1 wal1 hbal1 hwal1
  have M := M.acons hbal1 hwal1
  refine ⟨trivial, ?_⟩
  refine x_assign rfl rfl rfl rfl ?_
  refine Ex.done (hK _ _ ?_)
  refine At.then_n ?_
  refine W.seq ?_
  refine W.seq ?_
  refine W.sub [(1, _), (2, _), (3, _), (6, _)] ⟨rfl, rfl, rfl, rfl, trivial⟩ ?_
  refine W.reg [(0, false), (1, false), (2, true), (3, false)] (by kernel_rfl) ?_
  intro K hK
  refine x_ldA [_] rfl rfl rfl Try.underlying32 rfl sz32 rfl rfl ⟨_, _, _, (by first | exact M.at_ 0 rfl | exact M.at_ 1 rfl | exact M.at_ 2 rfl | exact M.at_ 3 rfl | exact M.at_ 4 rfl | exact M.at_ 5 rfl | exact M.at_ 6 rfl | exact M.at_ 7 rfl), rfl⟩ ?_
  refine x_move rfl rfl rfl rfl ?_
  refine x_call rfl rfl rfl rfl rfl en71 (rhome_c (hFK.at_ M (fun y hy => by simp [hy])) (by omega)) ?_
  rintro r_ w1 ⟨rfl, hn1⟩
  have M := M.new hn1
  refine ⟨trivial, ?_⟩
  refine x_assign rfl rfl rfl rfl ?_
  refine Ex.done (hK _ _ ?_)
  refine At.then_n ?_
  refine W.seq ?_
  refine W.sub [(1, _), (2, _), (3, _), (6, _), (8, _)] ⟨rfl, rfl, rfl, rfl, rfl, trivial⟩ ?_
  refine W.reg [(0, false), (1, false)] (by kernel_rfl) ?_
  intro K hK
  refine x_move rfl rfl rfl rfl ?_
  refine x_nei _ rfl rfl rfl rfl rfl rfl ?_
  refine Ex.done (hK _ _ ?_)
  refine At.then_n ?_
  refine W.cond rfl (fun hco1 => ?_) (fun hco1 => ?_)
  · try simp only [decide_eq_true_eq, decide_eq_false_iff_not, Bool.not_eq_true', Bool.not_eq_false', beq_iff_eq, bne_iff_ne, ne_eq, Bool.not_eq_eq_eq_not, Bool.not_true, Bool.not_false, beq_eq_false_iff_ne, bne_eq_false_iff_eq, Bool.not_not, gt_iff_lt, ge_iff_le] at hco1
    refine W.seq ?_
    refine W.sub [(3, _), (6, _), (8, _)] ⟨rfl, rfl, rfl, trivial⟩ ?_
    refine W.reg [(0, false), (1, false), (2, true), (3, false)] (by kernel_rfl) ?_
    intro K hK
    refine x_ldA [_] rfl rfl rfl Try.underlying32 rfl sz32 rfl rfl ⟨_, _, _, (by first | exact M.at_ 0 rfl | exact M.at_ 1 rfl | exact M.at_ 2 rfl | exact M.at_ 3 rfl | exact M.at_ 4 rfl | exact M.at_ 5 rfl | exact M.at_ 6 rfl | exact M.at_ 7 rfl), rfl⟩ ?_
    refine x_move rfl rfl rfl rfl ?_
    refine x_st [_] _ rfl rfl rfl sz32 rfl rfl rfl rfl (by first | exact M.at_ 0 rfl | exact M.at_ 1 rfl | exact M.at_ 2 rfl | exact M.at_ 3 rfl | exact M.at_ 4 rfl | exact M.at_ 5 rfl | exact M.at_ 6 rfl | exact M.at_ 7 rfl) rfl rfl rfl ?_
    intro wst1 hwst1
    have M := by first | exact M.put 0 rfl hwst1 | exact M.put 1 rfl hwst1 | exact M.put 2 rfl hwst1 | exact M.put 3 rfl hwst1 | exact M.put 4 rfl hwst1 | exact M.put 5 rfl hwst1 | exact M.put 6 rfl hwst1 | exact M.put 7 rfl hwst1
    refine ⟨trivial, ?_⟩
    refine x_assign rfl rfl rfl rfl ?_
    refine Ex.done (hK _ _ ?_)
    refine At.then_n ?_
    refine W.ret ?_
    refine At.then_r ?_
    refine At.ret2 (.cell 6 32) (.tmp 7) rfl ⟨⟨_, rfl, run_loadVarA (l := [_]) Try.underlying32 rfl sz32 ⟨_, _, _, (by first | exact M.at_ 0 rfl | exact M.at_ 1 rfl | exact M.at_ 2 rfl | exact M.at_ 3 rfl | exact M.at_ 4 rfl | exact M.at_ 5 rfl | exact M.at_ 6 rfl | exact M.at_ 7 rfl), rfl⟩ (Nat.zero_lt_succ _)⟩, rfl, trivial⟩ ?_
    have hR : putL l p b = (l, homeL l p 16) := by unfold putL; rw [if_neg hco1]
    rw [hR]; exact ⟨_, [], rfl, hFK.mono (fun y hy => by simp [hy]), by simpa using (St.dropL (L' := [_, _]) M : Sep w00 (L ++ X) _)⟩
  · try simp only [decide_eq_true_eq, decide_eq_false_iff_not, Bool.not_eq_true', Bool.not_eq_false', beq_iff_eq, bne_iff_ne, ne_eq, Bool.not_eq_eq_eq_not, Bool.not_true, Bool.not_false, beq_eq_false_iff_ne, bne_eq_false_iff_eq, Bool.not_not, gt_iff_lt, ge_iff_le] at hco1
    refine W.skip ?_
    refine At.then_n ?_
    refine W.seq ?_
    refine W.sub [(1, _), (2, _), (3, _), (6, _)] ⟨rfl, rfl, rfl, rfl, trivial⟩ ?_
    refine W.reg [(0, false), (1, false), (2, true), (3, false)] (by kernel_rfl) ?_
    intro K hK
    refine x_ldA [_] rfl rfl rfl Try.underlying32 rfl sz32 rfl rfl ⟨_, _, _, (by first | exact M.at_ 0 rfl | exact M.at_ 1 rfl | exact M.at_ 2 rfl | exact M.at_ 3 rfl | exact M.at_ 4 rfl | exact M.at_ 5 rfl | exact M.at_ 6 rfl | exact M.at_ 7 rfl), rfl⟩ ?_
    refine x_move rfl rfl rfl rfl ?_
    refine x_call rfl rfl rfl rfl rfl en34 (at_c (hFK.at_ M (fun y hy => by simp [hy])) (by omega)) ?_
    rintro r_ w2 ⟨rfl, hn2⟩
    have M := M.new hn2
    have hac := atR_cases l p
    refine ⟨trivial, ?_⟩
    refine x_assign rfl rfl rfl rfl ?_
    refine Ex.done (hK _ _ ?_)
    refine At.then_n ?_
    refine W.seq ?_
    refine W.seq ?_
    refine W.sub [(1, _), (2, _), (3, _), (6, _), (9, _)] ⟨rfl, rfl, rfl, rfl, rfl, trivial⟩ ?_
    refine W.reg [(0, false), (1, false), (2, false), (3, false), (4, false), (5, false), (6, false), (7, false), (8, false), (9, false)] (by kernel_rfl) ?_
    intro K hK
    refine x_move rfl rfl rfl rfl ?_
    refine x_geq _ rfl rfl rfl rfl rfl rfl ?_
    refine x_move rfl rfl rfl rfl ?_
    refine Ex.split 22 rfl (fun hsp1 => ?_) (fun hsp1 => ?_)
    ·
      try simp only [decide_eq_true_eq, decide_eq_false_iff_not, Bool.not_eq_true', Bool.not_eq_false', beq_iff_eq, bne_iff_ne, ne_eq, Bool.not_eq_eq_eq_not, Bool.not_true, Bool.not_false, beq_eq_false_iff_ne, bne_eq_false_iff_eq, Bool.not_not, gt_iff_lt, ge_iff_le] at hsp1
      obtain ⟨i, x, hx, hxp, hat, hno⟩ := hac.resolve_right (fun h => by have := h.2; omega)
      have hfa := hFK.at_ M (fun y hy => by simp [hy])
      have hil := (List.getElem?_eq_some_iff.1 hx).1
      obtain ⟨bb, off, rfl, _⟩ := hfa.blk (j := i) hil
      obtain ⟨px, cx, hrow, _⟩ := hfa.row hx
      have hfd := at_find hx hxp hno
      rw [hat]
      refine x_fa rfl rfl rfl fo32_0 rfl ?_
      refine x_ld rfl rfl rfl Try.underlying22 rfl rfl (cell_of (by first | exact M.at_ 0 rfl | exact M.at_ 1 rfl | exact M.at_ 2 rfl | exact M.at_ 3 rfl | exact M.at_ 4 rfl | exact M.at_ 5 rfl | exact M.at_ 6 rfl | exact M.at_ 7 rfl) rfl) ?_
      refine x_move rfl rfl rfl rfl ?_
      refine x_ia i rfl rfl rfl Try.underlying22 sz25 rfl rfl rfl (by omega) ?_
      refine x_fa rfl rfl rfl fo25_1 rfl ?_
      refine x_ld rfl rfl rfl Try.underlying4 rfl rfl (RowAt.cell hrow (j := 1) rfl) ?_
      refine x_pickT rfl rfl rfl rfl rfl ?_
      refine Ex.done (hK _ _ ?_)
      refine At.then_n ?_
      refine W.cond rfl (fun hco2 => ?_) (fun hco2 => ?_)
      · try simp only [decide_eq_true_eq, decide_eq_false_iff_not, Bool.not_eq_true', Bool.not_eq_false', beq_iff_eq, bne_iff_ne, ne_eq, Bool.not_eq_eq_eq_not, Bool.not_true, Bool.not_false, beq_eq_false_iff_ne, bne_eq_false_iff_eq, Bool.not_not, gt_iff_lt, ge_iff_le] at hco2
        refine W.seq ?_
        refine W.sub [(3, _), (6, _)] ⟨rfl, rfl, trivial⟩ ?_
        refine W.reg [(0, false), (1, true), (2, false)] (by kernel_rfl) ?_
        intro K hK
        refine x_ldA [_] rfl rfl rfl Try.underlying32 rfl sz32 rfl rfl ⟨_, _, _, (by first | exact M.at_ 0 rfl | exact M.at_ 1 rfl | exact M.at_ 2 rfl | exact M.at_ 3 rfl | exact M.at_ 4 rfl | exact M.at_ 5 rfl | exact M.at_ 6 rfl | exact M.at_ 7 rfl), rfl⟩ ?_
        refine x_st [_] _ rfl rfl rfl sz32 rfl rfl rfl rfl (by first | exact M.at_ 0 rfl | exact M.at_ 1 rfl | exact M.at_ 2 rfl | exact M.at_ 3 rfl | exact M.at_ 4 rfl | exact M.at_ 5 rfl | exact M.at_ 6 rfl | exact M.at_ 7 rfl) rfl rfl rfl ?_
        intro wst2 hwst2
        have M := by first | exact M.put 0 rfl hwst2 | exact M.put 1 rfl hwst2 | exact M.put 2 rfl hwst2 | exact M.put 3 rfl hwst2 | exact M.put 4 rfl hwst2 | exact M.put 5 rfl hwst2 | exact M.put 6 rfl hwst2 | exact M.put 7 rfl hwst2
        refine ⟨trivial, ?_⟩
        refine x_assign rfl rfl rfl rfl ?_
        refine Ex.done (hK _ _ ?_)
        refine At.then_n ?_
        refine W.ret ?_
        refine At.then_r ?_
        refine At.ret2 (.cell 6 32) (.tmp 7) rfl ⟨⟨_, rfl, run_loadVarA (l := [_]) Try.underlying32 rfl sz32 ⟨_, _, _, (by first | exact M.at_ 0 rfl | exact M.at_ 1 rfl | exact M.at_ 2 rfl | exact M.at_ 3 rfl | exact M.at_ 4 rfl | exact M.at_ 5 rfl | exact M.at_ 6 rfl | exact M.at_ 7 rfl), rfl⟩ (Nat.zero_lt_succ _)⟩, rfl, trivial⟩ ?_
        have hR : putL l p b = (l, 16) := by unfold putL; rw [if_pos hco1, hfd]; simp only [if_pos hco2]
        rw [hR]; exact ⟨_, [], rfl, hFK.mono (fun y hy => by simp [hy]), by simpa using (St.dropL (L' := [_, _]) M : Sep w00 (L ++ X) _)⟩
      · try simp only [decide_eq_true_eq, decide_eq_false_iff_not, Bool.not_eq_true', Bool.not_eq_false', beq_iff_eq, bne_iff_ne, ne_eq, Bool.not_eq_eq_eq_not, Bool.not_true, Bool.not_false, beq_eq_false_iff_ne, bne_eq_false_iff_eq, Bool.not_not, gt_iff_lt, ge_iff_le] at hco2
        refine W.skip ?_
        refine At.then_n ?_
        refine W.seq ?_
        refine W.seq ?_
        refine W.sub [(1, _), (2, _), (3, _), (6, _), (9, _)] ⟨rfl, rfl, rfl, rfl, rfl, trivial⟩ ?_
        refine W.reg [(0, false), (1, false), (2, false)] (by kernel_rfl) ?_
        intro K hK
        refine x_move rfl rfl rfl rfl ?_
        refine x_len rfl rfl rfl rfl Try.underlying23 rfl ?_
        refine x_gtr _ rfl rfl rfl rfl rfl rfl ?_
        refine Ex.done (hK _ _ ?_)
        refine At.then_n ?_
        refine W.cond rfl (fun hco3 => ?_) (fun hco3 => ?_)
        · try simp only [decide_eq_true_eq, decide_eq_false_iff_not, Bool.not_eq_true', Bool.not_eq_false', beq_iff_eq, bne_iff_ne, ne_eq, Bool.not_eq_eq_eq_not, Bool.not_true, Bool.not_false, beq_eq_false_iff_ne, bne_eq_false_iff_eq, Bool.not_not, gt_iff_lt, ge_iff_le] at hco3
          refine W.seq ?_
          refine W.sub [(3, _), (6, _)] ⟨rfl, rfl, trivial⟩ ?_
          refine W.reg [(0, false), (1, true), (2, false)] (by kernel_rfl) ?_
          intro K hK
          refine x_ldA [_] rfl rfl rfl Try.underlying32 rfl sz32 rfl rfl ⟨_, _, _, (by first | exact M.at_ 0 rfl | exact M.at_ 1 rfl | exact M.at_ 2 rfl | exact M.at_ 3 rfl | exact M.at_ 4 rfl | exact M.at_ 5 rfl | exact M.at_ 6 rfl | exact M.at_ 7 rfl), rfl⟩ ?_
          refine x_st [_] _ rfl rfl rfl sz32 rfl rfl rfl rfl (by first | exact M.at_ 0 rfl | exact M.at_ 1 rfl | exact M.at_ 2 rfl | exact M.at_ 3 rfl | exact M.at_ 4 rfl | exact M.at_ 5 rfl | exact M.at_ 6 rfl | exact M.at_ 7 rfl) rfl rfl rfl ?_
          intro wst3 hwst3
          have M := by first | exact M.put 0 rfl hwst3 | exact M.put 1 rfl hwst3 | exact M.put 2 rfl hwst3 | exact M.put 3 rfl hwst3 | exact M.put 4 rfl hwst3 | exact M.put 5 rfl hwst3 | exact M.put 6 rfl hwst3 | exact M.put 7 rfl hwst3
          refine ⟨trivial, ?_⟩
          refine x_assign rfl rfl rfl rfl ?_
          refine Ex.done (hK _ _ ?_)
          refine At.then_n ?_
          refine W.ret ?_
          refine At.then_r ?_
          refine At.ret2 (.cell 6 32) (.tmp 7) rfl ⟨⟨_, rfl, run_loadVarA (l := [_]) Try.underlying32 rfl sz32 ⟨_, _, _, (by first | exact M.at_ 0 rfl | exact M.at_ 1 rfl | exact M.at_ 2 rfl | exact M.at_ 3 rfl | exact M.at_ 4 rfl | exact M.at_ 5 rfl | exact M.at_ 6 rfl | exact M.at_ 7 rfl), rfl⟩ (Nat.zero_lt_succ _)⟩, rfl, trivial⟩ ?_
          have hR : putL l p b = (l, 3) := by unfold putL; rw [if_pos hco1, hfd]; simp only [hco2, Bool.false_eq_true, if_false]; rw [if_pos (by omega)]
          rw [hR]; exact ⟨_, [], rfl, hFK.mono (fun y hy => by simp [hy]), by simpa using (St.dropL (L' := [_, _]) M : Sep w00 (L ++ X) _)⟩
        · try simp only [decide_eq_true_eq, decide_eq_false_iff_not, Bool.not_eq_true', Bool.not_eq_false', beq_iff_eq, bne_iff_ne, ne_eq, Bool.not_eq_eq_eq_not, Bool.not_true, Bool.not_false, beq_eq_false_iff_ne, bne_eq_false_iff_eq, Bool.not_not, gt_iff_lt, ge_iff_le] at hco3
          refine W.skip ?_
          refine At.then_n ?_
          refine W.seq ?_
          refine W.seq ?_
          refine W.sub [(1, _), (2, _), (3, _), (6, _), (9, _)] ⟨rfl, rfl, rfl, rfl, rfl, trivial⟩ ?_
          refine W.reg [(0, false), (1, false), (2, false), (3, false), (4, false), (5, false), (6, false), (7, false)] (by kernel_rfl) ?_
          intro K hK
          refine x_move rfl rfl rfl rfl ?_
          refine x_lss false rfl rfl rfl rfl rfl (decide_eq_false (by omega)) ?_
          refine x_move rfl rfl rfl rfl ?_
          refine Ex.skip_ rfl rfl rfl ?_
          refine Ex.skip_ rfl rfl rfl ?_
          refine Ex.skip_ rfl rfl rfl ?_
          refine Ex.skip_ rfl rfl rfl ?_
          refine x_pickF rfl rfl rfl rfl rfl ?_
          refine Ex.done (hK _ _ ?_)
          refine At.then_n ?_
          refine W.condF rfl ?_
          refine W.skip ?_
          refine At.then_n ?_
          refine W.seq ?_
          refine W.seq ?_
          refine W.sub [(1, _), (2, _), (3, _), (6, _), (9, _)] ⟨rfl, rfl, rfl, rfl, rfl, trivial⟩ ?_
          refine W.reg [(0, false), (1, false)] (by kernel_rfl) ?_
          intro K hK
          refine x_move rfl rfl rfl rfl ?_
          refine x_geq true rfl rfl rfl rfl rfl (decide_eq_true (by omega)) ?_
          refine Ex.done (hK _ _ ?_)
          refine At.then_n ?_
          refine W.condT rfl ?_
          refine W.sub [(1, _), (2, _), (3, _), (6, _), (9, _)] ⟨rfl, rfl, rfl, rfl, rfl, trivial⟩ ?_
          refine W.reg [(0, false), (1, false), (2, true), (3, true)] (by kernel_rfl) ?_
          intro K hK
          refine x_ldA [_] rfl rfl rfl Try.underlying32 rfl sz32 rfl rfl ⟨_, _, _, (by first | exact M.at_ 0 rfl | exact M.at_ 1 rfl | exact M.at_ 2 rfl | exact M.at_ 3 rfl | exact M.at_ 4 rfl | exact M.at_ 5 rfl | exact M.at_ 6 rfl | exact M.at_ 7 rfl), rfl⟩ ?_
          refine x_move rfl rfl rfl rfl ?_
          refine x_call rfl rfl rfl rfl rfl en72 (without_c (St.inn2 (F := [_, _]) M) hFK (by omega) hil) ?_
          rintro r_ w3 ⟨u, L', rfl, hu, M⟩
          have M := M.out2 [_, _]
          obtain ⟨pu, cu, rfl⟩ := (hu.at_ M (fun y hy => by rcases List.mem_append.1 hy with hy | hy <;> simp [hy])).shape
          refine ⟨trivial, ?_⟩
          refine x_st [_] _ rfl rfl rfl sz32 rfl rfl rfl rfl (by first | exact M.at_ 0 rfl | exact M.at_ 1 rfl | exact M.at_ 2 rfl | exact M.at_ 3 rfl | exact M.at_ 4 rfl | exact M.at_ 5 rfl | exact M.at_ 6 rfl | exact M.at_ 7 rfl) rfl rfl rfl ?_
          intro wst4 hwst4
          have M := by first | exact M.put 0 rfl hwst4 | exact M.put 1 rfl hwst4 | exact M.put 2 rfl hwst4 | exact M.put 3 rfl hwst4 | exact M.put 4 rfl hwst4 | exact M.put 5 rfl hwst4 | exact M.put 6 rfl hwst4 | exact M.put 7 rfl hwst4
          refine ⟨trivial, ?_⟩
          refine Ex.done (hK _ _ ?_)
          refine At.then_n ?_
          refine W.seq ?_
          refine W.sub [(1, _), (2, _), (3, _), (6, _)] ⟨rfl, rfl, rfl, rfl, trivial⟩ ?_
          refine W.regD (by kernel_rfl) #[0, 0, 0, 0, 12, 30, 63, 127, 255] [(0, false), (1, false), (3, false), (2, true), (4, true), (5, false), (6, true), (7, true), (8, false)] (by kernel_rfl) ?_
          intro K wD1 hK hwD1
          have M := M.drew hwD1
          refine x_ldA [_] rfl rfl rfl Try.underlying32 rfl sz32 rfl rfl ⟨_, _, _, (by first | exact M.at_ 0 rfl | exact M.at_ 1 rfl | exact M.at_ 2 rfl | exact M.at_ 3 rfl | exact M.at_ 4 rfl | exact M.at_ 5 rfl | exact M.at_ 6 rfl | exact M.at_ 7 rfl), rfl⟩ ?_
          refine x_move rfl rfl rfl rfl ?_
          refine x_move rfl rfl rfl rfl ?_
          refine x_bs0 rfl rfl rfl Try.underlying23 sz5 ?_
          intro bq wb hbq hwb
          have M := M.acons hbq hwb
          refine ⟨⟨.inr ⟨_, _, _, (by first | exact M.at_ 0 rfl | exact M.at_ 1 rfl | exact M.at_ 2 rfl | exact M.at_ 3 rfl | exact M.at_ 4 rfl | exact M.at_ 5 rfl | exact M.at_ 6 rfl | exact M.at_ 7 rfl), rfl⟩, trivial⟩, ?_⟩
          refine x_apL (L := [_]) (cs := []) (nn := 0) rfl rfl rfl rfl Try.underlying23 sz5 ze5 rfl by5 rfl rfl (.inr ⟨bq, 0, [], _, rfl, rfl, rfl, rfl⟩) M (by simp) ((hb _ _ M (fun y hy => by simp [hy])).src Try.underlying23 (byteCs_one _)) (by omega) (by decide) (by omega) ?_
          intro Lo v6 w6 how M
          rw [Nat.zero_add, List.nil_append] at how
          have M := M.perm List.perm_append_comm
          obtain ⟨p6, c6, rfl⟩ := how.shape
          refine ⟨⟨.inr ⟨_, _, _, (by first | exact M.at_ 0 rfl | exact M.at_ 1 rfl | exact M.at_ 2 rfl | exact M.at_ 3 rfl | exact M.at_ 4 rfl | exact M.at_ 5 rfl | exact M.at_ 6 rfl | exact M.at_ 7 rfl), rfl⟩, trivial⟩, ?_⟩
          refine x_build [_, _, _] rfl rfl rfl pl25 ze25 rfl rfl rfl ?_
          refine x_call rfl rfl rfl rfl rfl en35 (with_c (x := (p, false, b)) (St.mix (F := [_, _]) M) (hu.mono (fun y hy => by rcases List.mem_append.1 hy with hy | hy <;> simp [hy])) (SgK.own how (by decide) (fun y hy => by simp [hy])) (by rw [List.length_eraseIdx]; split <;> omega) (fun y hy => hnm y (List.mem_of_mem_eraseIdx hy)) hp) ?_
          rintro r_ w4 ⟨u2, L2, rfl, hu2, M⟩
          have M := M.out2 [_, _]
          obtain ⟨pu2, cu2, rfl⟩ := (hu2.at_ M (fun y hy => List.mem_append_right _ (List.mem_append_left _ hy))).shape
          refine ⟨⟨.inl (by kernel_rfl), trivial⟩, ?_⟩
          refine x_st [_] _ rfl rfl rfl sz32 rfl rfl rfl rfl (by first | exact M.at_ 0 rfl | exact M.at_ 1 rfl | exact M.at_ 2 rfl | exact M.at_ 3 rfl | exact M.at_ 4 rfl | exact M.at_ 5 rfl | exact M.at_ 6 rfl | exact M.at_ 7 rfl) rfl rfl rfl ?_
          intro wst5 hwst5
          have M := by first | exact M.put 0 rfl hwst5 | exact M.put 1 rfl hwst5 | exact M.put 2 rfl hwst5 | exact M.put 3 rfl hwst5 | exact M.put 4 rfl hwst5 | exact M.put 5 rfl hwst5 | exact M.put 6 rfl hwst5 | exact M.put 7 rfl hwst5
          refine ⟨⟨.inl (by kernel_rfl), trivial⟩, ?_⟩
          refine x_assign rfl rfl rfl rfl ?_
          refine Ex.done (hK _ _ ?_)
          refine At.then_n ?_
          refine W.ret ?_
          refine At.ret2 (.cell 6 32) (.tmp 7) rfl ⟨⟨_, rfl, run_loadVarA (l := [_]) Try.underlying32 rfl sz32 ⟨_, _, _, (by first | exact M.at_ 0 rfl | exact M.at_ 1 rfl | exact M.at_ 2 rfl | exact M.at_ 3 rfl | exact M.at_ 4 rfl | exact M.at_ 5 rfl | exact M.at_ 6 rfl | exact M.at_ 7 rfl), rfl⟩ (Nat.zero_lt_succ _)⟩, rfl, trivial⟩ ?_
          have hR : putL l p b = (withR (l.eraseIdx i) (p, false, b), 0) := by unfold putL; rw [if_pos hco1, hfd]; simp only [hco2, Bool.false_eq_true, if_false]; rw [if_neg (by omega), hat]; rfl
          rw [hR]; exact ⟨_, (L' ++ Lo) ++ L2, rfl, by simpa only [List.append_assoc] using hu2, by simpa only [List.append_assoc] using St.dropL (L' := [_, _]) M⟩
    ·
      try simp only [decide_eq_true_eq, decide_eq_false_iff_not, Bool.not_eq_true', Bool.not_eq_false', beq_iff_eq, bne_iff_ne, ne_eq, Bool.not_eq_eq_eq_not, Bool.not_true, Bool.not_false, beq_eq_false_iff_ne, bne_eq_false_iff_eq, Bool.not_not, gt_iff_lt, ge_iff_le] at hsp1
      have hnone := (hac.resolve_left (fun ⟨i, x, _, _, h, _⟩ => by omega)).1
      have hfd := at_find0 hnone
      refine Ex.skip_ rfl rfl rfl ?_
      refine Ex.skip_ rfl rfl rfl ?_
      refine Ex.skip_ rfl rfl rfl ?_
      refine Ex.skip_ rfl rfl rfl ?_
      refine Ex.skip_ rfl rfl rfl ?_
      refine Ex.skip_ rfl rfl rfl ?_
      refine x_pickF rfl rfl rfl rfl rfl ?_
      refine Ex.done (hK _ _ ?_)
      refine At.then_n ?_
      refine W.condF rfl ?_
      refine W.skip ?_
      refine At.then_n ?_
      refine W.seq ?_
      refine W.seq ?_
      refine W.sub [(1, _), (2, _), (3, _), (6, _), (9, _)] ⟨rfl, rfl, rfl, rfl, rfl, trivial⟩ ?_
      refine W.reg [(0, false), (1, false), (2, false)] (by kernel_rfl) ?_
      intro K hK
      refine x_move rfl rfl rfl rfl ?_
      refine x_len rfl rfl rfl rfl Try.underlying23 rfl ?_
      refine x_gtr _ rfl rfl rfl rfl rfl rfl ?_
      refine Ex.done (hK _ _ ?_)
      refine At.then_n ?_
      refine W.cond rfl (fun hco7 => ?_) (fun hco7 => ?_)
      · try simp only [decide_eq_true_eq, decide_eq_false_iff_not, Bool.not_eq_true', Bool.not_eq_false', beq_iff_eq, bne_iff_ne, ne_eq, Bool.not_eq_eq_eq_not, Bool.not_true, Bool.not_false, beq_eq_false_iff_ne, bne_eq_false_iff_eq, Bool.not_not, gt_iff_lt, ge_iff_le] at hco7
        refine W.seq ?_
        refine W.sub [(3, _), (6, _)] ⟨rfl, rfl, trivial⟩ ?_
        refine W.reg [(0, false), (1, true), (2, false)] (by kernel_rfl) ?_
        intro K hK
        refine x_ldA [_] rfl rfl rfl Try.underlying32 rfl sz32 rfl rfl ⟨_, _, _, (by first | exact M.at_ 0 rfl | exact M.at_ 1 rfl | exact M.at_ 2 rfl | exact M.at_ 3 rfl | exact M.at_ 4 rfl | exact M.at_ 5 rfl | exact M.at_ 6 rfl | exact M.at_ 7 rfl), rfl⟩ ?_
        refine x_st [_] _ rfl rfl rfl sz32 rfl rfl rfl rfl (by first | exact M.at_ 0 rfl | exact M.at_ 1 rfl | exact M.at_ 2 rfl | exact M.at_ 3 rfl | exact M.at_ 4 rfl | exact M.at_ 5 rfl | exact M.at_ 6 rfl | exact M.at_ 7 rfl) rfl rfl rfl ?_
        intro wst6 hwst6
        have M := by first | exact M.put 0 rfl hwst6 | exact M.put 1 rfl hwst6 | exact M.put 2 rfl hwst6 | exact M.put 3 rfl hwst6 | exact M.put 4 rfl hwst6 | exact M.put 5 rfl hwst6 | exact M.put 6 rfl hwst6 | exact M.put 7 rfl hwst6
        refine ⟨trivial, ?_⟩
        refine x_assign rfl rfl rfl rfl ?_
        refine Ex.done (hK _ _ ?_)
        refine At.then_n ?_
        refine W.ret ?_
        refine At.then_r ?_
        refine At.ret2 (.cell 6 32) (.tmp 7) rfl ⟨⟨_, rfl, run_loadVarA (l := [_]) Try.underlying32 rfl sz32 ⟨_, _, _, (by first | exact M.at_ 0 rfl | exact M.at_ 1 rfl | exact M.at_ 2 rfl | exact M.at_ 3 rfl | exact M.at_ 4 rfl | exact M.at_ 5 rfl | exact M.at_ 6 rfl | exact M.at_ 7 rfl), rfl⟩ (Nat.zero_lt_succ _)⟩, rfl, trivial⟩ ?_
        have hR : putL l p b = (l, 3) := by unfold putL; rw [if_pos hco1, hfd]; simp only []; rw [if_pos (by omega)]
        rw [hR]; exact ⟨_, [], rfl, hFK.mono (fun y hy => by simp [hy]), by simpa using (St.dropL (L' := [_, _]) M : Sep w00 (L ++ X) _)⟩
      · try simp only [decide_eq_true_eq, decide_eq_false_iff_not, Bool.not_eq_true', Bool.not_eq_false', beq_iff_eq, bne_iff_ne, ne_eq, Bool.not_eq_eq_eq_not, Bool.not_true, Bool.not_false, beq_eq_false_iff_ne, bne_eq_false_iff_eq, Bool.not_not, gt_iff_lt, ge_iff_le] at hco7
        refine W.skip ?_
        refine At.then_n ?_
        refine W.seq ?_
        refine W.seq ?_
        refine W.sub [(1, _), (2, _), (3, _), (6, _), (9, _)] ⟨rfl, rfl, rfl, rfl, rfl, trivial⟩ ?_
        refine W.reg [(0, false), (1, false), (2, false), (3, false), (4, false), (5, false), (6, false), (7, false)] (by kernel_rfl) ?_
        intro K hK
        refine x_move rfl rfl rfl rfl ?_
        refine x_lss true rfl rfl rfl rfl rfl (decide_eq_true (by omega)) ?_
        refine x_move rfl rfl rfl rfl ?_
        refine x_fa rfl rfl rfl fo32_0 rfl ?_
        refine x_ld rfl rfl rfl Try.underlying22 rfl rfl (cell_of (by first | exact M.at_ 0 rfl | exact M.at_ 1 rfl | exact M.at_ 2 rfl | exact M.at_ 3 rfl | exact M.at_ 4 rfl | exact M.at_ 5 rfl | exact M.at_ 6 rfl | exact M.at_ 7 rfl) rfl) ?_
        refine x_len rfl rfl rfl rfl Try.underlying22 rfl ?_
        refine x_geq _ rfl rfl rfl rfl rfl rfl ?_
        refine x_pickT rfl rfl rfl rfl rfl ?_
        refine Ex.done (hK _ _ ?_)
        refine At.then_n ?_
        refine W.cond rfl (fun hco8 => ?_) (fun hco8 => ?_)
        · try simp only [decide_eq_true_eq, decide_eq_false_iff_not, Bool.not_eq_true', Bool.not_eq_false', beq_iff_eq, bne_iff_ne, ne_eq, Bool.not_eq_eq_eq_not, Bool.not_true, Bool.not_false, beq_eq_false_iff_ne, bne_eq_false_iff_eq, Bool.not_not, gt_iff_lt, ge_iff_le] at hco8
          refine W.seq ?_
          refine W.sub [(3, _), (6, _)] ⟨rfl, rfl, trivial⟩ ?_
          refine W.reg [(0, false), (1, true), (2, false)] (by kernel_rfl) ?_
          intro K hK
          refine x_ldA [_] rfl rfl rfl Try.underlying32 rfl sz32 rfl rfl ⟨_, _, _, (by first | exact M.at_ 0 rfl | exact M.at_ 1 rfl | exact M.at_ 2 rfl | exact M.at_ 3 rfl | exact M.at_ 4 rfl | exact M.at_ 5 rfl | exact M.at_ 6 rfl | exact M.at_ 7 rfl), rfl⟩ ?_
          refine x_st [_] _ rfl rfl rfl sz32 rfl rfl rfl rfl (by first | exact M.at_ 0 rfl | exact M.at_ 1 rfl | exact M.at_ 2 rfl | exact M.at_ 3 rfl | exact M.at_ 4 rfl | exact M.at_ 5 rfl | exact M.at_ 6 rfl | exact M.at_ 7 rfl) rfl rfl rfl ?_
          intro wst7 hwst7
          have M := by first | exact M.put 0 rfl hwst7 | exact M.put 1 rfl hwst7 | exact M.put 2 rfl hwst7 | exact M.put 3 rfl hwst7 | exact M.put 4 rfl hwst7 | exact M.put 5 rfl hwst7 | exact M.put 6 rfl hwst7 | exact M.put 7 rfl hwst7
          refine ⟨trivial, ?_⟩
          refine x_assign rfl rfl rfl rfl ?_
          refine Ex.done (hK _ _ ?_)
          refine At.then_n ?_
          refine W.ret ?_
          refine At.then_r ?_
          refine At.ret2 (.cell 6 32) (.tmp 7) rfl ⟨⟨_, rfl, run_loadVarA (l := [_]) Try.underlying32 rfl sz32 ⟨_, _, _, (by first | exact M.at_ 0 rfl | exact M.at_ 1 rfl | exact M.at_ 2 rfl | exact M.at_ 3 rfl | exact M.at_ 4 rfl | exact M.at_ 5 rfl | exact M.at_ 6 rfl | exact M.at_ 7 rfl), rfl⟩ (Nat.zero_lt_succ _)⟩, rfl, trivial⟩ ?_
          have hR : putL l p b = (l, 7) := by unfold putL; rw [if_pos hco1, hfd]; simp only []; rw [if_neg (by omega), if_pos (by omega)]
          rw [hR]; exact ⟨_, [], rfl, hFK.mono (fun y hy => by simp [hy]), by simpa using (St.dropL (L' := [_, _]) M : Sep w00 (L ++ X) _)⟩
        · try simp only [decide_eq_true_eq, decide_eq_false_iff_not, Bool.not_eq_true', Bool.not_eq_false', beq_iff_eq, bne_iff_ne, ne_eq, Bool.not_eq_eq_eq_not, Bool.not_true, Bool.not_false, beq_eq_false_iff_ne, bne_eq_false_iff_eq, Bool.not_not, gt_iff_lt, ge_iff_le] at hco8
          refine W.skip ?_
          refine At.then_n ?_
          refine W.seq ?_
          refine W.seq ?_
          refine W.sub [(1, _), (2, _), (3, _), (6, _), (9, _)] ⟨rfl, rfl, rfl, rfl, rfl, trivial⟩ ?_
          refine W.reg [(0, false), (1, false)] (by kernel_rfl) ?_
          intro K hK
          refine x_move rfl rfl rfl rfl ?_
          refine x_geq false rfl rfl rfl rfl rfl (decide_eq_false (by omega)) ?_
          refine Ex.done (hK _ _ ?_)
          refine At.then_n ?_
          refine W.condF rfl ?_
          refine W.skip ?_
          refine At.then_n ?_
          refine W.seq ?_
          refine W.sub [(1, _), (2, _), (3, _), (6, _)] ⟨rfl, rfl, rfl, rfl, trivial⟩ ?_
          refine W.regD (by kernel_rfl) #[0, 0, 0, 0, 12, 30, 63, 127, 255] [(0, false), (1, false), (3, false), (2, true), (4, true), (5, false), (6, true), (7, true), (8, false)] (by kernel_rfl) ?_
          intro K wD2 hK hwD2
          have M := M.drew hwD2
          refine x_ldA [_] rfl rfl rfl Try.underlying32 rfl sz32 rfl rfl ⟨_, _, _, (by first | exact M.at_ 0 rfl | exact M.at_ 1 rfl | exact M.at_ 2 rfl | exact M.at_ 3 rfl | exact M.at_ 4 rfl | exact M.at_ 5 rfl | exact M.at_ 6 rfl | exact M.at_ 7 rfl), rfl⟩ ?_
          refine x_move rfl rfl rfl rfl ?_
          refine x_move rfl rfl rfl rfl ?_
          refine x_bs0 rfl rfl rfl Try.underlying23 sz5 ?_
          intro bb wb hbb hwb
          have M := M.acons hbb hwb
          refine ⟨⟨.inr ⟨_, _, _, (by first | exact M.at_ 0 rfl | exact M.at_ 1 rfl | exact M.at_ 2 rfl | exact M.at_ 3 rfl | exact M.at_ 4 rfl | exact M.at_ 5 rfl | exact M.at_ 6 rfl | exact M.at_ 7 rfl), rfl⟩, trivial⟩, ?_⟩
          refine x_apL (L := [_]) (cs := []) (nn := 0) rfl rfl rfl rfl Try.underlying23 sz5 ze5 rfl by5 rfl rfl (.inr ⟨bb, 0, [], _, rfl, rfl, rfl, rfl⟩) M (by simp) ((hb _ _ M (fun y hy => by simp [hy])).src Try.underlying23 (byteCs_one _)) (by omega) (by decide) (by omega) ?_
          intro Lo v6 w6 how M
          rw [Nat.zero_add, List.nil_append] at how
          have M := M.perm List.perm_append_comm
          obtain ⟨p6, c6, rfl⟩ := how.shape
          refine ⟨⟨.inr ⟨_, _, _, (by first | exact M.at_ 0 rfl | exact M.at_ 1 rfl | exact M.at_ 2 rfl | exact M.at_ 3 rfl | exact M.at_ 4 rfl | exact M.at_ 5 rfl | exact M.at_ 6 rfl | exact M.at_ 7 rfl), rfl⟩, trivial⟩, ?_⟩
          refine x_build [_, _, _] rfl rfl rfl pl25 ze25 rfl rfl rfl ?_
          refine x_call rfl rfl rfl rfl rfl en35 (with_c (x := (p, false, b)) (St.mix0 (F := [_, _]) M) (hFK.mono (fun y hy => by simp [hy])) (SgK.own how (by decide) (fun y hy => by simp [hy])) (by omega) hnm hp) ?_
          rintro r_ w5 ⟨u2, L2, rfl, hu2, M⟩
          have M := M.out2 [_, _]
          obtain ⟨pu2, cu2, rfl⟩ := (hu2.at_ M (fun y hy => List.mem_append_right _ (List.mem_append_left _ hy))).shape
          refine ⟨⟨.inl (by kernel_rfl), trivial⟩, ?_⟩
          refine x_st [_] _ rfl rfl rfl sz32 rfl rfl rfl rfl (by first | exact M.at_ 0 rfl | exact M.at_ 1 rfl | exact M.at_ 2 rfl | exact M.at_ 3 rfl | exact M.at_ 4 rfl | exact M.at_ 5 rfl | exact M.at_ 6 rfl | exact M.at_ 7 rfl) rfl rfl rfl ?_
          intro wst8 hwst8
          have M := by first | exact M.put 0 rfl hwst8 | exact M.put 1 rfl hwst8 | exact M.put 2 rfl hwst8 | exact M.put 3 rfl hwst8 | exact M.put 4 rfl hwst8 | exact M.put 5 rfl hwst8 | exact M.put 6 rfl hwst8 | exact M.put 7 rfl hwst8
          refine ⟨⟨.inl (by kernel_rfl), trivial⟩, ?_⟩
          refine x_assign rfl rfl rfl rfl ?_
          refine Ex.done (hK _ _ ?_)
          refine At.then_n ?_
          refine W.ret ?_
          refine At.ret2 (.cell 6 32) (.tmp 7) rfl ⟨⟨_, rfl, run_loadVarA (l := [_]) Try.underlying32 rfl sz32 ⟨_, _, _, (by first | exact M.at_ 0 rfl | exact M.at_ 1 rfl | exact M.at_ 2 rfl | exact M.at_ 3 rfl | exact M.at_ 4 rfl | exact M.at_ 5 rfl | exact M.at_ 6 rfl | exact M.at_ 7 rfl), rfl⟩ (Nat.zero_lt_succ _)⟩, rfl, trivial⟩ ?_
          have hR : putL l p b = (withR l (p, false, b), 0) := by unfold putL; rw [if_pos hco1, hfd]; simp only []; rw [if_neg (by omega), if_neg (by omega)]
          rw [hR]; exact ⟨_, Lo ++ L2, rfl, by simpa only [List.append_assoc] using hu2, by simpa only [List.append_assoc] using St.dropL (L' := [_, _]) M⟩
end Go.Proofs.Ytccfmfehfhfhhaa

namespace Go.Proofs.Ytccfmfehfhfhhaa
open Go Go.Fw Go.RowKit
set_option linter.unusedVariables false
set_option linter.unusedSimpArgs false

/-- A file, where it stands when x is moved to y. -/
def mvN (x y : List UInt8) (f : Raw) : Raw := if underP f.1 x = true then (y ++ f.1.drop x.length, f.2) else f
def movL (x y : List UInt8) (l : List Raw) : List Raw := l.foldl (fun a f => withR a (mvN x y f)) []
def badN (x y : List UInt8) (f : Raw) : Bool := underP f.1 x && decide (splitE (mvN x y f).1 ≠ 0)
def renameL (l : List Raw) (x y : List UInt8) : List Raw × Int :=
  if (findL l x).2 = 0 then (if x = [] then (l, 18) else if homeL l y 10 = 0 then (if x = y then (l, 0) else if underP y x = true then (l, 18) else if 0 ≤ atR l y then (l, 10) else if l.any (badN x y) = true then (l, 8) else (movL x y l, 0)) else (l, homeL l y 10)) else (l, (findL l x).2)
theorem withR_mem {l : List Raw} {x y : Raw} : y ∈ withR l x ↔ y = x ∨ y ∈ l := by
  unfold withR
  have e := List.takeWhile_append_dropWhile (p := fun y : Raw => decide (compareP y.1 x.1 < 0)) (l := l)
  rw [List.mem_append, List.mem_cons]
  constructor
  · rintro (h | h | h)
    · exact .inr (by rw [← e]; exact List.mem_append_left _ h)
    · exact .inl h
    · exact .inr (by rw [← e]; exact List.mem_append_right _ h)
  · rintro (h | h)
    · exact .inr (.inl h)
    · rw [← e] at h
      rcases List.mem_append.1 h with h | h
      · exact .inl h
      · exact .inr (.inr h)
theorem withR_len (l : List Raw) (x : Raw) : (withR l x).length = l.length + 1 := by
  unfold withR
  have e := congrArg List.length (List.takeWhile_append_dropWhile (p := fun y : Raw => decide (compareP y.1 x.1 < 0)) (l := l))
  simp only [List.length_append, List.length_cons] at e ⊢
  omega
theorem foldW_mem {g : Raw → Raw} : ∀ {l A : List Raw} {y : Raw}, y ∈ l.foldl (fun a f => withR a (g f)) A ↔ y ∈ A ∨ ∃ f ∈ l, y = g f
  | [], A, y => by simp
  | f :: l, A, y => by
    rw [List.foldl_cons, foldW_mem, withR_mem]
    constructor
    · rintro ((h | h) | ⟨z, h1, h2⟩)
      · exact .inr ⟨f, by simp, h⟩
      · exact .inl h
      · exact .inr ⟨z, by simp [h1], h2⟩
    · rintro (h | ⟨z, h1, h2⟩)
      · exact .inl (.inr h)
      · rcases List.mem_cons.1 h1 with rfl | h1
        · exact .inl (.inl h2)
        · exact .inr ⟨z, h1, h2⟩
theorem foldW_len {g : Raw → Raw} : ∀ (l A : List Raw), (l.foldl (fun a f => withR a (g f)) A).length = A.length + l.length
  | [], A => by simp
  | f :: l, A => by rw [List.foldl_cons, foldW_len, withR_len]; simp; omega
theorem mvN_len {x y : List UInt8} {f : Raw} (hf : f.1.length ≤ 1000) (hy : y.length ≤ 1000) : (mvN x y f).1.length ≤ 2000 := by
  unfold mvN
  split
  · simp; omega
  · omega
theorem movL_step {x y : List UInt8} {l : List Raw} {j : Nat} {f : Raw} (hf : l[j]? = some f) : movL x y (l.take (j + 1)) = withR (movL x y (l.take j)) (mvN x y f) := by
  unfold movL
  rw [take_mem hf, List.foldl_append]; rfl
/-- A file of a row that stays. -/
theorem FilesK.get {w00 w : World} {L M : List (Nat × Obj)} {l : List Raw} {b off n cap j : Nat} {x : Raw} (h : FilesK w00 L (.slice (some ⟨b, off, none⟩) n cap) l) (hx : l[j]? = some x) (hM : Sep w00 M w) (hs : ∀ y ∈ L, y ∈ M) :
    ∃ p c, SgK w00 L (.slice p x.2.2.length c) 1 x.2.2.length (byteCs x.2.2) ∧ RowAt w b (off + j * 3) [strV x.1, .bool x.2.1, .slice p x.2.2.length c] := by
  obtain ⟨fs, h1, h2, h3⟩ := h
  have hj : j < l.length := (List.getElem?_eq_some_iff.1 hx).1
  have hlen : fs.length = l.length := by rw [← h1]; simp
  obtain ⟨f, hf⟩ := get_lt (l := fs) (q := j) (by omega)
  have hfx : f.1 = x := by
    rw [← h1, List.getElem?_map, hf] at hx
    simpa using hx
  subst hfx
  obtain ⟨h4, _⟩ := h3 f (List.mem_of_getElem? hf)
  obtain ⟨p, c, h5⟩ := (h4 w M hM hs).shape
  have hsl := (h2 w M hM hs).sl (by omega)
  obtain ⟨b', off', h6, h7⟩ := (h2 w M hM hs).blk (j := j) (by omega)
  cases h6; subst h7
  refine ⟨p, c, h5 ▸ h4, ?_⟩
  rw [← h5]
  exact hsl.row (j := j) (l := [strV f.1.1, .bool f.1.2.1, f.2]) rfl (fCs_row hf) (by simp)
theorem under_len {p d : List UInt8} (h : underP p d = true) : d.length ≤ p.length := by
  obtain ⟨h1, h2, c, hc⟩ := under_facts h
  rw [namesP_splitN h1, namesP_splitN h2] at hc
  have e1 := joinS_splitN h1
  have e2 := joinS_splitN h2
  rw [hc] at e1
  by_cases hc0 : c = []
  · subst hc0; rw [List.append_nil, e2] at e1; rw [e1]; exact Nat.le_refl _
  · by_cases hd0 : splitN d = []
    · rw [hd0] at e2; rw [← e2]; simp [joinS]
    · rw [joinS_app hd0 hc0, e2] at e1
      have := congrArg List.length e1
      simp at this; omega
end Go.Proofs.Ytccfmfehfhfhhaa
