/-
  The walk of functions of the cache, by program: drop_c.
-/
import Derived.Test.YtbbccdcjhoecpaaTab
import Derived.Test.YtbbccdcjhoecpaaW5
import Derived.Test.YtbbccdcjhoecpaaC6
namespace Go.Proofs.Ytbbccdcjhoecpaa
open Go Go.Fw Go.RowKit Go.Proofs

-- (*valise/cache.Cache).Drop
set_option maxRecDepth 100000 in
theorem drop_c {w : World} {c e r : Nat} {bud : Int} {L : List Nd} {f : ByteArray} (h : CAt w c e r bud L) (hlen : L.length ≤ 1000000) : Ret Try.prog 23 #[ptr c, .string f] w fun v w' => v = .int .i64 ((L.length - (notIn L f).length : Nat) : Int) ∧ CAt w' c e r bud (notIn L f) ∧ Frm (InC c e r L) w w' := by
  have M : St None' w [] w := Frm.refl _ _
  refine Ret.of_W Try.func23 rfl Try.ntmps23 rfl ?_
  refine W.seq ?_
  refine W.sub [(0, _), (1, _)] ⟨rfl, rfl, trivial⟩ ?_
  refine W.reg [(0, true), (1, true), (2, false)] (by kernel_rfl) ?_ -- region 0
  intro K hK
  refine x_box [_] rfl rfl rfl rfl rfl ?_ -- bx1 cache.go:176
  intro bbx1 wbx1 hbbx1 hwbx1
  have M := M.alloc hbbx1 hwbx1
  refine ⟨trivial, ?_⟩
  refine x_box [_] rfl rfl rfl rfl rfl ?_ -- bx2 cache.go:176
  intro bbx2 wbx2 hbbx2 hwbx2
  have M := M.alloc hbbx2 hwbx2
  have hcx := (h.new M.frm).hc
  refine ⟨trivial, ?_⟩
  refine x_assign rfl rfl rfl rfl ?_
  refine Ex.done (hK _ _ ?_)
  refine At.then_n ?_
  refine W.seq ?_
  refine W.seq ?_
  refine W.sub [(2, _), (3, _), (4, _)] ⟨rfl, rfl, rfl, trivial⟩ ?_
  refine W.reg [(0, false), (1, true), (2, false)] (by kernel_rfl) ?_ -- region 1
  intro K hK
  refine x_ld rfl rfl rfl Try.underlying23 rfl rfl (cell_of (by first | exact M.at_ 0 rfl | exact M.at_ 1 rfl | exact M.at_ 2 rfl | exact M.at_ 3 rfl | exact M.at_ 4 rfl | exact M.at_ 5 rfl) rfl) ?_ -- ld1 cache.go:177
  -- call1: (*valise/cache.Cache).made cache.go:177
  refine x_call rfl rfl rfl rfl rfl en25 (made_ok hcx) ?_
  rintro v w1 ⟨rfl, rfl⟩
  refine ⟨trivial, ?_⟩
  refine x_not false rfl rfl rfl rfl rfl ?_ -- un1 cache.go:177
  refine Ex.done (hK _ _ ?_)
  refine At.then_n ?_
  refine W.condF rfl ?_ -- co1
  refine W.skip ?_
  refine At.then_n ?_
  refine W.seq ?_
  refine W.sub [(2, _), (3, _), (4, _)] ⟨rfl, rfl, rfl, trivial⟩ ?_
  refine W.reg [(0, true), (1, true)] (by kernel_rfl) ?_ -- region 3
  intro K hK
  refine x_alloc [_] rfl rfl rfl ze3 rfl ?_ -- al1 cache.go:180
  intro bal1 wal1 hbal1 hwal1
  have M := M.alloc hbal1 hwal1
  refine ⟨trivial, ?_⟩
  refine x_st [_] _ rfl rfl rfl sz3 rfl rfl rfl rfl (by first | exact M.at_ 0 rfl | exact M.at_ 1 rfl | exact M.at_ 2 rfl | exact M.at_ 3 rfl | exact M.at_ 4 rfl | exact M.at_ 5 rfl) rfl rfl rfl ?_ -- st1 cache.go:180
  intro wst1 hwst1
  have M := M.put 2 rfl hwst1
  have hcx := (h.new M.frm).hc
  refine ⟨trivial, ?_⟩
  refine Ex.done (hK _ _ ?_)
  refine At.then_n ?_
  refine W.seq ?_
  refine W.seq ?_
  refine W.sub [(2, _), (3, _), (4, _), (5, _)] ⟨rfl, rfl, rfl, rfl, trivial⟩ ?_
  refine W.reg [(0, false), (1, false), (2, false), (3, false), (4, true)] (by kernel_rfl) ?_ -- region 4
  intro K hK
  refine x_ld rfl rfl rfl Try.underlying23 rfl rfl (cell_of (by first | exact M.at_ 0 rfl | exact M.at_ 1 rfl | exact M.at_ 2 rfl | exact M.at_ 3 rfl | exact M.at_ 4 rfl | exact M.at_ 5 rfl) rfl) ?_ -- ld2 cache.go:181
  refine x_nil rfl rfl rfl rfl rfl ?_
  refine x_fa rfl rfl rfl fo63_2 rfl ?_
  refine x_ldA [_] rfl rfl rfl Try.underlying60 rfl sz60 rfl rfl ⟨_, _, _, hcx, rfl⟩ ?_ -- ld3 cache.go:181
  -- call2: (valise/cache.ring[valise/cache.block]).all cache.go:181
  refine x_call rfl rfl rfl rfl rfl en32 (all0) ?_
  rintro v w1 ⟨rb, rfl, hrb, M1⟩
  have M := M.grow M1
  refine ⟨trivial, ?_⟩
  refine Ex.done (hK _ _ ?_)
  refine At.then_n ?_
  refine W.block ?_
  refine W.sub [(2, _), (3, _), (4, _), (5, _), (14, _)] ⟨rfl, rfl, rfl, rfl, rfl, trivial⟩ ?_
  refine W.range rfl en41 (fun rr hkt hps has hbdrng1 w2 hw2 => ?_)
  have M := M.range hw2
  have hge : w.heap.size ≤ bbx1 ∧ w.heap.size ≤ bbx2 ∧ w.heap.size ≤ bal1 ∧ w.heap.size ≤ rb ∧ w.heap.size ≤ w1.heap.size := ⟨M.ge 0 rfl, M.ge 1 rfl, M.ge 2 rfl, M.ge 3 rfl, M.ge 4 rfl⟩
  have hcw := h.new M.frm
  have M := M.weak (S' := InC c e r L) (fun _ h => h.elim)
  refine (all1 (J := fun rest w' => ∃ D R, L = D ++ R ∧ rest = ids R ∧ CAt w' c e r bud (notIn D f ++ R) ∧ St (InC c e r L) w [(bbx1, .cells [ptr c].toArray 23 (0, 0)), (bbx2, .cells [.string f].toArray 9 (0, 0)), (bal1, .cells [.int .i64 ((D.length - (notIn D f).length : Nat) : Int)].toArray 3 (0, 0)), (rb, .cells [ptr e].toArray 60 (0, 0)), (w1.heap.size, .deferred (some [])), (w1.heap.size + 1, .loop { rr with state := .ready, pending := none })] w') (Jx := fun _ => False) (xs := ids L) ?_ ⟨[], L, rfl, rfl, hcw, M⟩ (cell_of hcw.ring.end_at rfl) ?_).mono ?_
  · rintro rest w' ⟨D, R, hL, rfl, hcat, M⟩
    exact ⟨M.at_ 3 rfl, hcat.stepF⟩
  · rintro x rest w' ⟨D, R, hL, hR, hcat, M⟩
    obtain ⟨nd, R2, rfl, rfl, rfl⟩ := ids_cons hR
    have hL2 : L = (D ++ [nd]) ++ R2 := by rw [hL]; simp
    have hsub : ∀ b ∈ fp c e r (notIn D f ++ nd :: R2), b < w.heap.size ∧ b ∈ fp c e r L := fun b hb => by
      have := fp_sub (L := L) (fun n hn => by rw [hL]; simp only [List.mem_append] at hn ⊢; exact hn.imp notIn_mem id) b hb
      exact ⟨h.lt b this, this⟩
    have hno : ∀ b, w.heap.size ≤ b → b ∉ fp c e r (notIn D f ++ nd :: R2) := fun b h1 h2 => absurd (hsub b h2).1 (by omega)
    have hDl : D.length ≤ 1000000 := by rw [hL] at hlen; simp at hlen; omega
    have hDn := notIn_len D f
    refine Yld.one (M.at_ 5 rfl) hkt hps rfl has ?_
    refine W.sub [(2, _), (3, _), (4, _), (5, _), (15, _)] ⟨rfl, rfl, rfl, rfl, rfl, trivial⟩ ?_
    refine W.reg [(0, false)] (by kernel_rfl) ?_ -- region 5
    intro K hK
    refine x_assign rfl rfl rfl rfl ?_
    refine Ex.done (hK _ _ ?_)
    refine At.asg hbdrng1 (M.at_ 5 rfl) ?_
    generalize hwb : World.putObj _ _ _ = wb
    have M := M.put 5 rfl hwb.symm
    have hcat := hcat.put (hno _ (by omega)) hwb.symm
    refine W.block ?_
    refine W.seq ?_
    refine W.sub [(2, _), (3, _), (4, _), (5, _), (6, _)] ⟨rfl, rfl, rfl, rfl, rfl, trivial⟩ ?_
    refine W.regD (by kernel_rfl) #[0, 1, 3, 7, 15, 31, 0, 127] [(0, false), (1, false), (2, false), (3, false), (4, false), (5, false), (6, false), (7, false)] (by kernel_rfl) ?_ -- region 6
    intro K wD1 hK hwD1
    have M := M.drew hwD1
    have hcat := hcat.drw hwD1
    have hnode := hcat.ring.node_at.1
    unfold nodeO at hnode
    refine x_move rfl rfl rfl rfl ?_
    refine x_nil rfl rfl rfl rfl rfl ?_
    refine x_fa rfl rfl rfl fo70_0 rfl ?_
    refine x_fa rfl rfl rfl fo67_0 rfl ?_
    refine x_fa rfl rfl rfl fo29_0 rfl ?_
    refine x_ld rfl rfl rfl Try.underlying9 rfl rfl (cell_of hnode rfl) ?_ -- ld4 cache.go:182
    refine x_ld rfl rfl rfl Try.underlying9 rfl rfl (cell_of (by first | exact M.at_ 0 rfl | exact M.at_ 1 rfl | exact M.at_ 2 rfl | exact M.at_ 3 rfl | exact M.at_ 4 rfl | exact M.at_ 5 rfl) rfl) ?_ -- ld5 cache.go:182
    refine x_eqs _ rfl rfl rfl rfl rfl rfl ?_ -- eq1 cache.go:182
    refine Ex.done (hK _ _ ?_)
    refine At.then_n ?_
    refine W.cond rfl (fun hco2 => ?_) (fun hco2 => ?_) -- co2
    · have hf : nd.f = f := ba_inj (by simpa using hco2)
      refine W.seq ?_
      refine W.sub [(2, _), (4, _), (5, _), (6, _)] ⟨rfl, rfl, rfl, rfl, trivial⟩ ?_
      refine W.reg [(0, false), (1, false), (2, true)] (by kernel_rfl) ?_ -- region 7
      intro K hK
      refine x_ld rfl rfl rfl Try.underlying23 rfl rfl (cell_of (by first | exact M.at_ 0 rfl | exact M.at_ 1 rfl | exact M.at_ 2 rfl | exact M.at_ 3 rfl | exact M.at_ 4 rfl | exact M.at_ 5 rfl) rfl) ?_ -- ld6 cache.go:183
      refine x_move rfl rfl rfl rfl ?_
      -- call3: (*valise/cache.Cache).gone cache.go:183
      refine x_call rfl rfl rfl rfl rfl en31 (gone_c hcat) ?_
      rintro v w5 ⟨rfl, hcat, hF⟩
      have M := M.call' hF (by
        intro x hx hb
        have := hsub _ hb
        simp at hx; rcases hx with rfl | rfl | rfl | rfl | rfl | rfl <;> (simp only at this; omega)) (fun b hb => .inl (hsub b hb).2)
      have hno : ∀ b, w.heap.size ≤ b → b ∉ fp c e r (notIn D f ++ R2) := fun b h1 h2 => hno b h1 (fp_sub (fun n hn => by simp only [List.mem_append, List.mem_cons] at hn ⊢; exact hn.imp id .inr) b h2)
      have hnf : notIn (D ++ [nd]) f = notIn D f := by rw [notIn_app]; simp [notIn, hf]
      refine ⟨trivial, ?_⟩
      refine Ex.done (hK _ _ ?_)
      refine At.then_n ?_
      refine W.sub [(4, _), (5, _)] ⟨rfl, rfl, trivial⟩ ?_
      refine W.reg [(0, false), (1, false), (2, true)] (by kernel_rfl) ?_ -- region 8
      intro K hK
      refine x_ld rfl rfl rfl Try.underlying3 rfl rfl (cell_of (by first | exact M.at_ 0 rfl | exact M.at_ 1 rfl | exact M.at_ 2 rfl | exact M.at_ 3 rfl | exact M.at_ 4 rfl | exact M.at_ 5 rfl) rfl) ?_ -- ld7 cache.go:184
      refine x_add (((D ++ [nd]).length - (notIn (D ++ [nd]) f).length : Nat) : Int) rfl rfl rfl rfl rfl (by rw [hnf, wrap64_id (by omega) (by omega)]; simp; omega) ?_ -- ar1 cache.go:184
      refine x_st [_] _ rfl rfl rfl sz3 rfl rfl rfl rfl (by first | exact M.at_ 0 rfl | exact M.at_ 1 rfl | exact M.at_ 2 rfl | exact M.at_ 3 rfl | exact M.at_ 4 rfl | exact M.at_ 5 rfl) rfl rfl rfl ?_ -- st2 cache.go:184
      intro wst2 hwst2
      have M := M.put 2 rfl hwst2
      have hcat := hcat.put (hno _ (by omega)) hwst2
      refine ⟨trivial, ?_⟩
      refine Ex.done (hK _ _ ?_)
      refine At.blk_n ?_
      refine At.rnd_n (M.at_ 5 rfl) ?_ -- rd1
      exact ⟨true, rfl, fun _ => ⟨D ++ [nd], R2, hL2, rfl, by rw [hnf]; exact hcat.put (hno _ (by omega)) rfl, M.put 5 rfl rfl⟩, fun h => by cases h⟩
    · have hf : nd.f ≠ f := fun e1 => by simp [e1] at hco2
      have hnf : notIn (D ++ [nd]) f = notIn D f ++ [nd] := by rw [notIn_app]; simp [notIn, hf]
      refine W.skip ?_
      refine At.blk_n ?_
      refine At.rnd_n (M.at_ 5 rfl) ?_ -- rd2
      refine ⟨true, rfl, fun _ => ⟨D ++ [nd], R2, hL2, rfl, ?_, ?_⟩, fun h => by cases h⟩
      · rw [hnf, List.append_assoc]; exact hcat.put (hno _ (by omega)) rfl
      · have e1 : (D ++ [nd]).length - (notIn (D ++ [nd]) f).length = D.length - (notIn D f).length := by rw [hnf]; simp
        rw [e1]; exact M.put 5 rfl rfl
  · rintro v w3 ⟨rfl, ⟨D, R, hL, hR, hcat, M⟩ | hx⟩
    · have hRn := ids_nil hR
      subst hRn
      rw [List.append_nil] at hL hcat
      subst hL
      have hno : ∀ b, w.heap.size ≤ b → b ∉ fp c e r (notIn L f) := fun b h1 h2 => absurd (h.lt b (fp_sub (fun n hn => notIn_mem hn) b h2)) (by omega)
      refine .inl ⟨.ready, by simp, M.at_ 5 rfl, ?_⟩
      generalize hwx : World.putObj _ _ _ = w4
      have M := M.put 5 rfl hwx.symm
      have hcat := hcat.put (hno _ (by omega)) hwx.symm
      refine At.blk_n ?_
      refine At.then_n ?_
      refine W.seq ?_
      refine W.sub [(4, _), (5, _)] ⟨rfl, rfl, trivial⟩ ?_
      refine W.reg [(0, false), (1, false)] (by kernel_rfl) ?_ -- region 9
      intro K hK
      refine x_ld rfl rfl rfl Try.underlying3 rfl rfl (cell_of (by first | exact M.at_ 0 rfl | exact M.at_ 1 rfl | exact M.at_ 2 rfl | exact M.at_ 3 rfl | exact M.at_ 4 rfl | exact M.at_ 5 rfl) rfl) ?_ -- ld8 cache.go:187
      refine x_assign rfl rfl rfl rfl ?_
      refine Ex.done (hK _ _ ?_)
      refine At.then_n ?_
      refine W.ret ?_
      refine At.mark (M.at_ 4 rfl) ?_
      generalize hwy : World.putObj _ _ _ = w5
      have M := M.put 4 rfl hwy.symm
      have hcat := hcat.put (hno _ (by omega)) hwy.symm
      refine At.ret1 (.tmp 4) rfl ⟨rfl, trivial⟩ ?_ -- ret1
      exact ⟨rfl, hcat, M.frm⟩
    · exact hx.elim
end Go.Proofs.Ytbbccdcjhoecpaa
