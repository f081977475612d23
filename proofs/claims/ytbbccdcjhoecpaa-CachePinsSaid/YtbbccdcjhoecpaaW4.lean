/-
  The walk of functions of the cache, by program: use_c, gone_c, clone_c.
-/
import Derived.Test.YtbbccdcjhoecpaaTab
import Derived.Test.YtbbccdcjhoecpaaC3
import Derived.Test.YtbbccdcjhoecpaaW1
namespace Go.Proofs.Ytbbccdcjhoecpaa
open Go Go.Fw Go.RowKit Go.Proofs

-- (*valise/cache.Cache).use
set_option maxRecDepth 100000 in
theorem use_c {w : World} {c e r : Nat} {bud : Int} {A B : List Nd} {l : Nd} (h : CAt w c e r bud (A ++ l :: B)) : Ret Try.prog 29 #[ptr c, ptr l.id] w fun v w' => v = .tuple #[] ∧ CAt w' c e r bud (l :: (A ++ B)) ∧ Frm (InRing e (A ++ l :: B)) w w' := by
  have hlid := h.lid
  refine Ret.of_W Try.func29 rfl Try.ntmps29 rfl ?_
  refine W.seq ?_
  refine W.sub [(0, _), (1, _)] ⟨rfl, rfl, trivial⟩ ?_
  refine W.reg [(0, false), (1, false), (2, false), (3, false), (4, false), (5, true)] (by kernel_rfl) ?_ -- region 0
  intro K hK
  refine x_move rfl rfl rfl rfl ?_
  refine x_nil rfl rfl rfl rfl rfl ?_
  refine x_fa rfl rfl rfl fo63_2 rfl ?_
  refine x_ldA [_] rfl rfl rfl Try.underlying60 rfl sz60 rfl rfl ⟨_, _, _, h.hc, rfl⟩ ?_ -- ld1 cache.go:88
  refine x_move rfl rfl rfl rfl ?_
  -- call1: (valise/cache.ring[valise/cache.block]).cut cache.go:88
  refine x_call rfl rfl rfl rfl rfl en39 (cut_ring h.ring) ?_
  rintro v w1 ⟨rfl, hr1, ⟨x1, y1, hl1⟩, hF1⟩
  have hc1 : w1.heap[c]? = some (.cells [.int .i64 bud, .int .i64 (tot (A ++ l :: B)), ptr e, .map (some r)].toArray 63 (0, 0)) := (hF1.old c (h.lt c (by simp [fp])) (InRing.not h.nd (.inl rfl))).trans h.hc
  refine ⟨trivial, ?_⟩
  refine Ex.done (hK _ _ ?_)
  refine At.then_n ?_
  refine W.sub [(0, _), (1, _)] ⟨rfl, rfl, trivial⟩ ?_
  refine W.reg [(0, false), (1, false), (2, false), (3, false), (4, false), (5, true)] (by kernel_rfl) ?_ -- region 1
  intro K hK
  refine x_move rfl rfl rfl rfl ?_
  refine x_nil rfl rfl rfl rfl rfl ?_
  refine x_fa rfl rfl rfl fo63_2 rfl ?_
  refine x_ldA [_] rfl rfl rfl Try.underlying60 rfl sz60 rfl rfl ⟨_, _, _, hc1, rfl⟩ ?_ -- ld2 cache.go:89
  refine x_move rfl rfl rfl rfl ?_
  -- call2: (valise/cache.ring[valise/cache.block]).front cache.go:89
  refine x_call rfl rfl rfl rfl rfl en27 (front_ring hr1 hl1 hlid.1) ?_
  rintro v w2 ⟨rfl, hr2, hF2⟩
  refine ⟨trivial, ?_⟩
  refine Ex.done (hK _ _ ?_)
  refine At.fall ?_
  refine At.ret0 rfl ?_ -- ret1
  have hp := mid_perm A B l
  have hsub : ∀ b, InRing e (l :: (A ++ B)) b → InRing e (A ++ l :: B) b := fun b hb => by
    simp only [InRing, List.mem_cons] at hb ⊢
    rcases hb with hb | hb
    · exact .inl hb
    · exact .inr ((perm_ids hp).mem_iff.2 hb)
  refine ⟨rfl, h.reorder hp hr2 (fun b hb => ?_), hF1.trans hF2 (fun b hb _ => .inl (hsub b hb))⟩
  have hlt : b < w.heap.size := h.lt b (by rcases hb with rfl | rfl | hb <;> simp [fp, *])
  have hn := InRing.not h.nd hb
  rw [hF2.old b (Nat.lt_of_lt_of_le hlt hF1.size) (fun hb2 => hn (hsub b hb2)), hF1.old b hlt hn]

-- (*valise/cache.Cache).gone
set_option maxRecDepth 100000 in
theorem gone_c {w : World} {c e r : Nat} {bud : Int} {A B : List Nd} {l : Nd} (h : CAt w c e r bud (A ++ l :: B)) : Ret Try.prog 31 #[ptr c, ptr l.id] w fun v w' => v = .tuple #[] ∧ CAt w' c e r bud (A ++ B) ∧ Frm (InC c e r (A ++ l :: B)) w w' := by
  have hlid := h.lid
  obtain ⟨p, cap, hsv⟩ := (h.bs l (by simp)).shape
  obtain ⟨o, g, ho, hm, hg⟩ := h.mp
  have hfp := fp_facts h.nd
  have hc0 := h.hc
  refine Ret.of_W Try.func31 rfl Try.ntmps31 rfl ?_
  refine W.seq ?_
  refine W.sub [(0, _), (1, _)] ⟨rfl, rfl, trivial⟩ ?_
  refine W.reg [(0, false), (1, false), (2, false), (3, false), (4, false), (5, true)] (by kernel_rfl) ?_ -- region 0
  intro K hK
  refine x_move rfl rfl rfl rfl ?_
  refine x_nil rfl rfl rfl rfl rfl ?_
  refine x_fa rfl rfl rfl fo63_2 rfl ?_
  refine x_ldA [_] rfl rfl rfl Try.underlying60 rfl sz60 rfl rfl ⟨_, _, _, hc0, rfl⟩ ?_ -- ld1 cache.go:94
  refine x_move rfl rfl rfl rfl ?_
  -- call1: (valise/cache.ring[valise/cache.block]).cut cache.go:94
  refine x_call rfl rfl rfl rfl rfl en39 (cut_ring h.ring) ?_
  rintro v w1 ⟨rfl, hr1, ⟨x1, y1, hl1⟩, hF1⟩
  have hc1 : w1.heap[c]? = some (.cells [.int .i64 bud, .int .i64 (tot (A ++ l :: B)), ptr e, .map (some r)].toArray 63 (0, 0)) := (hF1.old c (h.lt c (by simp [fp])) (InRing.not h.nd (.inl rfl))).trans h.hc
  have ho1 : w1.heap[r]? = some o := (hF1.old r (h.lt r (by simp [fp])) (InRing.not h.nd (.inr (.inl rfl)))).trans ho
  unfold nodeO at hl1
  rw [hsv] at hl1
  refine ⟨trivial, ?_⟩
  refine Ex.done (hK _ _ ?_)
  refine At.then_n ?_
  refine W.seq ?_
  refine W.sub [(0, _), (1, _)] ⟨rfl, rfl, trivial⟩ ?_
  refine W.regD (by kernel_rfl) #[0, 1, 3, 7, 0, 16, 48, 112, 240, 511] [(0, false), (1, false), (2, false), (3, false), (4, false), (5, false), (6, false), (7, false), (8, false), (9, true)] (by kernel_rfl) ?_ -- region 1
  intro K wD1 hK hwD1
  have hc1 : wD1.heap[c]? = some (.cells [.int .i64 bud, .int .i64 (tot (A ++ l :: B)), ptr e, .map (some r)].toArray 63 (0, 0)) := by subst hwD1; exact hc1
  have ho1 : wD1.heap[r]? = some o := by subst hwD1; exact ho1
  have hl2 := (hp_drew hwD1 l.id).trans hl1
  refine x_move rfl rfl rfl rfl ?_
  refine x_nil rfl rfl rfl rfl rfl ?_
  refine x_fa rfl rfl rfl fo63_3 rfl ?_
  refine x_ld rfl rfl rfl Try.underlying61 rfl rfl (cell_of hc1 rfl) ?_ -- ld2 cache.go:95
  refine x_move rfl rfl rfl rfl ?_
  refine x_nil rfl rfl rfl rfl rfl ?_
  refine x_fa rfl rfl rfl fo70_0 rfl ?_
  refine x_fa rfl rfl rfl fo67_0 rfl ?_
  refine x_ldA [_, _] rfl rfl rfl Try.underlying29 rfl sz29 rfl rfl ⟨_, _, _, hl2, rfl⟩ ?_ -- ld3 cache.go:95
  -- de1: cache.go:95
  refine x_del (l.f, l.i) rfl rfl rfl keyLaw Try.underlying61 rfl rfl rfl ho1 hm ?_
  intro o2 w2 hm2 hw2
  have hlt1 : r < wD1.heap.size := (Array.getElem?_eq_some_iff.1 ho1).1
  have ho2 : w2.heap[r]? = some o2 := by rw [hw2]; exact World.putObj_heap_same hlt1
  have hc2 : w2.heap[c]? = some (.cells [.int .i64 bud, .int .i64 (tot (A ++ l :: B)), ptr e, .map (some r)].toArray 63 (0, 0)) := by rw [hw2, World.putObj_heap_other hfp.2.1]; exact hc1
  have hl3 := (hp_put hw2 hlid.2.2).trans hl2
  refine ⟨⟨.inl (by kernel_rfl), .inl (by kernel_rfl), trivial⟩, ?_⟩
  refine Ex.done (hK _ _ ?_)
  refine At.then_n ?_
  refine W.sub [(0, _), (1, _)] ⟨rfl, rfl, trivial⟩ ?_
  refine W.regD (by kernel_rfl) #[0, 1, 3, 7, 0, 16, 48, 112, 240, 496, 1023, 2047, 4095, 8191] [(0, false), (1, false), (2, false), (3, false), (4, false), (5, false), (6, false), (7, false), (8, false), (9, false), (10, false), (11, false), (12, false), (13, true)] (by kernel_rfl) ?_ -- region 2
  intro K wD2 hK hwD2
  have hc2 : wD2.heap[c]? = some (.cells [.int .i64 bud, .int .i64 (tot (A ++ l :: B)), ptr e, .map (some r)].toArray 63 (0, 0)) := by subst hwD2; exact hc2
  have ho2 : wD2.heap[r]? = some o2 := by subst hwD2; exact ho2
  have hl3 := (hp_drew hwD2 l.id).trans hl3
  refine x_move rfl rfl rfl rfl ?_
  refine x_nil rfl rfl rfl rfl rfl ?_
  refine x_fa rfl rfl rfl fo63_1 rfl ?_
  refine x_ld rfl rfl rfl Try.underlying3 rfl rfl (cell_of hc2 rfl) ?_ -- ld4 cache.go:96
  refine x_move rfl rfl rfl rfl ?_
  refine x_nil rfl rfl rfl rfl rfl ?_
  refine x_fa rfl rfl rfl fo70_0 rfl ?_
  refine x_fa rfl rfl rfl fo67_1 rfl ?_
  refine x_ld rfl rfl rfl Try.underlying31 rfl rfl (cell_of hl3 rfl) ?_ -- ld5 cache.go:96
  refine x_len rfl rfl rfl rfl Try.underlying31 rfl ?_
  refine x_sub (tot (A ++ B)) rfl rfl rfl rfl rfl h.tots ?_ -- ar1 cache.go:96
  refine x_nil rfl rfl rfl rfl rfl ?_
  refine x_fa rfl rfl rfl fo63_1 rfl ?_
  refine x_st [_] [_, _, _, _] rfl rfl rfl sz3 rfl rfl rfl rfl hc2 rfl rfl rfl ?_ -- st1 cache.go:96
  intro wst1 hwst1
  
  refine ⟨⟨.inl (by kernel_rfl), .inl (by kernel_rfl), trivial⟩, ?_⟩
  refine Ex.done (hK _ _ ?_)
  refine At.fall ?_
  refine At.ret0 rfl ?_ -- ret1
  have hltc : c < wD2.heap.size := (Array.getElem?_eq_some_iff.1 hc2).1
  have step : ∀ b, b ≠ c → b ≠ r → wst1.heap[b]? = w1.heap[b]? := fun b h1 h2 => by
    rw [hwst1, World.putObj_heap_other h1, hwD2]
    show w2.heap[b]? = _
    rw [hw2, World.putObj_heap_other h2, hwD1]
    rfl
  have hsz : w1.heap.size ≤ wst1.heap.size := by rw [hwst1, hwD2, World.putObj_size]; show w1.heap.size ≤ w2.heap.size; rw [hw2, World.putObj_size, hwD1]; exact Nat.le_refl _
  have hF2 : Frm (InC c e r (A ++ l :: B)) w1 wst1 := (((Frm.drw hwD1).trans' (Frm.put (by simp [InC, fp]) hw2)).trans' (Frm.drw hwD2)).trans' (Frm.put (by simp [InC, fp]) hwst1)
  refine ⟨rfl, h.removed ?_ (hr1.same fun b hb => step b ?_ ?_) ?_ hm2 hg (fun b hb => ?_), (Frm.sub hF1 (fun b hb => hb.fp)).trans hF2 (fun b hb _ => .inl hb)⟩
  · rw [hwst1]; exact World.putObj_heap_same hltc
  · rintro rfl
    rcases List.mem_cons.1 hb with h1 | h1
    · exact hfp.1 h1
    · exact hfp.2.2.2.1 (by rw [ids_app] at h1 ⊢; simp [ids] at h1 ⊢; rcases h1 with h1 | h1; exact .inl h1; exact .inr (.inr h1))
  · rintro rfl
    rcases List.mem_cons.1 hb with h1 | h1
    · exact hfp.2.2.1 h1.symm
    · exact hfp.2.2.2.2.2.2.2.1 (by rw [ids_app] at h1 ⊢; simp [ids] at h1 ⊢; rcases h1 with h1 | h1; exact .inl h1; exact .inr (.inr h1))
  · rw [hwst1, World.putObj_heap_other (Ne.symm hfp.2.1)]; exact ho2
  · rw [step b (fun e1 => hfp.2.2.2.2.1 (e1 ▸ hb)) (fun e1 => hfp.2.2.2.2.2.2.2.2.1 (e1 ▸ hb))]
    exact hF1.old b (h.lt b (by simp [fp, hb])) (InRing.not h.nd (.inr (.inr hb)))

-- slices.Clone[[]byte,byte]
set_option maxRecDepth 100000 in
theorem clone_c {w : World} {sv : Value} {b : List UInt8} (h : BytesIn w sv b) (hb : b.length ≤ 1099511627776) : Ret Try.prog 28 #[sv] w fun v w' => BytesAt w' v b ∧ New w w' ∧ (∀ g, blkOf v = some g → w.heap.size ≤ g) := by
  obtain ⟨p, cap, hsv⟩ := h.shape
  have hs : Src Try.prog 1 31 sv b.length (b.map byteV) w := h.src
  have M : St None' w [] w := Frm.refl _ _
  subst hsv
  refine Ret.of_W Try.func28 rfl Try.ntmps28 rfl ?_
  refine W.seq ?_
  refine W.sub [(0, _)] ⟨rfl, trivial⟩ ?_
  refine W.reg [(0, false)] (by kernel_rfl) ?_ -- region 0
  intro K hK
  refine x_assign rfl rfl rfl rfl ?_
  refine Ex.done (hK _ _ ?_)
  refine At.then_n ?_
  refine W.seq ?_
  refine W.seq ?_
  refine W.sub [(0, _), (2, _)] ⟨rfl, rfl, trivial⟩ ?_
  refine W.reg [(0, false), (1, false)] (by kernel_rfl) ?_ -- region 1
  intro K hK
  refine x_move rfl rfl rfl rfl ?_
  refine x_eqsn _ rfl rfl rfl Try.underlying31 rfl rfl rfl ?_ -- eq1 slices.go:357
  refine Ex.done (hK _ _ ?_)
  refine At.then_n ?_
  refine W.cond rfl (fun hco1 => ?_) (fun hco1 => ?_) -- co1
  · refine W.seq ?_
    refine W.sub [(0, _), (2, _)] ⟨rfl, rfl, trivial⟩ ?_
    refine W.reg [(0, false)] (by kernel_rfl) ?_ -- region 2
    intro K hK
    refine x_assign rfl rfl rfl rfl ?_
    refine Ex.done (hK _ _ ?_)
    refine At.then_n ?_
    refine W.ret ?_
    refine At.then_r ?_
    refine At.ret1 (.tmp 2) rfl ⟨rfl, trivial⟩ ?_ -- ret1
    have hp : p = none := by cases p with | none => rfl | some p => simp at hco1
    subst hp
    have hb0 : b = [] := by
      rcases h with ⟨h1, _⟩ | ⟨_, ⟨_, _, h3⟩ | ⟨_, _, _, _, _, _, h1, _⟩⟩
      · exact h1
      · simpa using h3
      · cases h1
    subst hb0
    exact ⟨.inl ⟨rfl, rfl, rfl⟩, Frm.refl _ _, fun g hg => by cases hg⟩
  · refine W.skip ?_
    refine At.then_n ?_
    refine W.seq ?_
    refine W.sub [(0, _), (2, _)] ⟨rfl, rfl, trivial⟩ ?_
    refine W.reg [(0, true), (1, false), (2, true), (3, false)] (by kernel_rfl) ?_ -- region 3
    intro K hK
    -- bs1: slices.go:362
    refine x_bs0 rfl rfl rfl Try.underlying31 sz5 ?_
    intro b1 w1 hb1 hw1
    have M := M.alloc hb1 hw1
    have hs1 : Src Try.prog 1 31 (.slice p b.length cap) b.length (b.map byteV) w1 := (h.keep (w1 := w1) (fun _ g hg hlt => by rw [hw1, heap_alloc, if_neg (by omega)])).src
    refine ⟨trivial, ?_⟩
    refine x_move rfl rfl rfl rfl ?_
    -- ap1: slices.go:362
    refine x_app (cs := []) rfl rfl rfl rfl Try.underlying31 sz5 ze5 rfl by5 rfl rfl (.inr ⟨b1, 0, [], 5, rfl, M.at_ 0 rfl, rfl, rfl⟩) (by simp) hs1 (by omega) (by decide) (by omega) ?_
    intro v2 w2 hv2 hap
    refine ⟨trivial, ?_⟩
    refine x_assign rfl rfl rfl rfl ?_
    refine Ex.done (hK _ _ ?_)
    refine At.then_n ?_
    refine W.ret ?_
    refine At.ret1 (.tmp 2) rfl ⟨rfl, trivial⟩ ?_ -- ret2
    have hap : ApTo w1 (.slice (some ⟨b1, 0, none⟩) 0 0) v2 w2 := by
      rcases hap with ⟨h1, _⟩ | h1
      · cases h1
      · exact h1
    refine ⟨?_, (M.frm).trans hap.frm (fun g hg _ => ?_), fun g hg => ?_⟩
    · have := hv2.sl (by decide)
      simpa [BytesAt] using this
    · simp [blkOf] at hg; subst hg; exact .inr (by omega)
    · obtain ⟨g', h1, h2⟩ := hap.blk
      rw [hg] at h1; cases h1
      rcases h2 with h2 | h2
      · simp [blkOf] at h2; omega
      · have := M.size; omega
end Go.Proofs.Ytbbccdcjhoecpaa
