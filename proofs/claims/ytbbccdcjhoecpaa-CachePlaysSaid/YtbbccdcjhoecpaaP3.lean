/-
  Texts that belong together, laid into one file: W8, M1, M2, W11, L1, A1, R1, L2, A2, A3, FwI, B1, B2, W21, W20, W22, W25, W24, W27.
-/
import Derived.Laws.Slices
import Derived.Test.YtbbccdcjhoecpaaP2
namespace Go.Proofs.Ytbbccdcjhoecpaa
open Go Go.Fw Go.RowKit Go.Proofs

-- (*valise/cache.Cache).Keys
set_option maxRecDepth 100000 in
theorem keys_c {w : World} {c e r : Nat} {bud : Int} {L : List Nd} (h : CAt w c e r bud L) (hlen : L.length ≤ 1000000) : Ret Try.prog 12 #[ptr c] w fun v w' => OwS w' v 2 L.length (keyCells L) ∧ New w w' ∧ (∀ g, blkOf v = some g → w.heap.size ≤ g) := by
  have M : St None' w [] w := Frm.refl _ _
  have hc := h.hc
  refine Ret.of_W Try.func12 rfl Try.ntmps12 rfl ?_
  refine W.seq ?_
  refine W.sub [(0, _)] ⟨rfl, trivial⟩ ?_
  refine W.reg [(0, false)] (by kernel_rfl) ?_ -- region 0
  intro K hK
  refine x_assign rfl rfl rfl rfl ?_
  refine Ex.done (hK _ _ ?_)
  refine At.then_n ?_
  refine W.seq ?_
  refine W.seq ?_
  refine W.sub [(0, _), (2, _)] ⟨rfl, rfl, trivial⟩ ?_
  refine W.reg [(0, false), (1, true), (2, false)] (by kernel_rfl) ?_ -- region 1
  intro K hK
  refine x_move rfl rfl rfl rfl ?_
  -- call1: (*valise/cache.Cache).made cache.go:200
  refine x_call rfl rfl rfl rfl rfl en25 (made_ok hc) ?_
  rintro v w1 ⟨rfl, rfl⟩
  refine ⟨trivial, ?_⟩
  refine x_not false rfl rfl rfl rfl rfl ?_ -- un1 cache.go:200
  refine Ex.done (hK _ _ ?_)
  refine At.then_n ?_
  refine W.condF rfl ?_ -- co1
  refine W.skip ?_
  refine At.then_n ?_
  refine W.seq ?_
  refine W.sub [(0, _), (2, _)] ⟨rfl, rfl, trivial⟩ ?_
  refine W.reg [(0, true)] (by kernel_rfl) ?_ -- region 3
  intro K hK
  refine x_alloc [_] rfl rfl rfl ze32 rfl ?_ -- al1 cache.go:203
  intro bal1 wal1 hbal1 hwal1
  have M := M.alloc hbal1 hwal1
  have hcx := (h.new M.frm).hc
  refine ⟨trivial, ?_⟩
  refine Ex.done (hK _ _ ?_)
  refine At.then_n ?_
  refine W.seq ?_
  refine W.seq ?_
  refine W.sub [(0, _), (2, _), (3, _)] ⟨rfl, rfl, rfl, trivial⟩ ?_
  refine W.reg [(0, false), (1, false), (2, false), (3, false), (4, true)] (by kernel_rfl) ?_ -- region 4
  intro K hK
  refine x_move rfl rfl rfl rfl ?_
  refine x_nil rfl rfl rfl rfl rfl ?_
  refine x_fa rfl rfl rfl fo63_2 rfl ?_
  refine x_ldA [_] rfl rfl rfl Try.underlying60 rfl sz60 rfl rfl ⟨_, _, _, hcx, rfl⟩ ?_ -- ld1 cache.go:204
  -- call2: (valise/cache.ring[valise/cache.block]).all cache.go:204
  refine x_call rfl rfl rfl rfl rfl en32 (all0) ?_
  rintro v w1 ⟨rb, rfl, hrb, M1⟩
  have M := M.grow M1
  refine ⟨trivial, ?_⟩
  refine Ex.done (hK _ _ ?_)
  refine At.then_n ?_
  refine W.block ?_
  refine W.sub [(2, _), (3, _), (12, _)] ⟨rfl, rfl, rfl, trivial⟩ ?_
  refine W.range rfl en41 (fun rr hkt hps has hbdrng1 w2 hw2 => ?_)
  have M := M.range hw2
  refine (all1 (J := fun rest w' => ∃ A R ov, L = A ++ R ∧ rest = ids R ∧ OwS w' ov 2 A.length (keyCells A) ∧ (∀ g, blkOf ov = some g → w.heap.size ≤ g ∧ g ≠ bal1 ∧ g ≠ rb ∧ g ≠ w1.heap.size ∧ g ≠ w1.heap.size + 1) ∧ St None' w [(bal1, .cells [ov].toArray 32 (0, 0)), (rb, .cells [ptr e].toArray 60 (0, 0)), (w1.heap.size, .deferred (some [])), (w1.heap.size + 1, .loop { rr with state := .ready, pending := none })] w') (Jx := fun _ => False) (xs := ids L) ?_ ⟨[], L, _, rfl, rfl, .inl ⟨rfl, rfl, rfl⟩, (by intro g hg; cases hg), M⟩ (cell_of (h.new M.frm).ring.end_at rfl) ?_).mono ?_
  · rintro rest w' ⟨A, R, ov, hL, rfl, _, _, M⟩
    have hcat := h.new M.frm
    refine ⟨M.at_ 1 rfl, okBlk_end hcat.ring.end_at, ?_⟩
    intro x r2 hx
    cases R with
    | nil => cases hx
    | cons nd R2 =>
      cases hx
      rw [hL] at hcat
      obtain ⟨g1, g2⟩ := hcat.ring.node_at
      exact ⟨g2, okBlk_node g1, cell_of g1 rfl⟩
  · rintro x rest w' ⟨A, R, ov, hL, hR, how, hnb, M⟩
    obtain ⟨nd, R2, rfl⟩ : ∃ nd R2, R = nd :: R2 := by cases R with | nil => cases hR | cons a b => exact ⟨a, b, rfl⟩
    cases hR
    have hL2 : L = (A ++ [nd]) ++ R2 := by rw [hL]; simp
    have hAl : A.length ≤ 1000000 := by rw [hL] at hlen; simp at hlen; omega
    have hlv : ov.cells = [ov].toArray := by rcases how with ⟨rfl, _⟩ | ⟨_, _, _, _, rfl, _⟩ <;> rfl
    refine Yld.one (M.at_ 3 rfl) hkt hps rfl has ?_
    refine W.sub [(2, _), (3, _), (13, _)] ⟨rfl, rfl, rfl, trivial⟩ ?_
    refine W.reg [(0, false)] (by kernel_rfl) ?_ -- region 5
    intro K hK
    refine x_assign rfl rfl rfl rfl ?_
    refine Ex.done (hK _ _ ?_)
    refine At.asg hbdrng1 (M.at_ 3 rfl) ?_
    generalize hwb : World.putObj _ _ _ = wb
    have how := how.same (w1 := wb) (fun g hg => hp_put hwb.symm (hnb g hg).2.2.2.2)
    have M := M.put 3 rfl hwb.symm
    have hcat := h.new M.frm
    rw [hL] at hcat
    have hnode := hcat.ring.node_at.1
    unfold nodeO at hnode
    refine W.block ?_
    refine W.sub [(2, _), (3, _), (4, _)] ⟨rfl, rfl, rfl, trivial⟩ ?_
    refine W.regD (by kernel_rfl) #[0, 0, 2, 6, 14, 30, 62, 127, 255] [(0, false), (1, false), (2, false), (3, false), (4, false), (5, false), (6, true), (7, true), (8, true)] (by kernel_rfl) ?_ -- region 6
    intro K wD1 hK hwD1
    have M := M.drew hwD1
    have hnode := (hp_drew hwD1 nd.id).trans hnode
    have how := how.same (w1 := wD1) (fun g hg => hp_drew hwD1 g)
    refine x_ld rfl rfl rfl Try.underlying32 rfl rfl (cell_of (by first | exact M.at_ 0 rfl | exact M.at_ 1 rfl | exact M.at_ 2 rfl | exact M.at_ 3 rfl | exact M.at_ 4 rfl | exact M.at_ 5 rfl) rfl) ?_ -- ld2 cache.go:205
    refine x_move rfl rfl rfl rfl ?_
    refine x_nil rfl rfl rfl rfl rfl ?_
    refine x_fa rfl rfl rfl fo70_0 rfl ?_
    refine x_fa rfl rfl rfl fo67_0 rfl ?_
    refine x_ldA [_, _] rfl rfl rfl Try.underlying29 rfl sz29 rfl rfl ⟨_, _, _, hnode, rfl⟩ ?_ -- ld3 cache.go:205
    -- bs1: cache.go:205
    refine x_bs1 (cs := [.string nd.f, .int .i64 nd.i]) rfl rfl rfl Try.underlying32 sz29 ze29 (Z := [_, _]) rfl rfl (by decide) (by decide) rfl rfl rfl ?_
    intro b5 w5 hb5 hw5
    have how := how.same (w1 := w5) (fun g hg => by rw [hw5, heap_alloc, if_neg (by have := how.lt g hg; omega)])
    have hnode := hp_al hw5 hnode
    have M5 := M.alloc hb5 hw5
    have M := M5.sub (List.sublist_append_left _ _)
    have hsl : Sl w5 (.slice (some ⟨b5, 0, none⟩) 1 1) 2 1 [.string nd.f, .int .i64 nd.i] := .inr ⟨b5, 0, 1, _, _, _, rfl, by omega, M5.at_ 4 rfl, rfl, rfl⟩
    refine ⟨⟨.inl (by kernel_rfl), .inr (cell_of (by first | exact M.at_ 0 rfl | exact M.at_ 1 rfl | exact M.at_ 2 rfl | exact M.at_ 3 rfl | exact M.at_ 4 rfl | exact M.at_ 5 rfl) rfl), trivial⟩, ?_⟩
    -- ap1: cache.go:205
    refine x_app rfl rfl rfl rfl Try.underlying32 sz29 ze29 rfl by29 rfl rfl how (keyCells_one A) (hsl.src Try.underlying32 (by simp [Value.oneCell'])) (by omega) (by decide) (by omega) ?_
    intro v6 w6 how6 hap
    have hfrm6 : Frm (fun b => blkOf ov = some b) w5 w6 := by
      rcases hap with ⟨_, h1, _⟩ | hap
      · cases h1
      · exact hap.frm
    have hblk : ∃ b, blkOf v6 = some b ∧ (blkOf ov = some b ∨ b = w5.heap.size) := by
      rcases hap with ⟨_, h1, _⟩ | hap
      · cases h1
      · exact hap.blk
    have hnb6 : ∀ g, blkOf v6 = some g → w.heap.size ≤ g ∧ g ≠ bal1 ∧ g ≠ rb ∧ g ≠ w1.heap.size ∧ g ≠ w1.heap.size + 1 := by
      intro g hg
      obtain ⟨b, h1, h2⟩ := hblk
      rw [hg] at h1; cases h1
      rcases h2 with h2 | h2
      · exact hnb g h2
      · have e0 := M.lt (List.mem_of_getElem? (i := 0) rfl)
        have e1 := M.lt (List.mem_of_getElem? (i := 1) rfl)
        have e2 := M.lt (List.mem_of_getElem? (i := 2) rfl)
        have e3 := M.lt (List.mem_of_getElem? (i := 3) rfl)
        have := M.size
        omega
    have M := M.call hfrm6 (by
      intro x hx hb
      obtain ⟨_, g1, g2, g3, g4⟩ := hnb _ hb
      have hx' : x.1 = bal1 ∨ x.1 = rb ∨ x.1 = w1.heap.size ∨ x.1 = w1.heap.size + 1 := by
        simp at hx; rcases hx with rfl | rfl | rfl | rfl <;> simp
      rcases hx' with h1 | h1 | h1 | h1
      · exact g1 h1
      · exact g2 h1
      · exact g3 h1
      · exact g4 h1) (fun b hb _ => .inr (hnb b hb).1)
    have hl6 : v6.cells = [v6].toArray ∧ v6.oneCell' = true := by rcases how6 with ⟨rfl, _⟩ | ⟨_, _, _, _, rfl, _⟩ <;> exact ⟨rfl, rfl⟩
    refine ⟨⟨.inl (by kernel_rfl), .inl (by kernel_rfl), trivial⟩, ?_⟩
    refine x_st [_] _ rfl rfl rfl sz32 rfl rfl hl6.1 (by simp [hl6.2]) (by first | exact M.at_ 0 rfl | exact M.at_ 1 rfl | exact M.at_ 2 rfl | exact M.at_ 3 rfl | exact M.at_ 4 rfl | exact M.at_ 5 rfl) rfl rfl rfl ?_ -- st1 cache.go:205
    intro wst1 hwst1
    have how6 := how6.same (w1 := wst1) (fun g hg => hp_put hwst1 (hnb6 g hg).2.1)
    have M := M.put 0 rfl hwst1
    refine ⟨⟨.inl (by kernel_rfl), .inl (by kernel_rfl), trivial⟩, ?_⟩
    refine Ex.done (hK _ _ ?_)
    refine At.blk_n ?_
    refine At.rnd_n (M.at_ 3 rfl) ?_ -- rd1
    refine ⟨true, rfl, fun _ => ⟨A ++ [nd], R2, v6, hL2, rfl, ?_, hnb6, M.put 3 rfl rfl⟩, fun h => by cases h⟩
    have := how6.same (w1 := wst1.putObj (w1.heap.size + 1) (.loop { rr with state := .ready, pending := none })) (fun g hg => World.putObj_heap_other (hnb6 g hg).2.2.2.2)
    rw [keyCells_app]
    simpa [keyCells] using this
  · rintro v w3 ⟨rfl, ⟨A, R, ov, hL, hR, how, hnb, M⟩ | hx⟩
    · have hRn : R = [] := by cases R with | nil => rfl | cons a b => cases hR
      subst hRn
      rw [List.append_nil] at hL
      subst hL
      refine .inl ⟨.ready, by simp, M.at_ 3 rfl, ?_⟩
      generalize hwx : World.putObj _ _ _ = w4
      have how := how.same (w1 := w4) (fun g hg => hp_put hwx.symm (hnb g hg).2.2.2.2)
      have M := M.put 3 rfl hwx.symm
      refine At.blk_n ?_
      refine At.then_n ?_
      refine W.seq ?_
      refine W.sub [(2, _), (3, _)] ⟨rfl, rfl, trivial⟩ ?_
      refine W.reg [(0, false), (1, false)] (by kernel_rfl) ?_ -- region 7
      intro K hK
      refine x_ld rfl rfl rfl Try.underlying32 rfl rfl (cell_of (by first | exact M.at_ 0 rfl | exact M.at_ 1 rfl | exact M.at_ 2 rfl | exact M.at_ 3 rfl | exact M.at_ 4 rfl | exact M.at_ 5 rfl) rfl) ?_ -- ld4 cache.go:207
      refine x_assign rfl rfl rfl rfl ?_
      refine Ex.done (hK _ _ ?_)
      refine At.then_n ?_
      refine W.ret ?_
      have hlow := how
      refine At.mark (M.at_ 2 rfl) ?_
      generalize hwy : World.putObj _ _ _ = w5
      have how := how.same (w1 := w5) (fun g hg => hp_put hwy.symm (hnb g hg).2.2.2.1)
      have M := M.put 2 rfl hwy.symm
      refine At.ret1 (.tmp 2) rfl ⟨rfl, trivial⟩ ?_ -- ret1
      exact ⟨how, M.frm, fun g hg => (hnb g hg).1⟩
    · exact hx.elim
end Go.Proofs.Ytbbccdcjhoecpaa

namespace Go.Proofs.Ytbbccdcjhoecpaa
open Go Go.Fw Go.RowKit Go.Proofs
set_option linter.unusedVariables false
set_option linter.unusedSimpArgs false

/-- A block: its key, its bytes, its pins. -/
abbrev Blk := Key × List UInt8 × Int
def absN (n : Nd) : Blk := (n.key, n.b, n.pins)
def absL (L : List Nd) : List Blk := L.map absN
def totM (M : List Blk) : Int := (M.map fun m => (m.2.1.length : Int)).sum
def heldM (M : List Blk) (k : Key) : Int := (M.map fun m => if 0 < m.2.2 ∧ m.1 ≠ k then (m.2.1.length : Int) else 0).sum
def evictM (bud : Int) : List Blk → List Blk → List Blk
  | [], K => K
  | x :: P, K => if totM ((x :: P).reverse ++ K) ≤ bud then (x :: P).reverse ++ K else if P ≠ [] ∧ x.2.2 = 0 then evictM bud P K else evictM bud P (x :: K)
def woM (M : List Blk) (k : Key) : List Blk := M.filter fun m => m.1 ≠ k
def pinsM (M : List Blk) (k : Key) : Int := ((M.find? fun m => m.1 = k).map fun m => m.2.2).getD 0
def putM (bud : Int) (M : List Blk) (k : Key) (b : List UInt8) : List Blk × Int :=
  if 4096 < b.length then (M, 2) else if bud < heldM M k + b.length then (M, 7) else (evictM bud ((k, b, pinsM M k) :: woM M k).reverse [], 0)
def getM (M : List Blk) (k : Key) : List Blk × Option (List UInt8) :=
  match M.find? fun m => m.1 = k with
  | none => (M, none)
  | some m => (m :: woM M k, some m.2.1)
def pinM (M : List Blk) (k : Key) (q : Int) : List Blk × Int :=
  match M.find? fun m => m.1 = k with
  | none => (M, 9)
  | some m => if m.2.2 + q < 0 then (M, 2) else (M.map fun x => if x.1 = k then (x.1, x.2.1, x.2.2 + q) else x, 0)
def dropM (M : List Blk) (f : ByteArray) : List Blk := M.filter fun m => m.1.1 ≠ f

theorem totM_abs (L : List Nd) : totM (absL L) = tot L := by
  unfold totM absL tot; rw [List.map_map]; rfl
theorem heldM_abs (L : List Nd) (k : Key) : heldM (absL L) k = heldOf L k := by
  unfold heldM absL heldOf; rw [List.map_map]; rfl
theorem absL_app (A B : List Nd) : absL (A ++ B) = absL A ++ absL B := by simp [absL]
theorem evictM_abs (bud : Int) : ∀ (P K : List Nd), evictM bud (absL P) (absL K) = absL (evict bud P K)
  | [], K => rfl
  | x :: P, K => by
    have h1 : (absL (x :: P)).reverse ++ absL K = absL ((x :: P).reverse ++ K) := by simp [absL]
    have h2 : absL (x :: P) = absN x :: absL P := rfl
    unfold evict
    rw [h2]
    unfold evictM
    rw [← h2, h1, totM_abs]
    split
    · rfl
    · have h3 : (absL P ≠ [] ∧ (absN x).2.2 = 0) ↔ (P ≠ [] ∧ x.pins = 0) := by simp [absL, absN]
      by_cases h4 : P ≠ [] ∧ x.pins = 0
      · rw [if_pos h4, if_pos (h3.2 h4)]; exact evictM_abs bud P K
      · rw [if_neg h4, if_neg (fun h => h4 (h3.1 h))]; exact evictM_abs bud P (x :: K)

theorem wo_mid {A B : List Nd} {l : Nd} (hk : ((A ++ l :: B).map Nd.key).Nodup) : woM (absL (A ++ l :: B)) l.key = absL (A ++ B) := by
  have h := ((mid_perm A B l).map Nd.key).nodup_iff.1 hk
  simp only [List.map_cons, List.nodup_cons] at h
  have hne : ∀ n ∈ A ++ B, n.key ≠ l.key := fun n hn e => h.1 (List.mem_map.2 ⟨n, hn, e⟩)
  have hA : woM (absL A) l.key = absL A := List.filter_eq_self.2 fun m hm => by
    obtain ⟨n, hn, rfl⟩ := List.mem_map.1 hm
    exact decide_eq_true (show (absN n).1 ≠ l.key from hne n (by simp [hn]))
  have hB : woM (absL B) l.key = absL B := List.filter_eq_self.2 fun m hm => by
    obtain ⟨n, hn, rfl⟩ := List.mem_map.1 hm
    exact decide_eq_true (show (absN n).1 ≠ l.key from hne n (by simp [hn]))
  have h1 : absL (A ++ l :: B) = absL A ++ absN l :: absL B := by simp [absL]
  have h2 : (absN l).1 = l.key := rfl
  rw [h1, absL_app]
  unfold woM at hA hB ⊢
  rw [List.filter_append, List.filter_cons, hA, hB]
  simp [h2]

theorem wo_none {L : List Nd} {k : Key} (h : ∀ n ∈ L, n.key ≠ k) : woM (absL L) k = absL L := List.filter_eq_self.2 fun m hm => by
  obtain ⟨n, hn, rfl⟩ := List.mem_map.1 hm
  exact decide_eq_true (show (absN n).1 ≠ k from h n hn)

theorem findM_abs (L : List Nd) (k : Key) : (absL L).find? (fun m => m.1 = k) = (L.find? fun n => n.key = k).map absN := by
  unfold absL; rw [List.find?_map]; rfl

theorem find_none {L : List Nd} {k : Key} (h : ∀ n ∈ L, n.key ≠ k) : (absL L).find? (fun m => m.1 = k) = none := by
  rw [findM_abs, List.find?_eq_none.2 (fun n hn => by simpa using h n hn)]; rfl

theorem find_mid {A B : List Nd} {l : Nd} {k : Key} (hk : ((A ++ l :: B).map Nd.key).Nodup) (hl : l.key = k) : (absL (A ++ l :: B)).find? (fun m => m.1 = k) = some (absN l) := by
  subst hl
  rw [findM_abs]
  have h := ((mid_perm A B l).map Nd.key).nodup_iff.1 hk
  simp only [List.map_cons, List.nodup_cons] at h
  have : (A ++ l :: B).find? (fun n => decide (n.key = l.key)) = some l := by
    rw [List.find?_append, List.find?_eq_none.2 (fun n hn hd => h.1 (List.mem_map.2 ⟨n, by simp [hn], of_decide_eq_true hd⟩))]
    simp
  rw [this]; rfl

theorem PutAt.wo {L A B : List Nd} {k : Key} {l : Nd} (h : PutAt L k A B l) (hk : (L.map Nd.key).Nodup) : woM (absL L) k = absL (A ++ B) ∧ pinsM (absL L) k = l.pins := by
  rcases h with ⟨rfl, rfl⟩ | ⟨rfl, rfl, _, _, _, _, h5, h6⟩
  · refine ⟨wo_mid hk, ?_⟩
    unfold pinsM
    rw [find_mid hk rfl]; rfl
  · refine ⟨wo_none h6, ?_⟩
    unfold pinsM
    rw [find_none h6, h5]; rfl

/-- A cache, beside blocks of one's own; all were made behind w0. -/
structure CS (w0 : World) (L : List (Nat × Obj)) (c : Nat) (bud : Int) (M : List Blk) (w : World) : Prop where
  st : St None' w0 L w
  cm : ∃ e r N, CAt w c e r bud N ∧ absL N = M ∧ ∀ x ∈ fp c e r N, w0.heap.size ≤ x ∧ x ∉ L.map (·.1)
  bd : 0 ≤ bud ∧ bud ≤ 1048576
  le : totM M ≤ bud
  pins : ∀ m ∈ M, 0 ≤ m.2.2

section
variable {w0 w w1 : World} {L : List (Nat × Obj)} {c : Nat} {bud : Int} {M : List Blk}

theorem CS.at_ (h : CS w0 L c bud M w) (k : Nat) {b : Nat} {o : Obj} (hk : L[k]? = some (b, o)) : w.heap[b]? = some o := h.st.at_ k hk
theorem CS.frm (h : CS w0 L c bud M w) : New w0 w := h.st.frm

/-- What turns neither the cache nor what lay there. -/
theorem CS.step {L' : List (Nat × Obj)} (h : CS w0 L c bud M w) (hs : St None' w0 L' w1) (hk : ∀ x, x < w.heap.size → x ∉ L.map (·.1) → w1.heap[x]? = w.heap[x]?) (hL : ∀ x ∈ L'.map (·.1), x ∈ L.map (·.1) ∨ w.heap.size ≤ x) : CS w0 L' c bud M w1 := by
  obtain ⟨e, r, N, h1, h2, h3⟩ := h.cm
  refine ⟨hs, ⟨e, r, N, h1.same fun b hb => hk b (h1.lt b hb) (h3 b hb).2, h2, fun x hx => ⟨(h3 x hx).1, fun hm => ?_⟩⟩, h.bd, h.le, h.pins⟩
  rcases hL x hm with h4 | h4
  · exact (h3 x hx).2 h4
  · have := h1.lt x hx; omega

theorem CS.drew (h : CS w0 L c bud M w) (hw : w1 = w.drew) : CS w0 L c bud M w1 := h.step (h.st.drew hw) (fun x _ _ => hp_drew hw x) (fun x hx => .inl hx)
theorem CS.alloc (h : CS w0 L c bud M w) {o : Obj} {b : Nat} (hb : b = w.heap.size) (hw : w1 = w.alloc o) : CS w0 (L ++ [(b, o)]) c bud M w1 :=
  h.step (h.st.alloc hb hw) (fun x hx _ => by rw [hw, heap_alloc, if_neg (by omega)]) (fun x hx => by simp at hx ⊢; rcases hx with hx | hx; exact .inl hx; exact .inr (by omega))
theorem CS.put (h : CS w0 L c bud M w) (k : Nat) {b : Nat} {o0 o : Obj} (hk : L[k]? = some (b, o0)) (hw : w1 = w.putObj b o) : CS w0 (L.set k (b, o)) c bud M w1 :=
  h.step (h.st.put k hk hw) (fun x _ hx => hp_put hw (fun e => hx (e ▸ List.mem_map.2 ⟨_, List.mem_of_getElem? hk, rfl⟩))) (fun x hx => .inl (by
    obtain ⟨y, hy, rfl⟩ := List.mem_map.1 hx
    rcases List.mem_or_eq_of_mem_set hy with h1 | rfl
    · exact List.mem_map.2 ⟨y, h1, rfl⟩
    · exact List.mem_map.2 ⟨_, List.mem_of_getElem? hk, rfl⟩))
theorem CS.new (h : CS w0 L c bud M w) (hn : New w w1) : CS w0 L c bud M w1 := h.step (h.st.new hn) (fun x hx _ => hn.old x hx id) (fun x hx => .inl hx)
theorem CS.grow {L' : List (Nat × Obj)} (h : CS w0 L c bud M w) (hn : St None' w L' w1) : CS w0 (L ++ L') c bud M w1 :=
  h.step (h.st.grow hn) (fun x hx _ => hn.old x hx id) (fun x hx => by
    rw [List.map_append, List.mem_append] at hx
    refine hx.imp id fun h1 => ?_
    obtain ⟨y, hy, rfl⟩ := List.mem_map.1 h1
    exact (hn.own y hy).2.resolve_left id)
theorem CS.sub {L' : List (Nat × Obj)} (h : CS w0 L c bud M w) (hs : L'.Sublist L) : CS w0 L' c bud M w :=
  ⟨h.st.sub hs, let ⟨e, r, N, h1, h2, h3⟩ := h.cm; ⟨e, r, N, h1, h2, fun x hx => ⟨(h3 x hx).1, fun hm => (h3 x hx).2 ((hs.map _).subset hm)⟩⟩, h.bd, h.le, h.pins⟩

/-- Behind a call that turns the cache alone. -/
theorem CS.turn {e r : Nat} {N N' : List Nd} {bud : Int} {M' : List Blk} (h : CS w0 L c bud M w) (h1 : CAt w c e r bud N) (h3 : ∀ x ∈ fp c e r N, w0.heap.size ≤ x ∧ x ∉ L.map (·.1))
    (hF : Frm (InC c e r N) w w1) (hc : CAt w1 c e r bud N') (hfp : ∀ x ∈ fp c e r N', x ∈ fp c e r N ∨ w.heap.size ≤ x) (hb : 0 ≤ bud ∧ bud ≤ 1048576) (hM : absL N' = M') (hle : totM M' ≤ bud) (hp : ∀ m ∈ M', 0 ≤ m.2.2) : CS w0 L c bud M' w1 := by
  refine ⟨h.st.call hF (fun x hx hi => (h3 x.1 hi).2 (List.mem_map.2 ⟨x, hx, rfl⟩)) (fun b hb hlt => .inr (h3 b hb).1), ⟨e, r, N', hc, hM, fun x hx => ?_⟩, hb, hle, hp⟩
  rcases hfp x hx with h4 | h4
  · exact h3 x h4
  · refine ⟨Nat.le_trans h.st.size h4, fun hm => ?_⟩
    obtain ⟨y, hy, rfl⟩ := List.mem_map.1 hm
    have := (Array.getElem?_eq_some_iff.1 (h.st.own y hy).1).1
    omega

theorem evictM_sub (bud : Int) : ∀ (P K : List Blk), ∀ n ∈ evictM bud P K, n ∈ P.reverse ++ K
  | [], K, n, h => by simpa [evictM] using h
  | x :: P, K, n, h => by
    unfold evictM at h
    split at h
    · exact h
    · split at h
      · have := evictM_sub bud P K n h
        simp only [List.reverse_cons, List.mem_append, List.mem_singleton] at this ⊢
        rcases this with h1 | h1
        · exact .inl (.inl h1)
        · exact .inr h1
      · have := evictM_sub bud P (x :: K) n h
        simpa using this

theorem evictM_le (bud : Int) (l : Blk) : ∀ (P : List Blk) (K : List Blk), (∀ n ∈ P ++ K, 0 ≤ n.2.2) → (∀ n ∈ K, 0 < n.2.2) → (l.2.1.length : Int) + ((P ++ K).map fun n => if 0 < n.2.2 then (n.2.1.length : Int) else 0).sum ≤ bud → totM (evictM bud (P ++ [l]) K) ≤ bud
  | [], K, hp, hK, hle => by
    have e1 : (K.map fun n => if 0 < n.2.2 then (n.2.1.length : Int) else 0) = K.map fun n => (n.2.1.length : Int) := List.map_congr_left fun n hn => by rw [if_pos (hK n hn)]
    simp only [List.nil_append] at hle ⊢
    rw [e1] at hle
    unfold evictM
    have ht : totM ([l].reverse ++ K) ≤ bud := by simp only [List.reverse_singleton, List.singleton_append, totM, List.map_cons, List.sum_cons]; exact hle
    rw [if_pos ht]; exact ht
  | x :: P, K, hp, hK, hle => by
    rw [List.cons_append]
    unfold evictM
    split
    · assumption
    · split
      · rename_i h1 h2
        refine evictM_le bud l P K (fun n hn => hp n (by simp at hn ⊢; exact .inr hn)) hK ?_
        simp only [List.cons_append, List.map_cons, List.sum_cons, h2.2, Int.lt_irrefl, if_false] at hle
        omega
      · rename_i h1 h2
        have hx : 0 < x.2.2 := by
          have h3 := hp x (by simp)
          have : ¬ x.2.2 = 0 := fun h4 => h2 ⟨by simp, h4⟩
          omega
        refine evictM_le bud l P (x :: K) (fun n hn => hp n (by simp at hn ⊢; rcases hn with h | h | h <;> simp [h])) (fun n hn => ?_) ?_
        · rcases List.mem_cons.1 hn with rfl | hn
          · exact hx
          · exact hK n hn
        · have e2 : ∀ (g : Blk → Int), ((P ++ x :: K).map g).sum = (((x :: P) ++ K).map g).sum := fun g => by
            refine perm_sum (List.Perm.map g ?_)
            exact List.perm_middle
          rw [e2]; exact hle

theorem heldM_wo (M : List Blk) (k : Key) : heldM M k = ((woM M k).map fun n => if 0 < n.2.2 then (n.2.1.length : Int) else 0).sum := by
  induction M with
  | nil => rfl
  | cons m M ih =>
    unfold heldM woM at *
    simp only [List.map_cons, List.sum_cons, List.filter_cons]
    by_cases h : m.1 = k
    · simp only [h, ne_eq, not_true_eq_false, and_false, if_false, decide_false, Bool.false_eq_true]; rw [← ih]; simp
    · simp only [h, ne_eq, not_false_eq_true, and_true, decide_true, if_true, List.map_cons, List.sum_cons]; rw [← ih]

theorem pinsM_nn {M : List Blk} (h : ∀ m ∈ M, 0 ≤ m.2.2) (k : Key) : 0 ≤ pinsM M k := by
  unfold pinsM
  cases hf : M.find? fun m => m.1 = k with
  | none => exact Int.le_refl _
  | some m => exact h m (List.mem_of_find?_eq_some hf)

theorem putM_le {bud : Int} {M : List Blk} {k : Key} {b : List UInt8} (hle : totM M ≤ bud) (hp : ∀ m ∈ M, 0 ≤ m.2.2) : totM (putM bud M k b).1 ≤ bud ∧ ∀ m ∈ (putM bud M k b).1, 0 ≤ m.2.2 := by
  unfold putM
  split
  · exact ⟨hle, hp⟩
  · split
    · exact ⟨hle, hp⟩
    · rename_i h1 h2
      have hwo : ∀ m ∈ woM M k, 0 ≤ m.2.2 := fun m hm => hp m (List.mem_filter.1 hm).1
      refine ⟨?_, fun m hm => ?_⟩
      · rw [List.reverse_cons]
        refine evictM_le bud (k, b, pinsM M k) _ [] (fun n hn => hwo n (by simpa using hn)) (by simp) ?_
        have e1 : ((woM M k).reverse.map fun n => if 0 < n.2.2 then (n.2.1.length : Int) else 0).sum = heldM M k := by
          rw [heldM_wo]
          exact perm_sum (List.Perm.map _ (List.reverse_perm _))
        rw [List.append_nil, e1]
        simp only
        omega
      · have := evictM_sub _ _ _ m hm
        simp only [List.reverse_reverse, List.append_nil, List.mem_cons] at this
        rcases this with rfl | h3
        · exact pinsM_nn hp k
        · exact hwo m h3

/-- Put. -/
theorem CS.opPut (h : CS w0 L c bud M w) {k : Key} {sv : Value} {b : List UInt8} (hb : BytesIn w sv b) (hblk : b ≠ [] → ∀ g, blkOf sv = some g → g < w0.heap.size ∨ g ∈ L.map (·.1)) (hlen : b.length ≤ 1099511627776) :
    Ret Try.prog 10 #[ptr c, encK k, sv] w fun v w' => v = .int .i64 (putM bud M k b).2 ∧ CS w0 L c bud (putM bud M k b).1 w' := by
  obtain ⟨e, r, N, h1, rfl, h3⟩ := h.cm
  have hle := h.le
  refine (put_c h1 hb (fun hne g hg hm => ?_) hlen h.bd (by rw [← totM_abs]; exact hle)).mono ?_
  · rcases hblk hne g hg with h4 | h4
    · have := (h3 g hm).1; omega
    · exact (h3 g hm).2 h4
  · have hpl := putM_le (k := k) (b := b) hle h.pins
    rintro v w' (⟨g1, rfl, hn⟩ | ⟨g1, g2, rfl, hn⟩ | ⟨g1, g2, rfl, A, B, l1, l2, hput, g3, g4, g5, g6, hc, hF, hfp⟩)
    · have : putM bud (absL N) k b = (absL N, 2) := by unfold putM; rw [if_pos g1]
      rw [this]; exact ⟨rfl, h.new hn⟩
    · have : putM bud (absL N) k b = (absL N, 7) := by unfold putM; rw [if_neg (by omega), if_pos (by rw [heldM_abs]; exact g2)]
      rw [this]; exact ⟨rfl, h.new hn⟩
    · have hwo := hput.wo h1.keys
      have e1 : absL (l2 :: (A ++ B)) = (k, b, pinsM (absL N) k) :: woM (absL N) k := by
        rw [hwo.1, hwo.2]
        show absN l2 :: _ = _
        unfold absN
        rw [g5, g6]
        congr 2
        exact Prod.ext g3 g4
      have e2 : putM bud (absL N) k b = (absL (evict bud (l2 :: (A ++ B)).reverse []), 0) := by
        unfold putM
        rw [if_neg (by omega), if_neg (by rw [heldM_abs]; omega), ← evictM_abs, ← e1]
        simp [absL]
      rw [e2] at hpl ⊢
      refine ⟨rfl, h.turn h1 h3 hF hc (fun x hx => hfp x (fp_sub (fun n hn => ?_) x hx)) h.bd rfl hpl.1 hpl.2⟩
      have := evict_sub _ _ _ n hn
      simpa using this
end
end Go.Proofs.Ytbbccdcjhoecpaa

namespace Go.Proofs.Ytbbccdcjhoecpaa
open Go Go.Fw Go.RowKit Go.Proofs
set_option linter.unusedVariables false
set_option linter.unusedSimpArgs false

def keyM (M : List Blk) : List Value := M.flatMap fun m => [.string m.1.1, .int .i64 m.1.2]

theorem keyM_abs (N : List Nd) : keyM (absL N) = keyCells N := by
  induction N with
  | nil => rfl
  | cons n N ih => simp only [absL, List.map_cons, keyM, List.flatMap_cons, keyCells] at ih ⊢; rw [ih]; rfl

theorem getM_mid {A B : List Nd} {l : Nd} {k : Key} (hk : ((A ++ l :: B).map Nd.key).Nodup) (hl : l.key = k) : getM (absL (A ++ l :: B)) k = (absL (l :: (A ++ B)), some l.b) := by
  unfold getM
  rw [find_mid hk hl]
  subst hl
  simp only [wo_mid hk]
  rfl
theorem getM_none {L : List Nd} {k : Key} (h : ∀ n ∈ L, n.key ≠ k) : getM (absL L) k = (absL L, none) := by
  unfold getM
  rw [find_none h]

theorem split_key (N : List Nd) (k : Key) : (∀ n ∈ N, n.key ≠ k) ∨ ∃ A l B, N = A ++ l :: B ∧ l.key = k := by
  cases hf : (findK N k).isSome with
  | false => exact .inl (findK_none hf).1
  | true => obtain ⟨A, l, B, h1, h2, _⟩ := findK_some hf; exact .inr ⟨A, l, B, h1, h2⟩

theorem getM_tot {M : List Blk} {k : Key} (hk : (M.map (·.1)).Nodup) : totM (getM M k).1 = totM M ∧ ∀ m, m ∈ (getM M k).1 → m ∈ M := by
  unfold getM
  cases hf : M.find? fun m => m.1 = k with
  | none => exact ⟨rfl, fun _ h => h⟩
  | some m =>
    obtain ⟨h1, A, B, rfl, h2⟩ := List.find?_eq_some_iff_append.1 hf
    have h1 : m.1 = k := by simpa using h1
    subst h1
    have hp : (A ++ m :: B).Perm (m :: (A ++ B)) := List.perm_middle
    have hn := (hp.map (·.1)).nodup_iff.1 hk
    simp only [List.map_cons, List.nodup_cons] at hn
    have hwo : woM (A ++ m :: B) m.1 = A ++ B := by
      have g1 : ∀ x ∈ A ++ B, x.1 ≠ m.1 := fun x hx e => hn.1 (List.mem_map.2 ⟨x, hx, e⟩)
      unfold woM
      rw [List.filter_append, List.filter_cons]
      rw [List.filter_eq_self.2 (fun x hx => decide_eq_true (g1 x (by simp [hx]))), List.filter_eq_self.2 (fun x hx => decide_eq_true (g1 x (by simp [hx])))]
      simp
    simp only [hwo]
    refine ⟨?_, fun x hx => hp.mem_iff.2 hx⟩
    exact (perm_sum (hp.map fun m => (m.2.1.length : Int))).symm

section
variable {w0 w w1 : World} {L : List (Nat × Obj)} {c : Nat} {bud : Int} {M : List Blk}

theorem CS.keys (h : CS w0 L c bud M w) : (M.map (·.1)).Nodup := by
  obtain ⟨e, r, N, h1, rfl, _⟩ := h.cm
  have := h1.keys
  unfold absL
  rw [List.map_map]
  exact this

/-- A block that the cache does not hold. -/
theorem CS.own (h : CS w0 L c bud M w) {g : Nat} {o : Obj} (hg : w.heap[g]? = some o) (h0 : w0.heap.size ≤ g) (hL : g ∉ L.map (·.1)) (hc : ∀ e r N, CAt w c e r bud N → absL N = M → (∀ x ∈ fp c e r N, w0.heap.size ≤ x ∧ x ∉ L.map (·.1)) → ∃ e r N, CAt w c e r bud N ∧ absL N = M ∧ ∀ x ∈ fp c e r N, (w0.heap.size ≤ x ∧ x ∉ L.map (·.1)) ∧ x ≠ g) : CS w0 (L ++ [(g, o)]) c bud M w := by
  obtain ⟨e, r, N, h1, h2, h3⟩ := h.cm
  obtain ⟨e, r, N, h1, h2, h3⟩ := hc e r N h1 h2 h3
  refine ⟨?_, ⟨e, r, N, h1, h2, fun x hx => ?_⟩, h.bd, h.le, h.pins⟩
  · refine h.st.join (L' := [(g, o)]) ⟨h.st.size, h.st.old, by simp, fun x hx => by simp at hx; subst hx; exact ⟨hg, .inr h0⟩, h.st.os, h.st.tape, h.st.output⟩ (fun x hx y hy e1 => ?_)
    simp at hy
    subst hy
    exact hL (List.mem_map.2 ⟨x, hx, e1⟩)
  · obtain ⟨⟨g1, g2⟩, g3⟩ := h3 x hx
    refine ⟨g1, fun hm => ?_⟩
    simp at hm
    rcases hm with hm | hm
    · exact g2 (by simpa using hm)
    · exact g3 hm

theorem CS.opSize (h : CS w0 L c bud M w) : Ret Try.prog 15 #[ptr c] w fun v w' => v = .int .i64 (totM M) ∧ w = w' := by
  obtain ⟨e, r, N, h1, rfl, h3⟩ := h.cm
  rw [totM_abs]
  exact size_c h1

theorem CS.opKeys (h : CS w0 L c bud M w) (hlen : M.length ≤ 1000000) : Ret Try.prog 12 #[ptr c] w fun v w' => OwS w' v 2 M.length (keyM M) ∧ New w w' ∧ CS w0 L c bud M w' ∧ (∀ g, blkOf v = some g → w.heap.size ≤ g ∧ ∀ o, w'.heap[g]? = some o → CS w0 (L ++ [(g, o)]) c bud M w') := by
  obtain ⟨e, r, N, h1, h2, h3⟩ := h.cm
  have hl : N.length = M.length := by rw [← h2]; simp [absL]
  refine (keys_c h1 (by omega)).mono ?_
  rintro v w' ⟨g1, g2, g3⟩
  rw [← h2, keyM_abs]
  have hcs : CS w0 L c bud (absL N) w' := by rw [h2]; exact h.new g2
  refine ⟨by simpa [absL] using g1, g2, hcs, fun g hg => ⟨g3 g hg, fun o ho => ?_⟩⟩
  have hg0 := g3 g hg
  refine hcs.own ho (Nat.le_trans h.st.size hg0) (fun hm => ?_) (fun _ _ _ _ _ _ => ⟨e, r, N, h1.new g2, rfl, fun x hx => ⟨h3 x hx, by have := h1.lt x hx; omega⟩⟩)
  obtain ⟨y, hy, e1⟩ := List.mem_map.1 hm
  have := (Array.getElem?_eq_some_iff.1 (h.st.own y hy).1).1
  omega

theorem CS.opPins (h : CS w0 L c bud M w) (k : Key) : Ret Try.prog 22 #[ptr c, encK k] w fun v w' => v = .int .i64 (pinsM M k) ∧ CS w0 L c bud M w' := by
  obtain ⟨e, r, N, h1, rfl, h3⟩ := h.cm
  rcases split_key N k with hk | ⟨A, l, B, rfl, hk⟩
  · refine (pins_none h1 hk).mono ?_
    rintro v w' ⟨rfl, hn⟩
    refine ⟨?_, h.new hn⟩
    unfold pinsM
    rw [find_none hk]; rfl
  · refine (pins_some h1 hk).mono ?_
    rintro v w' ⟨rfl, hn⟩
    refine ⟨?_, h.new hn⟩
    unfold pinsM
    rw [find_mid h1.keys hk]; rfl

theorem fp_perm_sub {e r : Nat} {N N' : List Nd} (hp : N.Perm N') {x : Nat} (h : x ∈ fp c e r N') : x ∈ fp c e r N := (perm_fp hp).mem_iff.2 h

theorem CS.opGet (h : CS w0 L c bud M w) (k : Key) : Ret Try.prog 16 #[ptr c, encK k] w fun v w' => CS w0 L c bud (getM M k).1 w' ∧ match (getM M k).2 with
    | none => v = .tuple #[.slice none 0 0, .bool false]
    | some b => ∃ sv, v = .tuple #[sv, .bool true] ∧ BytesAt w' sv b ∧ b.length ≤ 4096 ∧ ∀ g, blkOf sv = some g → w.heap.size ≤ g ∧ ∀ o, w'.heap[g]? = some o → CS w0 (L ++ [(g, o)]) c bud (getM M k).1 w' := by
  have hkeys := h.keys
  obtain ⟨e, r, N, h1, rfl, h3⟩ := h.cm
  have hgt := getM_tot (k := k) hkeys
  rcases split_key N k with hk | ⟨A, l, B, rfl, hk⟩
  · refine (get_none h1 hk).mono ?_
    rintro v w' ⟨rfl, hn⟩
    rw [getM_none hk]
    exact ⟨h.new hn, rfl⟩
  · refine (get_some h1 hk).mono ?_
    rintro v w' ⟨sv, rfl, g1, g2, g3, g4⟩
    rw [getM_mid h1.keys hk] at hgt ⊢
    have hcs : CS w0 L c bud (absL (l :: (A ++ B))) w' := h.turn h1 h3 (Frm.sub g4 (fun b hb => hb.fp)) g3 (fun x hx => .inl (fp_perm_sub (mid_perm A B l) hx)) h.bd rfl (by rw [hgt.1]; exact h.le) (fun m hm => h.pins m (hgt.2 m hm))
    refine ⟨hcs, sv, rfl, g1, h1.len l (by simp), fun g hg => ⟨g2 g hg, fun o ho => ?_⟩⟩
    have hg0 := g2 g hg
    refine hcs.own ho (Nat.le_trans h.st.size hg0) (fun hm => ?_) (fun _ _ _ _ _ _ => ⟨e, r, _, g3, rfl, fun x hx => ?_⟩)
    · obtain ⟨y, hy, e1⟩ := List.mem_map.1 hm
      have := (Array.getElem?_eq_some_iff.1 (h.st.own y hy).1).1
      omega
    · have h5 := fp_perm_sub (mid_perm A B l) hx
      have := h1.lt x h5
      exact ⟨h3 x h5, by omega⟩

theorem map_mid {A B : List Nd} {l : Nd} {k : Key} (hk : ((A ++ l :: B).map Nd.key).Nodup) (hl : l.key = k) (q : Int) : ((absL (A ++ l :: B)).map fun x => if x.1 = k then (x.1, x.2.1, x.2.2 + q) else x) = absL (A ++ { l with pins := l.pins + q } :: B) := by
  subst hl
  have h := ((mid_perm A B l).map Nd.key).nodup_iff.1 hk
  simp only [List.map_cons, List.nodup_cons] at h
  have hne : ∀ n ∈ A ++ B, n.key ≠ l.key := fun n hn e => h.1 (List.mem_map.2 ⟨n, hn, e⟩)
  have hm : ∀ X : List Nd, (∀ n ∈ X, n ∈ A ++ B) → ((absL X).map fun x => if x.1 = l.key then (x.1, x.2.1, x.2.2 + q) else x) = absL X := fun X hX => by
    unfold absL
    rw [List.map_map]
    refine List.map_congr_left fun n hn => ?_
    simp only [Function.comp]
    rw [if_neg (show ¬ (absN n).1 = l.key from hne n (hX n hn))]
  have h1 : absL (A ++ l :: B) = absL A ++ absN l :: absL B := by simp [absL]
  have h2 : absL (A ++ { l with pins := l.pins + q } :: B) = absL A ++ absN { l with pins := l.pins + q } :: absL B := by simp [absL]
  have h3 : (absN l).1 = l.key := rfl
  rw [h1, h2, List.map_append, List.map_cons, hm A (fun n hn => by simp [hn]), hm B (fun n hn => by simp [hn]), if_pos h3]
  rfl

theorem pin_any {by' : Int} {f : FuncId} (hby : by' = 1 ∨ by' = -1)
    (hN : ∀ {w : World} {c e r : Nat} {bud : Int} {L : List Nd} {k : Key}, CAt w c e r bud L → (∀ n ∈ L, n.key ≠ k) → Ret Try.prog f #[ptr c, encK k] w fun v w' => v = .int .i64 9 ∧ New w w')
    (hS : ∀ {w : World} {c e r : Nat} {bud : Int} {A B : List Nd} {l : Nd} {k : Key}, CAt w c e r bud (A ++ l :: B) → l.key = k → 0 ≤ l.pins ∧ l.pins < 1000000000 → Ret Try.prog f #[ptr c, encK k] w fun v w' => (l.pins + by' < 0 ∧ v = .int .i64 2 ∧ New w w') ∨ (0 ≤ l.pins + by' ∧ v = .int .i64 0 ∧ CAt w' c e r bud (A ++ { l with pins := l.pins + by' } :: B) ∧ Frm (fun b => b = l.id) w w'))
    (h : CS w0 L c bud M w) (k : Key) (hp : ∀ m ∈ M, m.2.2 < 1000000000) : Ret Try.prog f #[ptr c, encK k] w fun v w' => v = .int .i64 (pinM M k by').2 ∧ CS w0 L c bud (pinM M k by').1 w' := by
  obtain ⟨e, r, N, h1, rfl, h3⟩ := h.cm
  rcases split_key N k with hk | ⟨A, l, B, rfl, hk⟩
  · refine (hN h1 hk).mono ?_
    rintro v w' ⟨rfl, hn⟩
    have : pinM (absL N) k by' = (absL N, 9) := by unfold pinM; rw [find_none hk]
    rw [this]
    exact ⟨rfl, h.new hn⟩
  · have hlm : absN l ∈ absL (A ++ l :: B) := List.mem_map.2 ⟨l, by simp, rfl⟩
    refine (hS h1 hk ⟨h.pins _ hlm, hp _ hlm⟩).mono ?_
    have hf := find_mid h1.keys hk
    rintro v w' (⟨g1, rfl, hn⟩ | ⟨g1, rfl, g3, g4⟩)
    · have : pinM (absL (A ++ l :: B)) k by' = (absL (A ++ l :: B), 2) := by unfold pinM; rw [hf]; simp only; rw [if_pos (show (absN l).2.2 + by' < 0 from g1)]
      rw [this]
      exact ⟨rfl, h.new hn⟩
    · have e1 : pinM (absL (A ++ l :: B)) k by' = (absL (A ++ { l with pins := l.pins + by' } :: B), 0) := by
        unfold pinM; rw [hf]; simp only
        rw [if_neg (show ¬ (absN l).2.2 + by' < 0 by show ¬ l.pins + by' < 0; omega), map_mid h1.keys hk]
      rw [e1]
      refine ⟨rfl, h.turn h1 h3 (Frm.sub g4 (fun b hb => by rw [hb]; exact InRing.fp (by simp [InRing, ids]))) g3 (fun x hx => .inl ?_) h.bd rfl ?_ (fun m hm => ?_)⟩
      · have i1 : ids (A ++ { l with pins := l.pins + by' } :: B) = ids (A ++ l :: B) := by simp [ids]
        have i2 : blks (A ++ { l with pins := l.pins + by' } :: B) = blks (A ++ l :: B) := by simp only [blks, List.filterMap_append, List.filterMap_cons]
        unfold fp at hx ⊢
        rw [i1, i2] at hx
        exact hx
      · have := h.le
        rw [totM_abs] at this ⊢
        have e2 : tot (A ++ { l with pins := l.pins + by' } :: B) = tot (A ++ l :: B) := by simp [tot]
        rw [e2]; exact this
      · obtain ⟨n, hn, rfl⟩ := List.mem_map.1 hm
        simp only [List.mem_append, List.mem_cons] at hn
        rcases hn with hn | rfl | hn
        · exact h.pins _ (List.mem_map.2 ⟨n, by simp [hn], rfl⟩)
        · exact g1
        · exact h.pins _ (List.mem_map.2 ⟨n, by simp [hn], rfl⟩)

theorem CS.opPin (h : CS w0 L c bud M w) (k : Key) (hp : ∀ m ∈ M, m.2.2 < 1000000000) : Ret Try.prog 20 #[ptr c, encK k] w fun v w' => v = .int .i64 (pinM M k 1).2 ∧ CS w0 L c bud (pinM M k 1).1 w' :=
  pin_any (.inl rfl) pinP_none pinP_some h k hp
theorem CS.opUnpin (h : CS w0 L c bud M w) (k : Key) (hp : ∀ m ∈ M, m.2.2 < 1000000000) : Ret Try.prog 21 #[ptr c, encK k] w fun v w' => v = .int .i64 (pinM M k (-1)).2 ∧ CS w0 L c bud (pinM M k (-1)).1 w' :=
  pin_any (.inr rfl) unpin_none unpin_some h k hp

theorem totM_sub (M : List Blk) (q : Blk → Bool) : totM (M.filter q) ≤ totM M := by
  induction M with
  | nil => exact Int.le_refl _
  | cons m M ih =>
    unfold totM at *
    rw [List.filter_cons]
    split <;> simp only [List.map_cons, List.sum_cons] <;> omega

theorem CS.opDrop (h : CS w0 L c bud M w) (f : ByteArray) (hlen : M.length ≤ 1000000) : Ret Try.prog 23 #[ptr c, .string f] w fun v w' => v = .int .i64 ((M.length - (dropM M f).length : Nat) : Int) ∧ CS w0 L c bud (dropM M f) w' := by
  obtain ⟨e, r, N, h1, rfl, h3⟩ := h.cm
  have e1 : dropM (absL N) f = absL (notIn N f) := by
    unfold dropM absL notIn
    rw [List.filter_map]; rfl
  have hle := h.le
  refine (drop_c (f := f) h1 (by simpa [absL] using hlen)).mono ?_
  rintro v w' ⟨rfl, g1, g2⟩
  rw [e1]
  refine ⟨by simp [absL], h.turn h1 h3 g2 g1 (fun x hx => .inl (fp_sub (fun n hn => notIn_mem hn) x hx)) h.bd rfl ?_ (fun m hm => ?_)⟩
  · rw [← e1]; exact Int.le_trans (totM_sub _ _) hle
  · obtain ⟨n, hn, rfl⟩ := List.mem_map.1 hm
    exact h.pins _ (List.mem_map.2 ⟨n, notIn_mem hn, rfl⟩)

/-- New. -/
theorem opNew {w0 w : World} {L : List (Nat × Obj)} {bud : Int} (h : St None' w0 L w) (hb : 0 ≤ bud ∧ bud ≤ 1048576) : Ret Try.prog 9 #[.int .i64 bud] w fun v w' => ∃ c, v = .tuple #[ptr c, .int .i64 0] ∧ CS w0 L c bud [] w' := by
  refine (new_ok hb).mono ?_
  rintro v w' ⟨c, e, r, rfl, g1, g2, g3⟩
  refine ⟨c, rfl, h.new g2, ⟨e, r, [], g1, rfl, fun x hx => ⟨Nat.le_trans h.size (g3 x hx), fun hm => ?_⟩⟩, hb, by simpa [totM] using hb.1, by simp⟩
  obtain ⟨y, hy, rfl⟩ := List.mem_map.1 hm
  have := (Array.getElem?_eq_some_iff.1 (h.own y hy).1).1
  have := g3 _ hx
  omega
end
end Go.Proofs.Ytbbccdcjhoecpaa

namespace Go.Proofs.Ytbbccdcjhoecpaa
open Go Go.Fw Go.RowKit Go.Proofs

-- (*valise/cache.Cache).Get
set_option maxRecDepth 100000 in
theorem getN_nil {w : World} {k : Key} : Ret Try.prog 16 #[.pointer none, encK k] w fun v w' => v = .tuple #[.slice none 0 0, .bool false] ∧ New w w' := by
  have M : St None' w [] w := Frm.refl _ _
  refine Ret.of_W Try.func16 rfl Try.ntmps16 rfl ?_
  refine W.seq ?_
  refine W.sub [(0, _), (1, _)] ⟨rfl, rfl, trivial⟩ ?_
  refine W.reg [(0, true), (1, false), (2, false)] (by kernel_rfl) ?_ -- region 0
  intro K hK
  refine x_box [_, _] rfl rfl rfl rfl rfl ?_ -- bx1 cache.go:100
  intro bbx1 wbx1 hbbx1 hwbx1
  have M := M.alloc hbbx1 hwbx1
  refine ⟨trivial, ?_⟩
  refine x_assign rfl rfl rfl rfl ?_
  refine x_assign rfl rfl rfl rfl ?_
  refine Ex.done (hK _ _ ?_)
  refine At.then_n ?_
  refine W.seq ?_
  refine W.seq ?_
  refine W.sub [(0, _), (3, _), (4, _), (5, _)] ⟨rfl, rfl, rfl, rfl, trivial⟩ ?_
  refine W.reg [(0, false), (1, true), (2, false)] (by kernel_rfl) ?_ -- region 1
  intro K hK
  refine x_move rfl rfl rfl rfl ?_
  -- call1: (*valise/cache.Cache).made cache.go:101
  refine x_call rfl rfl rfl rfl rfl en25 (made_nil) ?_
  rintro v w1 ⟨rfl, rfl⟩
  refine ⟨trivial, ?_⟩
  refine x_not true rfl rfl rfl rfl rfl ?_ -- un1 cache.go:101
  refine Ex.done (hK _ _ ?_)
  refine At.then_n ?_
  refine W.condT rfl ?_ -- co1
  refine W.seq ?_
  refine W.sub [(0, _), (3, _), (4, _), (5, _)] ⟨rfl, rfl, rfl, rfl, trivial⟩ ?_
  refine W.reg [(0, false), (1, false)] (by kernel_rfl) ?_ -- region 2
  intro K hK
  refine x_assign rfl rfl rfl rfl ?_
  refine x_assign rfl rfl rfl rfl ?_
  refine Ex.done (hK _ _ ?_)
  refine At.then_n ?_
  refine W.ret ?_
  refine At.then_r ?_
  refine At.ret2 (.tmp 4) (.tmp 5) rfl ⟨rfl, rfl, trivial⟩ ?_ -- ret1
  exact ⟨rfl, M.frm⟩

-- (*valise/cache.Cache).Get
set_option maxRecDepth 100000 in
theorem getN_un {w : World} {c : Nat} {x y z : Value} {T : TypeId} {k : Key} (hc : w.heap[c]? = some (.cells [x, y, z, .map none].toArray T (0, 0))) : Ret Try.prog 16 #[.pointer (some ⟨c, 0, none⟩), encK k] w fun v w' => v = .tuple #[.slice none 0 0, .bool false] ∧ New w w' := by
  have M : St None' w [] w := Frm.refl _ _
  refine Ret.of_W Try.func16 rfl Try.ntmps16 rfl ?_
  refine W.seq ?_
  refine W.sub [(0, _), (1, _)] ⟨rfl, rfl, trivial⟩ ?_
  refine W.reg [(0, true), (1, false), (2, false)] (by kernel_rfl) ?_ -- region 0
  intro K hK
  refine x_box [_, _] rfl rfl rfl rfl rfl ?_ -- bx1 cache.go:100
  intro bbx1 wbx1 hbbx1 hwbx1
  have M := M.alloc hbbx1 hwbx1
  refine ⟨trivial, ?_⟩
  refine x_assign rfl rfl rfl rfl ?_
  refine x_assign rfl rfl rfl rfl ?_
  refine Ex.done (hK _ _ ?_)
  refine At.then_n ?_
  refine W.seq ?_
  refine W.seq ?_
  refine W.sub [(0, _), (3, _), (4, _), (5, _)] ⟨rfl, rfl, rfl, rfl, trivial⟩ ?_
  refine W.reg [(0, false), (1, true), (2, false)] (by kernel_rfl) ?_ -- region 1
  intro K hK
  refine x_move rfl rfl rfl rfl ?_
  -- call1: (*valise/cache.Cache).made cache.go:101
  refine x_call rfl rfl rfl rfl rfl en25 (made_un (New.keep M.frm hc)) ?_
  rintro v w1 ⟨rfl, rfl⟩
  refine ⟨trivial, ?_⟩
  refine x_not true rfl rfl rfl rfl rfl ?_ -- un1 cache.go:101
  refine Ex.done (hK _ _ ?_)
  refine At.then_n ?_
  refine W.condT rfl ?_ -- co1
  refine W.seq ?_
  refine W.sub [(0, _), (3, _), (4, _), (5, _)] ⟨rfl, rfl, rfl, rfl, trivial⟩ ?_
  refine W.reg [(0, false), (1, false)] (by kernel_rfl) ?_ -- region 2
  intro K hK
  refine x_assign rfl rfl rfl rfl ?_
  refine x_assign rfl rfl rfl rfl ?_
  refine Ex.done (hK _ _ ?_)
  refine At.then_n ?_
  refine W.ret ?_
  refine At.then_r ?_
  refine At.ret2 (.tmp 4) (.tmp 5) rfl ⟨rfl, rfl, trivial⟩ ?_ -- ret1
  exact ⟨rfl, M.frm⟩

-- (*valise/cache.Cache).Put
set_option maxRecDepth 100000 in
theorem putN_nil {w : World} {k : Key} {sv : Value} : Ret Try.prog 10 #[.pointer none, encK k, sv] w fun v w' => v = .int .i64 1 ∧ New w w' := by
  have M : St None' w [] w := Frm.refl _ _
  refine Ret.of_W Try.func10 rfl Try.ntmps10 rfl ?_
  refine W.seq ?_
  refine W.sub [(0, _), (1, _), (2, _)] ⟨rfl, rfl, rfl, trivial⟩ ?_
  refine W.reg [(0, true), (1, true), (2, false)] (by kernel_rfl) ?_ -- region 0
  intro K hK
  refine x_box [_] rfl rfl rfl rfl rfl ?_ -- bx1 cache.go:124
  intro bbx1 wbx1 hbbx1 hwbx1
  have M := M.alloc hbbx1 hwbx1
  refine ⟨trivial, ?_⟩
  refine x_box [_, _] rfl rfl rfl rfl rfl ?_ -- bx2 cache.go:124
  intro bbx2 wbx2 hbbx2 hwbx2
  have M := M.alloc hbbx2 hwbx2
  refine ⟨trivial, ?_⟩
  refine x_assign rfl rfl rfl rfl ?_
  refine Ex.done (hK _ _ ?_)
  refine At.then_n ?_
  refine W.seq ?_
  refine W.block ?_
  refine W.seq ?_
  refine W.sub [(2, _), (3, _), (4, _), (6, _)] ⟨rfl, rfl, rfl, rfl, trivial⟩ ?_
  refine W.reg [(0, false), (1, true), (2, false), (3, false)] (by kernel_rfl) ?_ -- region 1
  intro K hK
  refine x_ld rfl rfl rfl Try.underlying23 rfl rfl (cell_of (by first | exact M.at_ 0 rfl | exact M.at_ 1 rfl | exact M.at_ 2 rfl | exact M.at_ 3 rfl | exact M.at_ 4 rfl | exact M.at_ 5 rfl) rfl) ?_ -- ld1 cache.go:126
  -- call1: (*valise/cache.Cache).made cache.go:126
  refine x_call rfl rfl rfl rfl rfl en25 (made_nil) ?_
  rintro v w1 ⟨rfl, rfl⟩
  refine ⟨trivial, ?_⟩
  refine x_not true rfl rfl rfl rfl rfl ?_ -- un1 cache.go:126
  refine x_assign rfl rfl rfl rfl ?_
  refine Ex.done (hK _ _ ?_)
  refine At.then_n ?_
  refine W.condT rfl ?_ -- co1
  refine W.seq ?_
  refine W.sub [(2, _), (3, _), (4, _), (6, _)] ⟨rfl, rfl, rfl, rfl, trivial⟩ ?_
  refine W.reg [(0, false)] (by kernel_rfl) ?_ -- region 2
  intro K hK
  refine x_assign rfl rfl rfl rfl ?_
  refine Ex.done (hK _ _ ?_)
  refine At.then_n ?_
  refine W.ret ?_
  refine At.blk_r ?_
  refine At.then_r ?_
  refine At.ret1 (.tmp 6) rfl ⟨rfl, trivial⟩ ?_ -- ret1
  exact ⟨rfl, M.frm⟩

-- (*valise/cache.Cache).Put
set_option maxRecDepth 100000 in
theorem putN_un {w : World} {c : Nat} {x y z : Value} {T : TypeId} {k : Key} {sv : Value} (hc : w.heap[c]? = some (.cells [x, y, z, .map none].toArray T (0, 0))) : Ret Try.prog 10 #[.pointer (some ⟨c, 0, none⟩), encK k, sv] w fun v w' => v = .int .i64 1 ∧ New w w' := by
  have M : St None' w [] w := Frm.refl _ _
  refine Ret.of_W Try.func10 rfl Try.ntmps10 rfl ?_
  refine W.seq ?_
  refine W.sub [(0, _), (1, _), (2, _)] ⟨rfl, rfl, rfl, trivial⟩ ?_
  refine W.reg [(0, true), (1, true), (2, false)] (by kernel_rfl) ?_ -- region 0
  intro K hK
  refine x_box [_] rfl rfl rfl rfl rfl ?_ -- bx1 cache.go:124
  intro bbx1 wbx1 hbbx1 hwbx1
  have M := M.alloc hbbx1 hwbx1
  refine ⟨trivial, ?_⟩
  refine x_box [_, _] rfl rfl rfl rfl rfl ?_ -- bx2 cache.go:124
  intro bbx2 wbx2 hbbx2 hwbx2
  have M := M.alloc hbbx2 hwbx2
  refine ⟨trivial, ?_⟩
  refine x_assign rfl rfl rfl rfl ?_
  refine Ex.done (hK _ _ ?_)
  refine At.then_n ?_
  refine W.seq ?_
  refine W.block ?_
  refine W.seq ?_
  refine W.sub [(2, _), (3, _), (4, _), (6, _)] ⟨rfl, rfl, rfl, rfl, trivial⟩ ?_
  refine W.reg [(0, false), (1, true), (2, false), (3, false)] (by kernel_rfl) ?_ -- region 1
  intro K hK
  refine x_ld rfl rfl rfl Try.underlying23 rfl rfl (cell_of (by first | exact M.at_ 0 rfl | exact M.at_ 1 rfl | exact M.at_ 2 rfl | exact M.at_ 3 rfl | exact M.at_ 4 rfl | exact M.at_ 5 rfl) rfl) ?_ -- ld1 cache.go:126
  -- call1: (*valise/cache.Cache).made cache.go:126
  refine x_call rfl rfl rfl rfl rfl en25 (made_un (New.keep M.frm hc)) ?_
  rintro v w1 ⟨rfl, rfl⟩
  refine ⟨trivial, ?_⟩
  refine x_not true rfl rfl rfl rfl rfl ?_ -- un1 cache.go:126
  refine x_assign rfl rfl rfl rfl ?_
  refine Ex.done (hK _ _ ?_)
  refine At.then_n ?_
  refine W.condT rfl ?_ -- co1
  refine W.seq ?_
  refine W.sub [(2, _), (3, _), (4, _), (6, _)] ⟨rfl, rfl, rfl, rfl, trivial⟩ ?_
  refine W.reg [(0, false)] (by kernel_rfl) ?_ -- region 2
  intro K hK
  refine x_assign rfl rfl rfl rfl ?_
  refine Ex.done (hK _ _ ?_)
  refine At.then_n ?_
  refine W.ret ?_
  refine At.blk_r ?_
  refine At.then_r ?_
  refine At.ret1 (.tmp 6) rfl ⟨rfl, trivial⟩ ?_ -- ret1
  exact ⟨rfl, M.frm⟩

-- (*valise/cache.Cache).pin
set_option maxRecDepth 100000 in
theorem pin3N_nil {w : World} {k : Key} {q : Int} : Ret Try.prog 38 #[.pointer none, encK k, .int .i64 q] w fun v w' => v = .int .i64 1 ∧ New w w' := by
  have M : St None' w [] w := Frm.refl _ _
  refine Ret.of_W Try.func38 rfl Try.ntmps38 rfl ?_
  refine W.seq ?_
  refine W.sub [(0, _), (1, _), (2, _)] ⟨rfl, rfl, rfl, trivial⟩ ?_
  refine W.reg [(0, true), (1, false)] (by kernel_rfl) ?_ -- region 0
  intro K hK
  refine x_box [_, _] rfl rfl rfl rfl rfl ?_ -- bx1 cache.go:154
  intro bbx1 wbx1 hbbx1 hwbx1
  have M := M.alloc hbbx1 hwbx1
  refine ⟨trivial, ?_⟩
  refine x_assign rfl rfl rfl rfl ?_
  refine Ex.done (hK _ _ ?_)
  refine At.then_n ?_
  refine W.seq ?_
  refine W.seq ?_
  refine W.sub [(0, _), (2, _), (4, _), (6, _)] ⟨rfl, rfl, rfl, rfl, trivial⟩ ?_
  refine W.reg [(0, false), (1, true), (2, false)] (by kernel_rfl) ?_ -- region 1
  intro K hK
  refine x_move rfl rfl rfl rfl ?_
  -- call1: (*valise/cache.Cache).made cache.go:155
  refine x_call rfl rfl rfl rfl rfl en25 (made_nil) ?_
  rintro v w1 ⟨rfl, rfl⟩
  refine ⟨trivial, ?_⟩
  refine x_not true rfl rfl rfl rfl rfl ?_ -- un1 cache.go:155
  refine Ex.done (hK _ _ ?_)
  refine At.then_n ?_
  refine W.condT rfl ?_ -- co1
  refine W.seq ?_
  refine W.sub [(0, _), (2, _), (4, _), (6, _)] ⟨rfl, rfl, rfl, rfl, trivial⟩ ?_
  refine W.reg [(0, false)] (by kernel_rfl) ?_ -- region 2
  intro K hK
  refine x_assign rfl rfl rfl rfl ?_
  refine Ex.done (hK _ _ ?_)
  refine At.then_n ?_
  refine W.ret ?_
  refine At.then_r ?_
  refine At.ret1 (.tmp 6) rfl ⟨rfl, trivial⟩ ?_ -- ret1
  exact ⟨rfl, M.frm⟩

-- (*valise/cache.Cache).pin
set_option maxRecDepth 100000 in
theorem pin3N_un {w : World} {c : Nat} {x y z : Value} {T : TypeId} {k : Key} {q : Int} (hc : w.heap[c]? = some (.cells [x, y, z, .map none].toArray T (0, 0))) : Ret Try.prog 38 #[.pointer (some ⟨c, 0, none⟩), encK k, .int .i64 q] w fun v w' => v = .int .i64 1 ∧ New w w' := by
  have M : St None' w [] w := Frm.refl _ _
  refine Ret.of_W Try.func38 rfl Try.ntmps38 rfl ?_
  refine W.seq ?_
  refine W.sub [(0, _), (1, _), (2, _)] ⟨rfl, rfl, rfl, trivial⟩ ?_
  refine W.reg [(0, true), (1, false)] (by kernel_rfl) ?_ -- region 0
  intro K hK
  refine x_box [_, _] rfl rfl rfl rfl rfl ?_ -- bx1 cache.go:154
  intro bbx1 wbx1 hbbx1 hwbx1
  have M := M.alloc hbbx1 hwbx1
  refine ⟨trivial, ?_⟩
  refine x_assign rfl rfl rfl rfl ?_
  refine Ex.done (hK _ _ ?_)
  refine At.then_n ?_
  refine W.seq ?_
  refine W.seq ?_
  refine W.sub [(0, _), (2, _), (4, _), (6, _)] ⟨rfl, rfl, rfl, rfl, trivial⟩ ?_
  refine W.reg [(0, false), (1, true), (2, false)] (by kernel_rfl) ?_ -- region 1
  intro K hK
  refine x_move rfl rfl rfl rfl ?_
  -- call1: (*valise/cache.Cache).made cache.go:155
  refine x_call rfl rfl rfl rfl rfl en25 (made_un (New.keep M.frm hc)) ?_
  rintro v w1 ⟨rfl, rfl⟩
  refine ⟨trivial, ?_⟩
  refine x_not true rfl rfl rfl rfl rfl ?_ -- un1 cache.go:155
  refine Ex.done (hK _ _ ?_)
  refine At.then_n ?_
  refine W.condT rfl ?_ -- co1
  refine W.seq ?_
  refine W.sub [(0, _), (2, _), (4, _), (6, _)] ⟨rfl, rfl, rfl, rfl, trivial⟩ ?_
  refine W.reg [(0, false)] (by kernel_rfl) ?_ -- region 2
  intro K hK
  refine x_assign rfl rfl rfl rfl ?_
  refine Ex.done (hK _ _ ?_)
  refine At.then_n ?_
  refine W.ret ?_
  refine At.then_r ?_
  refine At.ret1 (.tmp 6) rfl ⟨rfl, trivial⟩ ?_ -- ret1
  exact ⟨rfl, M.frm⟩

-- (*valise/cache.Cache).Pin
set_option maxRecDepth 100000 in
theorem pinN_nil {w : World} {k : Key} : Ret Try.prog 20 #[.pointer none, encK k] w fun v w' => v = .int .i64 1 ∧ New w w' := by
  have M : St None' w [] w := Frm.refl _ _
  refine Ret.of_W Try.func20 rfl Try.ntmps20 rfl ?_
  refine W.seq ?_
  refine W.sub [(0, _), (1, _)] ⟨rfl, rfl, trivial⟩ ?_
  refine W.reg [(0, true), (1, false)] (by kernel_rfl) ?_ -- region 0
  intro K hK
  refine x_box [_, _] rfl rfl rfl rfl rfl ?_ -- bx1 cache.go:170
  intro bbx1 wbx1 hbbx1 hwbx1
  have M := M.alloc hbbx1 hwbx1
  refine ⟨trivial, ?_⟩
  refine x_assign rfl rfl rfl rfl ?_
  refine Ex.done (hK _ _ ?_)
  refine At.then_n ?_
  refine W.seq ?_
  refine W.sub [(0, _), (3, _), (4, _)] ⟨rfl, rfl, rfl, trivial⟩ ?_
  refine W.reg [(0, false), (1, false), (2, true), (3, false)] (by kernel_rfl) ?_ -- region 1
  intro K hK
  refine x_move rfl rfl rfl rfl ?_
  refine x_ldA [_, _] rfl rfl rfl Try.underlying29 rfl sz29 rfl rfl ⟨_, _, _, (by first | exact M.at_ 0 rfl | exact M.at_ 1 rfl | exact M.at_ 2 rfl | exact M.at_ 3 rfl | exact M.at_ 4 rfl | exact M.at_ 5 rfl), rfl⟩ ?_ -- ld1 cache.go:170
  -- call1: (*valise/cache.Cache).pin cache.go:170
  refine x_call rfl rfl rfl rfl rfl en38 (pin3N_nil) ?_
  rintro v w1 ⟨rfl, hn⟩
  have M := M.new hn
  refine ⟨trivial, ?_⟩
  refine x_assign rfl rfl rfl rfl ?_
  refine Ex.done (hK _ _ ?_)
  refine At.then_n ?_
  refine W.ret ?_
  refine At.ret1 (.tmp 4) rfl ⟨rfl, trivial⟩ ?_ -- ret1
  exact ⟨rfl, M.frm⟩

-- (*valise/cache.Cache).Pin
set_option maxRecDepth 100000 in
theorem pinN_un {w : World} {c : Nat} {x y z : Value} {T : TypeId} {k : Key} (hc : w.heap[c]? = some (.cells [x, y, z, .map none].toArray T (0, 0))) : Ret Try.prog 20 #[.pointer (some ⟨c, 0, none⟩), encK k] w fun v w' => v = .int .i64 1 ∧ New w w' := by
  have M : St None' w [] w := Frm.refl _ _
  refine Ret.of_W Try.func20 rfl Try.ntmps20 rfl ?_
  refine W.seq ?_
  refine W.sub [(0, _), (1, _)] ⟨rfl, rfl, trivial⟩ ?_
  refine W.reg [(0, true), (1, false)] (by kernel_rfl) ?_ -- region 0
  intro K hK
  refine x_box [_, _] rfl rfl rfl rfl rfl ?_ -- bx1 cache.go:170
  intro bbx1 wbx1 hbbx1 hwbx1
  have M := M.alloc hbbx1 hwbx1
  refine ⟨trivial, ?_⟩
  refine x_assign rfl rfl rfl rfl ?_
  refine Ex.done (hK _ _ ?_)
  refine At.then_n ?_
  refine W.seq ?_
  refine W.sub [(0, _), (3, _), (4, _)] ⟨rfl, rfl, rfl, trivial⟩ ?_
  refine W.reg [(0, false), (1, false), (2, true), (3, false)] (by kernel_rfl) ?_ -- region 1
  intro K hK
  refine x_move rfl rfl rfl rfl ?_
  refine x_ldA [_, _] rfl rfl rfl Try.underlying29 rfl sz29 rfl rfl ⟨_, _, _, (by first | exact M.at_ 0 rfl | exact M.at_ 1 rfl | exact M.at_ 2 rfl | exact M.at_ 3 rfl | exact M.at_ 4 rfl | exact M.at_ 5 rfl), rfl⟩ ?_ -- ld1 cache.go:170
  -- call1: (*valise/cache.Cache).pin cache.go:170
  refine x_call rfl rfl rfl rfl rfl en38 (pin3N_un (New.keep M.frm hc)) ?_
  rintro v w1 ⟨rfl, hn⟩
  have M := M.new hn
  refine ⟨trivial, ?_⟩
  refine x_assign rfl rfl rfl rfl ?_
  refine Ex.done (hK _ _ ?_)
  refine At.then_n ?_
  refine W.ret ?_
  refine At.ret1 (.tmp 4) rfl ⟨rfl, trivial⟩ ?_ -- ret1
  exact ⟨rfl, M.frm⟩

-- (*valise/cache.Cache).Unpin
set_option maxRecDepth 100000 in
theorem unpinN_nil {w : World} {k : Key} : Ret Try.prog 21 #[.pointer none, encK k] w fun v w' => v = .int .i64 1 ∧ New w w' := by
  have M : St None' w [] w := Frm.refl _ _
  refine Ret.of_W Try.func21 rfl Try.ntmps21 rfl ?_
  refine W.seq ?_
  refine W.sub [(0, _), (1, _)] ⟨rfl, rfl, trivial⟩ ?_
  refine W.reg [(0, true), (1, false)] (by kernel_rfl) ?_ -- region 0
  intro K hK
  refine x_box [_, _] rfl rfl rfl rfl rfl ?_ -- bx1 cache.go:173
  intro bbx1 wbx1 hbbx1 hwbx1
  have M := M.alloc hbbx1 hwbx1
  refine ⟨trivial, ?_⟩
  refine x_assign rfl rfl rfl rfl ?_
  refine Ex.done (hK _ _ ?_)
  refine At.then_n ?_
  refine W.seq ?_
  refine W.sub [(0, _), (3, _), (4, _)] ⟨rfl, rfl, rfl, trivial⟩ ?_
  refine W.reg [(0, false), (1, false), (2, true), (3, false)] (by kernel_rfl) ?_ -- region 1
  intro K hK
  refine x_move rfl rfl rfl rfl ?_
  refine x_ldA [_, _] rfl rfl rfl Try.underlying29 rfl sz29 rfl rfl ⟨_, _, _, (by first | exact M.at_ 0 rfl | exact M.at_ 1 rfl | exact M.at_ 2 rfl | exact M.at_ 3 rfl | exact M.at_ 4 rfl | exact M.at_ 5 rfl), rfl⟩ ?_ -- ld1 cache.go:173
  -- call1: (*valise/cache.Cache).pin cache.go:173
  refine x_call rfl rfl rfl rfl rfl en38 (pin3N_nil) ?_
  rintro v w1 ⟨rfl, hn⟩
  have M := M.new hn
  refine ⟨trivial, ?_⟩
  refine x_assign rfl rfl rfl rfl ?_
  refine Ex.done (hK _ _ ?_)
  refine At.then_n ?_
  refine W.ret ?_
  refine At.ret1 (.tmp 4) rfl ⟨rfl, trivial⟩ ?_ -- ret1
  exact ⟨rfl, M.frm⟩

-- (*valise/cache.Cache).Unpin
set_option maxRecDepth 100000 in
theorem unpinN_un {w : World} {c : Nat} {x y z : Value} {T : TypeId} {k : Key} (hc : w.heap[c]? = some (.cells [x, y, z, .map none].toArray T (0, 0))) : Ret Try.prog 21 #[.pointer (some ⟨c, 0, none⟩), encK k] w fun v w' => v = .int .i64 1 ∧ New w w' := by
  have M : St None' w [] w := Frm.refl _ _
  refine Ret.of_W Try.func21 rfl Try.ntmps21 rfl ?_
  refine W.seq ?_
  refine W.sub [(0, _), (1, _)] ⟨rfl, rfl, trivial⟩ ?_
  refine W.reg [(0, true), (1, false)] (by kernel_rfl) ?_ -- region 0
  intro K hK
  refine x_box [_, _] rfl rfl rfl rfl rfl ?_ -- bx1 cache.go:173
  intro bbx1 wbx1 hbbx1 hwbx1
  have M := M.alloc hbbx1 hwbx1
  refine ⟨trivial, ?_⟩
  refine x_assign rfl rfl rfl rfl ?_
  refine Ex.done (hK _ _ ?_)
  refine At.then_n ?_
  refine W.seq ?_
  refine W.sub [(0, _), (3, _), (4, _)] ⟨rfl, rfl, rfl, trivial⟩ ?_
  refine W.reg [(0, false), (1, false), (2, true), (3, false)] (by kernel_rfl) ?_ -- region 1
  intro K hK
  refine x_move rfl rfl rfl rfl ?_
  refine x_ldA [_, _] rfl rfl rfl Try.underlying29 rfl sz29 rfl rfl ⟨_, _, _, (by first | exact M.at_ 0 rfl | exact M.at_ 1 rfl | exact M.at_ 2 rfl | exact M.at_ 3 rfl | exact M.at_ 4 rfl | exact M.at_ 5 rfl), rfl⟩ ?_ -- ld1 cache.go:173
  -- call1: (*valise/cache.Cache).pin cache.go:173
  refine x_call rfl rfl rfl rfl rfl en38 (pin3N_un (New.keep M.frm hc)) ?_
  rintro v w1 ⟨rfl, hn⟩
  have M := M.new hn
  refine ⟨trivial, ?_⟩
  refine x_assign rfl rfl rfl rfl ?_
  refine Ex.done (hK _ _ ?_)
  refine At.then_n ?_
  refine W.ret ?_
  refine At.ret1 (.tmp 4) rfl ⟨rfl, trivial⟩ ?_ -- ret1
  exact ⟨rfl, M.frm⟩

-- (*valise/cache.Cache).Drop
set_option maxRecDepth 100000 in
theorem dropN_nil {w : World} {fs : ByteArray} : Ret Try.prog 23 #[.pointer none, .string fs] w fun v w' => v = .int .i64 0 ∧ New w w' := by
  have M : St None' w [] w := Frm.refl _ _
  refine Ret.of_W Try.func23 rfl Try.ntmps23 rfl ?_
  refine W.seq ?_
  refine W.sub [(0, _), (1, _)] ⟨rfl, rfl, trivial⟩ ?_
  refine W.reg [(0, true), (1, true), (2, false)] (by kernel_rfl) ?_ -- region 0
  intro K hK
  refine x_box [_] rfl rfl rfl rfl rfl ?_ -- bx1 cache.go:176
  intro bbx1 wbx1 hbbx1 hwbx1
  have M := M.alloc hbbx1 hwbx1
  refine ⟨trivial, ?_⟩
  refine x_box [_] rfl rfl rfl rfl rfl ?_ -- bx2 cache.go:176
  intro bbx2 wbx2 hbbx2 hwbx2
  have M := M.alloc hbbx2 hwbx2
  refine ⟨trivial, ?_⟩
  refine x_assign rfl rfl rfl rfl ?_
  refine Ex.done (hK _ _ ?_)
  refine At.then_n ?_
  refine W.seq ?_
  refine W.seq ?_
  refine W.sub [(2, _), (3, _), (4, _)] ⟨rfl, rfl, rfl, trivial⟩ ?_
  refine W.reg [(0, false), (1, true), (2, false)] (by kernel_rfl) ?_ -- region 1
  intro K hK
  refine x_ld rfl rfl rfl Try.underlying23 rfl rfl (cell_of (by first | exact M.at_ 0 rfl | exact M.at_ 1 rfl | exact M.at_ 2 rfl | exact M.at_ 3 rfl | exact M.at_ 4 rfl | exact M.at_ 5 rfl) rfl) ?_ -- ld1 cache.go:177
  -- call1: (*valise/cache.Cache).made cache.go:177
  refine x_call rfl rfl rfl rfl rfl en25 (made_nil) ?_
  rintro v w1 ⟨rfl, rfl⟩
  refine ⟨trivial, ?_⟩
  refine x_not true rfl rfl rfl rfl rfl ?_ -- un1 cache.go:177
  refine Ex.done (hK _ _ ?_)
  refine At.then_n ?_
  refine W.condT rfl ?_ -- co1
  refine W.seq ?_
  refine W.sub [(2, _), (3, _), (4, _)] ⟨rfl, rfl, rfl, trivial⟩ ?_
  refine W.reg [(0, false)] (by kernel_rfl) ?_ -- region 2
  intro K hK
  refine x_assign rfl rfl rfl rfl ?_
  refine Ex.done (hK _ _ ?_)
  refine At.then_n ?_
  refine W.ret ?_
  refine At.then_r ?_
  refine At.ret1 (.tmp 4) rfl ⟨rfl, trivial⟩ ?_ -- ret1
  exact ⟨rfl, M.frm⟩

-- (*valise/cache.Cache).Drop
set_option maxRecDepth 100000 in
theorem dropN_un {w : World} {c : Nat} {x y z : Value} {T : TypeId} {fs : ByteArray} (hc : w.heap[c]? = some (.cells [x, y, z, .map none].toArray T (0, 0))) : Ret Try.prog 23 #[.pointer (some ⟨c, 0, none⟩), .string fs] w fun v w' => v = .int .i64 0 ∧ New w w' := by
  have M : St None' w [] w := Frm.refl _ _
  refine Ret.of_W Try.func23 rfl Try.ntmps23 rfl ?_
  refine W.seq ?_
  refine W.sub [(0, _), (1, _)] ⟨rfl, rfl, trivial⟩ ?_
  refine W.reg [(0, true), (1, true), (2, false)] (by kernel_rfl) ?_ -- region 0
  intro K hK
  refine x_box [_] rfl rfl rfl rfl rfl ?_ -- bx1 cache.go:176
  intro bbx1 wbx1 hbbx1 hwbx1
  have M := M.alloc hbbx1 hwbx1
  refine ⟨trivial, ?_⟩
  refine x_box [_] rfl rfl rfl rfl rfl ?_ -- bx2 cache.go:176
  intro bbx2 wbx2 hbbx2 hwbx2
  have M := M.alloc hbbx2 hwbx2
  refine ⟨trivial, ?_⟩
  refine x_assign rfl rfl rfl rfl ?_
  refine Ex.done (hK _ _ ?_)
  refine At.then_n ?_
  refine W.seq ?_
  refine W.seq ?_
  refine W.sub [(2, _), (3, _), (4, _)] ⟨rfl, rfl, rfl, trivial⟩ ?_
  refine W.reg [(0, false), (1, true), (2, false)] (by kernel_rfl) ?_ -- region 1
  intro K hK
  refine x_ld rfl rfl rfl Try.underlying23 rfl rfl (cell_of (by first | exact M.at_ 0 rfl | exact M.at_ 1 rfl | exact M.at_ 2 rfl | exact M.at_ 3 rfl | exact M.at_ 4 rfl | exact M.at_ 5 rfl) rfl) ?_ -- ld1 cache.go:177
  -- call1: (*valise/cache.Cache).made cache.go:177
  refine x_call rfl rfl rfl rfl rfl en25 (made_un (New.keep M.frm hc)) ?_
  rintro v w1 ⟨rfl, rfl⟩
  refine ⟨trivial, ?_⟩
  refine x_not true rfl rfl rfl rfl rfl ?_ -- un1 cache.go:177
  refine Ex.done (hK _ _ ?_)
  refine At.then_n ?_
  refine W.condT rfl ?_ -- co1
  refine W.seq ?_
  refine W.sub [(2, _), (3, _), (4, _)] ⟨rfl, rfl, rfl, trivial⟩ ?_
  refine W.reg [(0, false)] (by kernel_rfl) ?_ -- region 2
  intro K hK
  refine x_assign rfl rfl rfl rfl ?_
  refine Ex.done (hK _ _ ?_)
  refine At.then_n ?_
  refine W.ret ?_
  refine At.then_r ?_
  refine At.ret1 (.tmp 4) rfl ⟨rfl, trivial⟩ ?_ -- ret1
  exact ⟨rfl, M.frm⟩

-- (*valise/cache.Cache).Size
set_option maxRecDepth 100000 in
theorem sizeN_nil {w : World}  : Ret Try.prog 15 #[.pointer none] w fun v w' => v = .int .i64 0 ∧ New w w' := by
  have M : St None' w [] w := Frm.refl _ _
  refine Ret.of_W Try.func15 rfl Try.ntmps15 rfl ?_
  refine W.seq ?_
  refine W.sub [(0, _)] ⟨rfl, trivial⟩ ?_
  refine W.reg [(0, false)] (by kernel_rfl) ?_ -- region 0
  intro K hK
  refine x_assign rfl rfl rfl rfl ?_
  refine Ex.done (hK _ _ ?_)
  refine At.then_n ?_
  refine W.seq ?_
  refine W.seq ?_
  refine W.sub [(0, _), (2, _)] ⟨rfl, rfl, trivial⟩ ?_
  refine W.reg [(0, false), (1, true), (2, false)] (by kernel_rfl) ?_ -- region 1
  intro K hK
  refine x_move rfl rfl rfl rfl ?_
  -- call1: (*valise/cache.Cache).made cache.go:192
  refine x_call rfl rfl rfl rfl rfl en25 (made_nil) ?_
  rintro v w1 ⟨rfl, rfl⟩
  refine ⟨trivial, ?_⟩
  refine x_not true rfl rfl rfl rfl rfl ?_ -- un1 cache.go:192
  refine Ex.done (hK _ _ ?_)
  refine At.then_n ?_
  refine W.condT rfl ?_ -- co1
  refine W.seq ?_
  refine W.sub [(0, _), (2, _)] ⟨rfl, rfl, trivial⟩ ?_
  refine W.reg [(0, false)] (by kernel_rfl) ?_ -- region 2
  intro K hK
  refine x_assign rfl rfl rfl rfl ?_
  refine Ex.done (hK _ _ ?_)
  refine At.then_n ?_
  refine W.ret ?_
  refine At.then_r ?_
  refine At.ret1 (.tmp 2) rfl ⟨rfl, trivial⟩ ?_ -- ret1
  exact ⟨rfl, M.frm⟩

-- (*valise/cache.Cache).Size
set_option maxRecDepth 100000 in
theorem sizeN_un {w : World} {c : Nat} {x y z : Value} {T : TypeId}  (hc : w.heap[c]? = some (.cells [x, y, z, .map none].toArray T (0, 0))) : Ret Try.prog 15 #[.pointer (some ⟨c, 0, none⟩)] w fun v w' => v = .int .i64 0 ∧ New w w' := by
  have M : St None' w [] w := Frm.refl _ _
  refine Ret.of_W Try.func15 rfl Try.ntmps15 rfl ?_
  refine W.seq ?_
  refine W.sub [(0, _)] ⟨rfl, trivial⟩ ?_
  refine W.reg [(0, false)] (by kernel_rfl) ?_ -- region 0
  intro K hK
  refine x_assign rfl rfl rfl rfl ?_
  refine Ex.done (hK _ _ ?_)
  refine At.then_n ?_
  refine W.seq ?_
  refine W.seq ?_
  refine W.sub [(0, _), (2, _)] ⟨rfl, rfl, trivial⟩ ?_
  refine W.reg [(0, false), (1, true), (2, false)] (by kernel_rfl) ?_ -- region 1
  intro K hK
  refine x_move rfl rfl rfl rfl ?_
  -- call1: (*valise/cache.Cache).made cache.go:192
  refine x_call rfl rfl rfl rfl rfl en25 (made_un (New.keep M.frm hc)) ?_
  rintro v w1 ⟨rfl, rfl⟩
  refine ⟨trivial, ?_⟩
  refine x_not true rfl rfl rfl rfl rfl ?_ -- un1 cache.go:192
  refine Ex.done (hK _ _ ?_)
  refine At.then_n ?_
  refine W.condT rfl ?_ -- co1
  refine W.seq ?_
  refine W.sub [(0, _), (2, _)] ⟨rfl, rfl, trivial⟩ ?_
  refine W.reg [(0, false)] (by kernel_rfl) ?_ -- region 2
  intro K hK
  refine x_assign rfl rfl rfl rfl ?_
  refine Ex.done (hK _ _ ?_)
  refine At.then_n ?_
  refine W.ret ?_
  refine At.then_r ?_
  refine At.ret1 (.tmp 2) rfl ⟨rfl, trivial⟩ ?_ -- ret1
  exact ⟨rfl, M.frm⟩

-- (*valise/cache.Cache).Keys
set_option maxRecDepth 100000 in
theorem keysN_nil {w : World}  : Ret Try.prog 12 #[.pointer none] w fun v w' => v = .slice none 0 0 ∧ New w w' := by
  have M : St None' w [] w := Frm.refl _ _
  refine Ret.of_W Try.func12 rfl Try.ntmps12 rfl ?_
  refine W.seq ?_
  refine W.sub [(0, _)] ⟨rfl, trivial⟩ ?_
  refine W.reg [(0, false)] (by kernel_rfl) ?_ -- region 0
  intro K hK
  refine x_assign rfl rfl rfl rfl ?_
  refine Ex.done (hK _ _ ?_)
  refine At.then_n ?_
  refine W.seq ?_
  refine W.seq ?_
  refine W.sub [(0, _), (2, _)] ⟨rfl, rfl, trivial⟩ ?_
  refine W.reg [(0, false), (1, true), (2, false)] (by kernel_rfl) ?_ -- region 1
  intro K hK
  refine x_move rfl rfl rfl rfl ?_
  -- call1: (*valise/cache.Cache).made cache.go:200
  refine x_call rfl rfl rfl rfl rfl en25 (made_nil) ?_
  rintro v w1 ⟨rfl, rfl⟩
  refine ⟨trivial, ?_⟩
  refine x_not true rfl rfl rfl rfl rfl ?_ -- un1 cache.go:200
  refine Ex.done (hK _ _ ?_)
  refine At.then_n ?_
  refine W.condT rfl ?_ -- co1
  refine W.seq ?_
  refine W.sub [(0, _), (2, _)] ⟨rfl, rfl, trivial⟩ ?_
  refine W.reg [(0, false)] (by kernel_rfl) ?_ -- region 2
  intro K hK
  refine x_assign rfl rfl rfl rfl ?_
  refine Ex.done (hK _ _ ?_)
  refine At.then_n ?_
  refine W.ret ?_
  refine At.then_r ?_
  refine At.ret1 (.tmp 2) rfl ⟨rfl, trivial⟩ ?_ -- ret1
  exact ⟨rfl, M.frm⟩

-- (*valise/cache.Cache).Keys
set_option maxRecDepth 100000 in
theorem keysN_un {w : World} {c : Nat} {x y z : Value} {T : TypeId}  (hc : w.heap[c]? = some (.cells [x, y, z, .map none].toArray T (0, 0))) : Ret Try.prog 12 #[.pointer (some ⟨c, 0, none⟩)] w fun v w' => v = .slice none 0 0 ∧ New w w' := by
  have M : St None' w [] w := Frm.refl _ _
  refine Ret.of_W Try.func12 rfl Try.ntmps12 rfl ?_
  refine W.seq ?_
  refine W.sub [(0, _)] ⟨rfl, trivial⟩ ?_
  refine W.reg [(0, false)] (by kernel_rfl) ?_ -- region 0
  intro K hK
  refine x_assign rfl rfl rfl rfl ?_
  refine Ex.done (hK _ _ ?_)
  refine At.then_n ?_
  refine W.seq ?_
  refine W.seq ?_
  refine W.sub [(0, _), (2, _)] ⟨rfl, rfl, trivial⟩ ?_
  refine W.reg [(0, false), (1, true), (2, false)] (by kernel_rfl) ?_ -- region 1
  intro K hK
  refine x_move rfl rfl rfl rfl ?_
  -- call1: (*valise/cache.Cache).made cache.go:200
  refine x_call rfl rfl rfl rfl rfl en25 (made_un (New.keep M.frm hc)) ?_
  rintro v w1 ⟨rfl, rfl⟩
  refine ⟨trivial, ?_⟩
  refine x_not true rfl rfl rfl rfl rfl ?_ -- un1 cache.go:200
  refine Ex.done (hK _ _ ?_)
  refine At.then_n ?_
  refine W.condT rfl ?_ -- co1
  refine W.seq ?_
  refine W.sub [(0, _), (2, _)] ⟨rfl, rfl, trivial⟩ ?_
  refine W.reg [(0, false)] (by kernel_rfl) ?_ -- region 2
  intro K hK
  refine x_assign rfl rfl rfl rfl ?_
  refine Ex.done (hK _ _ ?_)
  refine At.then_n ?_
  refine W.ret ?_
  refine At.then_r ?_
  refine At.ret1 (.tmp 2) rfl ⟨rfl, trivial⟩ ?_ -- ret1
  exact ⟨rfl, M.frm⟩

-- (*valise/cache.Cache).Pins
set_option maxRecDepth 100000 in
theorem pinsN_nil {w : World} {k : Key} : Ret Try.prog 22 #[.pointer none, encK k] w fun v w' => v = .int .i64 0 ∧ New w w' := by
  have M : St None' w [] w := Frm.refl _ _
  refine Ret.of_W Try.func22 rfl Try.ntmps22 rfl ?_
  refine W.seq ?_
  refine W.sub [(0, _), (1, _)] ⟨rfl, rfl, trivial⟩ ?_
  refine W.reg [(0, true), (1, false)] (by kernel_rfl) ?_ -- region 0
  intro K hK
  refine x_box [_, _] rfl rfl rfl rfl rfl ?_ -- bx1 cache.go:211
  intro bbx1 wbx1 hbbx1 hwbx1
  have M := M.alloc hbbx1 hwbx1
  refine ⟨trivial, ?_⟩
  refine x_assign rfl rfl rfl rfl ?_
  refine Ex.done (hK _ _ ?_)
  refine At.then_n ?_
  refine W.seq ?_
  refine W.seq ?_
  refine W.sub [(0, _), (3, _), (4, _)] ⟨rfl, rfl, rfl, trivial⟩ ?_
  refine W.reg [(0, false), (1, true), (2, false)] (by kernel_rfl) ?_ -- region 1
  intro K hK
  refine x_move rfl rfl rfl rfl ?_
  -- call1: (*valise/cache.Cache).made cache.go:212
  refine x_call rfl rfl rfl rfl rfl en25 (made_nil) ?_
  rintro v w1 ⟨rfl, rfl⟩
  refine ⟨trivial, ?_⟩
  refine x_not true rfl rfl rfl rfl rfl ?_ -- un1 cache.go:212
  refine Ex.done (hK _ _ ?_)
  refine At.then_n ?_
  refine W.condT rfl ?_ -- co1
  refine W.seq ?_
  refine W.sub [(0, _), (3, _), (4, _)] ⟨rfl, rfl, rfl, trivial⟩ ?_
  refine W.reg [(0, false)] (by kernel_rfl) ?_ -- region 2
  intro K hK
  refine x_assign rfl rfl rfl rfl ?_
  refine Ex.done (hK _ _ ?_)
  refine At.then_n ?_
  refine W.ret ?_
  refine At.then_r ?_
  refine At.ret1 (.tmp 4) rfl ⟨rfl, trivial⟩ ?_ -- ret1
  exact ⟨rfl, M.frm⟩

-- (*valise/cache.Cache).Pins
set_option maxRecDepth 100000 in
theorem pinsN_un {w : World} {c : Nat} {x y z : Value} {T : TypeId} {k : Key} (hc : w.heap[c]? = some (.cells [x, y, z, .map none].toArray T (0, 0))) : Ret Try.prog 22 #[.pointer (some ⟨c, 0, none⟩), encK k] w fun v w' => v = .int .i64 0 ∧ New w w' := by
  have M : St None' w [] w := Frm.refl _ _
  refine Ret.of_W Try.func22 rfl Try.ntmps22 rfl ?_
  refine W.seq ?_
  refine W.sub [(0, _), (1, _)] ⟨rfl, rfl, trivial⟩ ?_
  refine W.reg [(0, true), (1, false)] (by kernel_rfl) ?_ -- region 0
  intro K hK
  refine x_box [_, _] rfl rfl rfl rfl rfl ?_ -- bx1 cache.go:211
  intro bbx1 wbx1 hbbx1 hwbx1
  have M := M.alloc hbbx1 hwbx1
  refine ⟨trivial, ?_⟩
  refine x_assign rfl rfl rfl rfl ?_
  refine Ex.done (hK _ _ ?_)
  refine At.then_n ?_
  refine W.seq ?_
  refine W.seq ?_
  refine W.sub [(0, _), (3, _), (4, _)] ⟨rfl, rfl, rfl, trivial⟩ ?_
  refine W.reg [(0, false), (1, true), (2, false)] (by kernel_rfl) ?_ -- region 1
  intro K hK
  refine x_move rfl rfl rfl rfl ?_
  -- call1: (*valise/cache.Cache).made cache.go:212
  refine x_call rfl rfl rfl rfl rfl en25 (made_un (New.keep M.frm hc)) ?_
  rintro v w1 ⟨rfl, rfl⟩
  refine ⟨trivial, ?_⟩
  refine x_not true rfl rfl rfl rfl rfl ?_ -- un1 cache.go:212
  refine Ex.done (hK _ _ ?_)
  refine At.then_n ?_
  refine W.condT rfl ?_ -- co1
  refine W.seq ?_
  refine W.sub [(0, _), (3, _), (4, _)] ⟨rfl, rfl, rfl, trivial⟩ ?_
  refine W.reg [(0, false)] (by kernel_rfl) ?_ -- region 2
  intro K hK
  refine x_assign rfl rfl rfl rfl ?_
  refine Ex.done (hK _ _ ?_)
  refine At.then_n ?_
  refine W.ret ?_
  refine At.then_r ?_
  refine At.ret1 (.tmp 4) rfl ⟨rfl, trivial⟩ ?_ -- ret1
  exact ⟨rfl, M.frm⟩

-- valise/valiselaw17.key
set_option maxRecDepth 100000 in
theorem key_c {w : World} {i : Int} : Ret Try.prog 11 #[.int .i64 i] w fun v w' => v = encK (⟨#[97]⟩, i) ∧ New w w' := by
  have M : St None' w [] w := Frm.refl _ _
  refine Ret.of_W Try.func11 rfl Try.ntmps11 rfl ?_
  refine W.seq ?_
  refine W.sub [(0, _)] ⟨rfl, trivial⟩ ?_
  refine W.reg [(0, true)] (by kernel_rfl) ?_ -- region 0
  intro K hK
  refine x_alloc [_, _] rfl rfl rfl ze29 rfl ?_ -- al1 law.go:18
  intro bal1 wal1 hbal1 hwal1
  have M := M.alloc hbal1 hwal1
  refine ⟨trivial, ?_⟩
  refine Ex.done (hK _ _ ?_)
  refine At.then_n ?_
  refine W.seq ?_
  refine W.sub [(0, _), (2, _)] ⟨rfl, rfl, trivial⟩ ?_
  refine W.reg [(0, false), (1, false), (2, true)] (by kernel_rfl) ?_ -- region 1
  intro K hK
  refine x_move rfl rfl rfl rfl ?_
  refine x_build [_, _] rfl rfl rfl pl29 ze29 rfl rfl rfl ?_ -- bu1 law.go:18
  refine x_st [_, _] _ rfl rfl rfl sz29 rfl rfl rfl rfl (by first | exact M.at_ 0 rfl | exact M.at_ 1 rfl | exact M.at_ 2 rfl | exact M.at_ 3 rfl | exact M.at_ 4 rfl | exact M.at_ 5 rfl) rfl rfl rfl ?_ -- st1 law.go:18
  intro wst1 hwst1
  have M := M.put 0 rfl hwst1
  refine ⟨trivial, ?_⟩
  refine Ex.done (hK _ _ ?_)
  refine At.then_n ?_
  refine W.ret ?_
  refine At.ret1 (.cell 2 29) rfl ⟨⟨_, rfl, run_loadVarA (l := [_, _]) Try.underlying29 rfl sz29 ⟨_, _, _, M.at_ 0 rfl, rfl⟩ (Nat.zero_lt_succ _)⟩, trivial⟩ ?_ -- ret1
  exact ⟨rfl, M.frm⟩
end Go.Proofs.Ytbbccdcjhoecpaa

namespace Go.Proofs.Ytbbccdcjhoecpaa
open Go Go.Fw Go.RowKit Go.Proofs
set_option linter.unusedVariables false
set_option linter.unusedSimpArgs false

def kA (i : Int) : Key := (⟨#[97]⟩, i)
def kB : Key := (⟨#[98]⟩, 0)
def kC : Key := (⟨#[99]⟩, 0)
abbrev zs (n : Nat) : List UInt8 := List.replicate n 0

theorem lp1 : putM 10 [] (kA 0) (zs 4) = ([(kA 0, zs 4, 0)], 0) := by kernel_rfl
theorem lp2 : putM 10 [(kA 0, zs 4, 0)] (kA 1) (zs 4) = ([(kA 1, zs 4, 0), (kA 0, zs 4, 0)], 0) := by kernel_rfl
theorem lg1 : getM [(kA 1, zs 4, 0), (kA 0, zs 4, 0)] (kA 0) = ([(kA 0, zs 4, 0), (kA 1, zs 4, 0)], some (zs 4)) := by kernel_rfl
theorem lp3 : putM 10 [(kA 0, zs 4, 0), (kA 1, zs 4, 0)] kB (zs 4) = ([(kB, zs 4, 0), (kA 0, zs 4, 0)], 0) := by kernel_rfl
theorem lg2 : getM [(kB, zs 4, 0), (kA 0, zs 4, 0)] (kA 1) = ([(kB, zs 4, 0), (kA 0, zs 4, 0)], none) := by kernel_rfl
theorem ln1 : pinM [(kB, zs 4, 0), (kA 0, zs 4, 0)] (kA 0) 1 = ([(kB, zs 4, 0), (kA 0, zs 4, 1)], 0) := by kernel_rfl
theorem lp4 : putM 10 [(kB, zs 4, 0), (kA 0, zs 4, 1)] kC (zs 7) = ([(kB, zs 4, 0), (kA 0, zs 4, 1)], 7) := by kernel_rfl
theorem lp5 : putM 10 [(kB, zs 4, 0), (kA 0, zs 4, 1)] kC (zs 6) = ([(kC, zs 6, 0), (kA 0, zs 4, 1)], 0) := by kernel_rfl
theorem ls1 : totM [(kC, zs 6, 0), (kA 0, zs 4, 1)] = 10 := by kernel_rfl

theorem bytes_made {w : World} {b n : Nat} {T : TypeId} {fr : Nat × Nat} (h : w.heap[b]? = some (.cells (List.replicate n (.int .u8 0)).toArray T fr)) : BytesAt w (.slice (some ⟨b, 0, none⟩) n n) (List.replicate n 0) := by
  refine .inr ⟨b, 0, n, _, T, fr, by simp, by simp, h, ?_, by simp⟩
  simp [byteV]

section
variable {w0 w w1 : World} {L : List (Nat × Obj)} {c : Nat} {bud : Int} {M M' : List Blk} {q : Int}
theorem CS.opPut' (h : CS w0 L c bud M w) {k : Key} {sv : Value} {b : List UInt8} (he : putM bud M k b = (M', q)) (hb : BytesIn w sv b) (hblk : b ≠ [] → ∀ g, blkOf sv = some g → g < w0.heap.size ∨ g ∈ L.map (·.1)) (hlen : b.length ≤ 1099511627776) :
    Ret Try.prog 10 #[ptr c, encK k, sv] w fun v w' => v = .int .i64 q ∧ CS w0 L c bud M' w' := by
  have := h.opPut (k := k) hb hblk hlen
  rw [he] at this; exact this
theorem CS.opPin' (h : CS w0 L c bud M w) {k : Key} (he : pinM M k 1 = (M', q)) (hp : ∀ m ∈ M, m.2.2 < 1000000000) : Ret Try.prog 20 #[ptr c, encK k] w fun v w' => v = .int .i64 q ∧ CS w0 L c bud M' w' := by
  have := h.opPin k hp
  rw [he] at this; exact this
theorem CS.opGetS (h : CS w0 L c bud M w) {k : Key} {b : List UInt8} (he : getM M k = (M', some b)) : Ret Try.prog 16 #[ptr c, encK k] w fun v w' => CS w0 L c bud M' w' ∧ ∃ sv, v = .tuple #[sv, .bool true] ∧ BytesAt w' sv b ∧ b.length ≤ 4096 ∧ ∀ g, blkOf sv = some g → w.heap.size ≤ g ∧ ∀ o, w'.heap[g]? = some o → CS w0 (L ++ [(g, o)]) c bud M' w' := by
  have := h.opGet k
  rw [he] at this; exact this
theorem CS.opGetN (h : CS w0 L c bud M w) {k : Key} (he : getM M k = (M', none)) : Ret Try.prog 16 #[ptr c, encK k] w fun v w' => CS w0 L c bud M' w' ∧ v = .tuple #[.slice none 0 0, .bool false] := by
  have := h.opGet k
  rw [he] at this; exact this
theorem CS.opSize' (h : CS w0 L c bud M w) (he : totM M = q) : Ret Try.prog 15 #[ptr c] w fun v w' => v = .int .i64 q ∧ w = w' := by
  have := h.opSize
  rw [he] at this; exact this
end
end Go.Proofs.Ytbbccdcjhoecpaa

namespace Go.Proofs.Ytbbccdcjhoecpaa
open Go Go.Fw Go.RowKit Go.Proofs
set_option linter.unusedVariables false
set_option linter.unusedSimpArgs false

structure Ac where
  kind : Int
  k : Key
  sv : Value
  b : List UInt8

def Ac.cells (a : Ac) : List Value := [.int .i64 a.kind, .string a.k.1, .int .i64 a.k.2, a.sv]

def ActsIn (w : World) (v : Value) (A : List Ac) : Prop := ∃ p cap, v = .slice p A.length cap ∧ A.length ≤ 9223372036854775807 ∧ ∀ i a, A[i]? = some a → ∃ b off, p = some ⟨b, off, none⟩ ∧ b < w.heap.size ∧ RowAt w b (off + i * 4) a.cells ∧ BytesIn w a.sv a.b

theorem BytesIn.lt {w : World} {sv : Value} {b : List UInt8} (h : BytesIn w sv b) (hne : b ≠ []) {g : Nat} (hg : blkOf sv = some g) : g < w.heap.size := by
  rcases h with ⟨h1, _⟩ | ⟨_, h2⟩
  · exact absurd h1 hne
  · exact h2.lt g hg

theorem rowAt_keep {w w1 : World} {b off : Nat} {l : List Value} (h : RowAt w b off l) (hs : w1.heap[b]? = w.heap[b]?) : RowAt w1 b off l := by
  obtain ⟨cs, T, fr, h1, h2⟩ := h
  exact ⟨cs, T, fr, by rw [hs]; exact h1, h2⟩

theorem BytesIn.new {w w1 : World} {sv : Value} {b : List UInt8} (h : BytesIn w sv b) (hn : New w w1) : BytesIn w1 sv b := h.keep fun _ g _ hlt => hn.old g hlt id

theorem ActsIn.new {w w1 : World} {v : Value} {A : List Ac} (h : ActsIn w v A) (hn : New w w1) : ActsIn w1 v A := by
  obtain ⟨p, cap, h1, h0, h2⟩ := h
  refine ⟨p, cap, h1, h0, fun i a ha => ?_⟩
  obtain ⟨b, off, h3, h4, h5, h6⟩ := h2 i a ha
  exact ⟨b, off, h3, Nat.lt_of_lt_of_le h4 hn.size, rowAt_keep h5 (hn.old b h4 id), h6.new hn⟩

def fewA (A : List Ac) : Prop := A.length ≤ 60 ∧ ∀ a ∈ A, a.b.length ≤ 5000 ∧ a.k.1.size ≤ 100
instance (A : List Ac) : Decidable (fewA A) := by unfold fewA; infer_instance

def doM (bud : Int) (M : List Blk) (a : Ac) : List Blk :=
  if a.kind = 1 then (putM bud M a.k a.b).1 else if a.kind = 2 then (pinM M a.k 1).1 else if a.kind = 3 then (pinM M a.k (-1)).1 else if a.kind = 4 then dropM M a.k.1 else (getM M a.k).1

theorem CS.last {w0 w : World} {L : List (Nat × Obj)} {c : Nat} {bud : Int} {M : List Blk} {b : Nat} {o : Obj} (h : CS w0 (L ++ [(b, o)]) c bud M w) : w.heap[b]? = some o := h.at_ L.length (by simp)
theorem CS.init {w0 w : World} {L : List (Nat × Obj)} {c : Nat} {bud : Int} {M : List Blk} {x : Nat × Obj} (h : CS w0 (L ++ [x]) c bud M w) : CS w0 L c bud M w := h.sub (List.sublist_append_left _ _)

theorem row_cell {w : World} {b off : Nat} {l : List Value} (h : RowAt w b off l) {j : Nat} {u : Value} (hj : l[j]? = some u) : w.cell? ⟨b, off + j, none⟩ = some u := by
  obtain ⟨cs, T, fr, h1, h2⟩ := h
  have hlt : j < l.length := (List.getElem?_eq_some_iff.1 hj).1
  rw [← h2, List.getElem?_take, if_pos hlt, List.getElem?_drop] at hj
  simp only [World.cell?, h1]
  simpa using hj
end Go.Proofs.Ytbbccdcjhoecpaa

namespace Go.Proofs.Ytbbccdcjhoecpaa
open Go Go.Fw Go.ChangeShapes Go.WideShapes Go.ChangeAt Go.RowKit
set_option linter.unusedVariables false
set_option linter.unusedSimpArgs false

theorem c39 : Try.prog.cellsOf 39 = 4 := by kernel_rfl
theorem c29 : Try.prog.cellsOf 29 = 2 := by kernel_rfl
theorem c31 : Try.prog.cellsOf 31 = 1 := by kernel_rfl
theorem c9 : Try.prog.cellsOf 9 = 1 := by kernel_rfl
theorem c3 : Try.prog.cellsOf 3 = 1 := by kernel_rfl
theorem c5 : Try.prog.cellsOf 5 = 1 := by kernel_rfl

theorem row_of_cells {w : World} {b off : Nat} {l : List Value} (h : ∀ i u, l[i]? = some u → w.cell? ⟨b, off + i, none⟩ = some u) (hp : 0 < l.length) : RowAt w b off l ∧ b < w.heap.size := by
  have h0 := h 0 l[0] (List.getElem?_eq_getElem hp)
  simp only [World.cell?] at h h0
  cases hb : w.heap[b]? with
  | none => simp [hb] at h0
  | some o =>
    have hlt : b < w.heap.size := (Array.getElem?_eq_some_iff.1 hb).1
    cases o with
    | cells cs T fr =>
      refine ⟨⟨cs, T, fr, hb, ?_⟩, hlt⟩
      apply List.ext_getElem?
      intro i
      rw [List.getElem?_take, List.getElem?_drop]
      rcases Nat.lt_or_ge i l.length with hi | hi
      · rw [if_pos hi, List.getElem?_eq_getElem hi]
        have := h i l[i] (List.getElem?_eq_getElem hi)
        rw [hb] at this
        simpa using this
      · rw [if_neg (by omega), List.getElem?_eq_none hi]
    | _ => simp [hb] at h0

section
variable {H : Type} {enc : TypeId × Value → H}

theorem open_bytes {W : World} {base : Nat} {sp : Nat → Bool} {fuel : Nat} {v : Value} {x : DataW H × List MemPlace} (h : DataW.trod enc Try.prog W base sp true fuel 31 [v] = some x) : ∃ b : List UInt8, BytesIn W v b ∧ b.length ≤ maxLen := by
  rcases open_ints Try.underlying31 Try.underlying5 c5 h with ⟨hcs, _⟩ | ⟨a, len, cap, zs, hcs, _, hl, hm, hz, hx, hcell, hwz⟩
  · simp at hcs
    subst hcs
    exact ⟨[], .inl ⟨rfl, none, 0, rfl⟩, by simp⟩
  · simp at hcs
    subst hcs
    have hzl : len ≤ zs.length := by rw [hz]; split <;> omega
    rcases Nat.eq_zero_or_pos len with h0 | h0
    · subst h0
      exact ⟨[], .inl ⟨rfl, some a, cap, rfl⟩, by simp⟩
    · obtain ⟨b, off, rfl, hc⟩ := ints_at hcell (by omega)
      let bs : List UInt8 := (zs.take len).map fun z => UInt8.ofNat z.toNat
      have hbl : bs.length = len := by simp [bs]; omega
      have hv : ∀ z ∈ zs, byteV (UInt8.ofNat z.toNat) = .int .u8 z := fun z hz => by
        have := bounds_u8 (hwz z hz)
        simp only [byteV, UInt8.toNat_ofNat']
        congr 1
        have : z.toNat % 2 ^ 8 = z.toNat := Nat.mod_eq_of_lt (by omega)
        rw [this]; omega
      have hrow := row_of_cells (w := W) (b := b) (off := off) (l := bs.map byteV) (fun i u hu => by
        have hi : i < len := by have := (List.getElem?_eq_some_iff.1 hu).1; simpa [hbl] using this
        rw [hc i (by omega)]
        simp only [bs, List.map_map, List.getElem?_map, List.getElem?_take, if_pos hi] at hu
        rw [List.getElem?_eq_getElem (by omega)] at hu
        simp only [Option.map_some, Function.comp] at hu
        rw [hv _ (List.getElem_mem _)] at hu
        rw [← hu]
        simp [List.getElem?_eq_getElem (show i < zs.length by omega)]) (by simp [hbl]; omega)
      obtain ⟨⟨cs, T, fr, hb, ht⟩, _⟩ := hrow
      refine ⟨bs, .inr ⟨fun e => by rw [e] at hbl; simp at hbl; omega, .inr ⟨b, off, cap, cs, T, fr, by rw [hbl], by omega, hb, ?_, by simp⟩⟩, by omega⟩
      rw [Nat.mul_one]
      simpa using ht

theorem open_acts {W : World} {d : DataW H} {p : List MemPlace} {v : Value} {sp : Nat → Bool} {base : Nat} (hval : Value.okWide Try.prog W .any base 35 v) (h : DataW.Trod enc Try.prog W 0 sp true 35 v d p) : ∃ A : List Ac, ActsIn W v A ∧ ∀ a ∈ A, a.b.length ≤ maxLen := by
  obtain ⟨a1, n1, cap1, rfl⟩ := okWide_slice Try.underlying35 hval
  obtain ⟨n, hn⟩ := h
  have hn : DataW.trod enc Try.prog W 0 sp true n 35 [.slice a1 n1 cap1] = some (d, p) := hn
  rcases DataW.trod_slice Try.underlying35 hn with ⟨hcs, _⟩ | ⟨a, len, cap, elems, rest, m, _, hcs, hx, _, hl, hm, hlen, hel, _⟩
  · simp at hcs
    obtain ⟨rfl, rfl, rfl⟩ := hcs
    exact ⟨[], ⟨none, 0, rfl, by simp, fun i a ha => by simp at ha⟩, by simp⟩
  · simp at hcs
    obtain ⟨rfl, rfl, rfl⟩ := hcs
    have hspot : 0 < n1 → a.spot = none := by
      intro hp
      have he := hel 0 hp
      rw [c39, List.getElem?_eq_getElem (by omega)] at he
      simp only [Option.bind_eq_some_iff] at he
      obtain ⟨cs, hcs, _⟩ := he
      obtain ⟨_, hlen4, hcell⟩ := World.cells?_some hcs
      have h0 := hcell 0 (by omega)
      rw [List.getElem?_eq_getElem (by omega)] at h0
      simpa [Addr.add] using World.cell?_spot h0
    have each : ∀ i, i < n1 → ∃ ac : Ac, (∃ b off, a = ⟨b, off, none⟩ ∧ b < W.heap.size ∧ RowAt W b (off + i * 4) ac.cells ∧ BytesIn W ac.sv ac.b) ∧ ac.b.length ≤ maxLen := by
      intro i hi
      have he := hel i hi
      rw [c39, List.getElem?_eq_getElem (by omega)] at he
      simp only [Option.bind_eq_some_iff] at he
      obtain ⟨cs, hcs, ht⟩ := he
      obtain ⟨hbs, hlen4, hcell⟩ := World.cells?_some hcs
      obtain ⟨xs, m2, rfl, _, hl4, hxl, hf⟩ := DataW.trod_struct Try.underlying39 ht
      have f0 : DataW.trod enc Try.prog W 0 sp true m2 3 ((cs.drop 0).take (Try.prog.cellsOf 3)) = xs[0]? := hf 0 _ rfl
      have f1 : DataW.trod enc Try.prog W 0 sp true m2 29 ((cs.drop 1).take (Try.prog.cellsOf 29)) = xs[1]? := hf 1 _ rfl
      have f2 : DataW.trod enc Try.prog W 0 sp true m2 31 ((cs.drop 3).take (Try.prog.cellsOf 31)) = xs[2]? := hf 2 _ rfl
      have hxl : xs.length = 3 := hxl
      rw [c3, List.getElem?_eq_getElem (by omega)] at f0
      rw [c29, List.getElem?_eq_getElem (by omega)] at f1
      rw [c31, List.getElem?_eq_getElem (by omega)] at f2
      obtain ⟨u0, u1, u2, u3, rfl⟩ : ∃ u0 u1 u2 u3, cs = [u0, u1, u2, u3] := by
        match cs, hlen4 with
        | [u0, u1, u2, u3], _ => exact ⟨u0, u1, u2, u3, rfl⟩
      obtain ⟨kind, e0, _, _⟩ := DataW.trod_int Try.underlying3 f0
      obtain ⟨ys, m3, rfl, _, _, hyl, hg⟩ := DataW.trod_struct Try.underlying29 f1
      have hyl : ys.length = 2 := hyl
      have g0 : DataW.trod enc Try.prog W 0 sp true m3 9 (([u1, u2].drop 0).take (Try.prog.cellsOf 9)) = ys[0]? := hg 0 _ rfl
      have g1 : DataW.trod enc Try.prog W 0 sp true m3 3 (([u1, u2].drop 1).take (Try.prog.cellsOf 3)) = ys[1]? := hg 1 _ rfl
      rw [c9, List.getElem?_eq_getElem (by omega)] at g0
      rw [c3, List.getElem?_eq_getElem (by omega)] at g1
      obtain ⟨f, e1, _, _⟩ := DataW.trod_string Try.underlying9 g0
      obtain ⟨ix, e2, _, _⟩ := DataW.trod_int Try.underlying3 g1
      have f2 : DataW.trod enc Try.prog W 0 sp true _ 31 [u3] = some _ := f2
      obtain ⟨b, hb, hbm⟩ := open_bytes f2
      simp at e0 e1 e2
      subst e0 e1 e2
      refine ⟨⟨kind, (f, ix), u3, b⟩, ?_, hbm⟩
      obtain ⟨bk, off, spot⟩ := a
      have hsp := hspot (by omega)
      simp only at hsp
      subst hsp
      have hr := row_of_cells (w := W) (b := bk) (off := off + i * 4) (l := [.int .i64 kind, .string f, .int .i64 ix, u3]) (fun j u hu => by
        have hj : j < 4 := (List.getElem?_eq_some_iff.1 hu).1
        have := hcell j hj
        rw [add_plain, add_plain] at this
        rw [this]
        exact hu) (by simp)
      exact ⟨bk, off, rfl, hr.2, hr.1, hb⟩
    let A : List Ac := (List.range n1).attach.map fun ⟨i, hi⟩ => Classical.choose (each i (List.mem_range.1 hi))
    have hAl : A.length = n1 := by simp [A]
    have hA : ∀ i ac, A[i]? = some ac → (∃ b off, a = ⟨b, off, none⟩ ∧ b < W.heap.size ∧ RowAt W b (off + i * 4) ac.cells ∧ BytesIn W ac.sv ac.b) ∧ ac.b.length ≤ maxLen := by
      intro i ac hac
      have hi : i < n1 := by rw [← hAl]; exact (List.getElem?_eq_some_iff.1 hac).1
      have : A[i]? = some (Classical.choose (each i hi)) := by
        simp only [A, List.getElem?_map]
        rw [List.getElem?_eq_getElem (by simpa using hi)]
        simp
      rw [this] at hac
      cases hac
      exact Classical.choose_spec (each i hi)
    refine ⟨A, ⟨some a, cap1, by rw [hAl], by unfold maxLen at hm; omega, fun i ac hac => ?_⟩, fun ac hac => ?_⟩
    · obtain ⟨⟨b, off, h1, h2, h3, h4⟩, _⟩ := hA i ac hac
      exact ⟨b, off, by rw [h1], h2, h3, h4⟩
    · obtain ⟨i, hi⟩ := List.mem_iff_getElem?.1 hac
      exact (hA i ac hi).2
end
end Go.Proofs.Ytbbccdcjhoecpaa

namespace Go.Proofs.Ytbbccdcjhoecpaa
open Go Go.Fw Go.RowKit Go.Proofs
set_option linter.unusedVariables false
set_option linter.unusedSimpArgs false

def seqM (size q : Nat) : Nat → List Blk
  | 0 => []
  | i + 1 => ((kA (i : Int), zs size, 0) :: seqM size q i).take q

theorem seqM_mem {size q : Nat} : ∀ {i : Nat} {m : Blk}, m ∈ seqM size q i → ∃ j, j < i ∧ m = (kA ((j : Nat) : Int), zs size, 0)
  | i + 1, m, h => by
    have := List.mem_of_mem_take h
    rcases List.mem_cons.1 this with rfl | h1
    · exact ⟨i, by omega, rfl⟩
    · obtain ⟨j, h2, h3⟩ := seqM_mem h1
      exact ⟨j, by omega, h3⟩

theorem seqM_len (size q : Nat) : ∀ i, (seqM size q i).length = min i q
  | 0 => by simp [seqM]
  | i + 1 => by
    simp only [seqM, List.length_take, List.length_cons, seqM_len size q i]
    omega

theorem seqM_get (size q : Nat) : ∀ (i j : Nat), j < min i q → (seqM size q i)[j]? = some (kA ((i - 1 - j : Nat) : Int), zs size, 0)
  | 0, j, h => by omega
  | i + 1, j, h => by
    simp only [seqM]
    rw [List.getElem?_take, if_pos (by omega)]
    cases j with
    | zero => simp
    | succ j =>
      rw [List.getElem?_cons_succ, seqM_get size q i j (by omega)]
      congr 4
      omega

theorem kA_inj {a b : Nat} (h : kA (a : Int) = kA (b : Int)) : a = b := by
  have := congrArg Prod.snd h
  simp only [kA] at this
  omega

theorem totM_same {size : Nat} : ∀ (L : List Blk), (∀ m ∈ L, m.2.1.length = size) → totM L = (L.length * size : Nat)
  | [], _ => by simp [totM]
  | m :: L, h => by
    have h1 := totM_same L (fun m hm => h m (List.mem_cons_of_mem _ hm))
    have h2 := h m (by simp)
    unfold totM at *
    simp only [List.map_cons, List.sum_cons, List.length_cons, h1, h2]
    rw [Nat.succ_mul]; omega

theorem evict_take {bud : Int} {size q : Nat} (hq : ((q * size : Nat) : Int) ≤ bud) (hq2 : bud < (((q + 1) * size : Nat) : Int)) (hq1 : 1 ≤ q) {L : List Blk} (hL : ∀ m ∈ L, m.2.1.length = size ∧ m.2.2 = 0) (hlen : L.length ≤ q + 1) :
    evictM bud L.reverse [] = L.take q := by
  have hfit : ∀ X : List Blk, (∀ m ∈ X, m.2.1.length = size) → X.length ≤ q → evictM bud X.reverse [] = X := by
    intro X hX hl
    cases hr : X.reverse with
    | nil => simp at hr; subst hr; rfl
    | cons x P =>
      have e1 : (x :: P).reverse = X := by rw [← hr, List.reverse_reverse]
      unfold evictM
      rw [e1, List.append_nil, if_pos]
      rw [totM_same X hX]
      have : X.length * size ≤ q * size := Nat.mul_le_mul_right _ hl
      omega
  rcases Nat.lt_or_ge q L.length with h | h
  · have hl : L.length = q + 1 := by omega
    rcases List.eq_nil_or_concat L with rfl | ⟨L', x, rfl⟩
    · simp at hl
    · simp only [List.concat_eq_append] at *
      have hl' : L'.length = q := by simpa using hl
      have e1 : (L' ++ [x]).reverse = x :: L'.reverse := by simp
      rw [e1]
      unfold evictM
      rw [← e1, List.reverse_reverse, List.append_nil, if_neg, if_pos]
      · rw [hfit L' (fun m hm => (hL m (by simp [hm])).1) (by omega), List.take_append_of_le_length (by omega), List.take_of_length_le (by omega)]
      · exact ⟨fun e2 => by simp at e2; subst e2; simp at hl'; omega, (hL x (by simp)).2⟩
      · rw [totM_same _ (fun m hm => (hL m hm).1), hl]; omega
  · rw [hfit L (fun m hm => (hL m hm).1) h, List.take_of_length_le h]

theorem heldM_zero {M : List Blk} (h : ∀ m ∈ M, m.2.2 = 0) (k : Key) : heldM M k = 0 := by
  induction M with
  | nil => rfl
  | cons m M ih =>
    have h1 := ih (fun m hm => h m (List.mem_cons_of_mem _ hm))
    have h2 := h m (by simp)
    unfold heldM at *
    simp [h1, h2]

/-- One more block of the size. -/
theorem put_seq {bud : Int} {size q : Nat} (hs : 1 ≤ size ∧ size ≤ 4096) (hq : ((q * size : Nat) : Int) ≤ bud) (hq2 : bud < (((q + 1) * size : Nat) : Int)) (i : Nat) :
    putM bud (seqM size q i) (kA (i : Int)) (zs size) = (seqM size q (i + 1), if (size : Int) ≤ bud then 0 else 7) := by
  have hp : ∀ m ∈ seqM size q i, m.2.1.length = size ∧ m.2.2 = 0 := fun m hm => by obtain ⟨j, _, rfl⟩ := seqM_mem hm; simp
  have hk : ∀ m ∈ seqM size q i, m.1 ≠ kA (i : Int) := fun m hm e => by
    obtain ⟨j, h1, rfl⟩ := seqM_mem hm
    have := kA_inj e
    omega
  unfold putM
  rw [if_neg (by simp; omega), heldM_zero (fun m hm => (hp m hm).2)]
  by_cases hf : (size : Int) ≤ bud
  · rw [if_neg (by simp; omega), if_pos hf]
    have hwo : woM (seqM size q i) (kA (i : Int)) = seqM size q i := List.filter_eq_self.2 fun m hm => decide_eq_true (hk m hm)
    have hpi : pinsM (seqM size q i) (kA (i : Int)) = 0 := by
      unfold pinsM
      rw [List.find?_eq_none.2 (fun m hm => by simpa using hk m hm)]; rfl
    rw [hwo, hpi]
    have hq1 : 1 ≤ q := by
      rcases Nat.eq_zero_or_pos q with h0 | h0
      · subst h0; simp at hq2; omega
      · exact h0
    rw [evict_take hq hq2 hq1 (fun m hm => ?_) (by simp [seqM_len]; omega)]
    · rfl
    · rcases List.mem_cons.1 hm with rfl | hm
      · simp
      · exact hp m hm
  · rw [if_pos (by simp; omega), if_neg hf]
    have hq0 : q = 0 := by
      rcases Nat.eq_zero_or_pos q with h0 | h0
      · exact h0
      · have : 1 * size ≤ q * size := Nat.mul_le_mul_right _ h0
        omega
    subst hq0
    have : ∀ i, seqM size 0 i = [] := fun i => by cases i <;> simp [seqM]
    rw [this, this]

theorem keyM_row {w : World} {b : Nat} {M : List Blk} {rest : List Value} {T : TypeId} {fr : Nat × Nat} {j : Nat} {m : Blk} (h : w.heap[b]? = some (.cells (keyM M ++ rest).toArray T fr)) (hm : M[j]? = some m) : RowAt w b (0 + j * 2) [.string m.1.1, .int .i64 m.1.2] := by
  refine ⟨_, T, fr, h, ?_⟩
  have key : ∀ (M : List Blk) (j : Nat), M[j]? = some m → ((keyM M ++ rest).drop (j * 2)).take 2 = [.string m.1.1, .int .i64 m.1.2] := by
    intro M
    induction M with
    | nil => intro j hj; simp at hj
    | cons x M ih =>
      intro j hj
      have e1 : keyM (x :: M) = .string x.1.1 :: .int .i64 x.1.2 :: keyM M := by simp [keyM]
      rw [e1]
      cases j with
      | zero => simp at hj; subst hj; simp
      | succ j =>
        rw [show (j + 1) * 2 = j * 2 + 2 from by omega]
        simpa using ih j (by simpa using hj)
  simpa using key M j hm
end Go.Proofs.Ytbbccdcjhoecpaa

namespace Go.Proofs.Ytbbccdcjhoecpaa
open Go Go.Fw Go.RowKit Go.Proofs
set_option linter.unusedVariables false
set_option linter.unusedSimpArgs false

section
variable {w0 w w1 : World} {L : List (Nat × Obj)} {c : Nat} {bud : Int} {M : List Blk}

theorem CS.opKeysL (h : CS w0 L c bud M w) (hlen : M.length ≤ 1000000) : Ret Try.prog 12 #[ptr c] w fun v w' => ∃ p cap L', v = .slice p M.length cap ∧ CS w0 L' c bud M w' ∧ L.Sublist L' ∧
    ∀ M' w'', CS w0 L' c bud M' w'' → ∀ (i : Nat) m, M[i]? = some m → ∃ b, p = some ⟨b, 0, none⟩ ∧ RowAt w'' b (0 + i * 2) [.string m.1.1, .int .i64 m.1.2] := by
  refine (h.opKeys hlen).mono ?_
  rintro v w' ⟨how, _, hc, hbk⟩
  rcases how with ⟨rfl, h2, _⟩ | ⟨b, cap, rest, T, rfl, h2, _, _⟩
  · refine ⟨none, 0, L, by rw [h2], hc, List.Sublist.refl _, fun M' w'' _ i m hm => ?_⟩
    have := (List.getElem?_eq_some_iff.1 hm).1
    omega
  · refine ⟨_, cap, _, rfl, (hbk b rfl).2 _ h2, List.sublist_append_left _ _, fun M' w'' hc' i m hm => ⟨b, rfl, keyM_row hc'.last hm⟩⟩

theorem getM_has {m : Blk} (hk : (M.map (·.1)).Nodup) (hm : m ∈ M) : getM M m.1 = (m :: woM M m.1, some m.2.1) ∧ (m :: woM M m.1).Perm M := by
  obtain ⟨A, B, rfl⟩ := List.append_of_mem hm
  have hp : (A ++ m :: B).Perm (m :: (A ++ B)) := List.perm_middle
  have hn := (hp.map (·.1)).nodup_iff.1 hk
  simp only [List.map_cons, List.nodup_cons] at hn
  have g1 : ∀ x ∈ A ++ B, x.1 ≠ m.1 := fun x hx e => hn.1 (List.mem_map.2 ⟨x, hx, e⟩)
  have hwo : woM (A ++ m :: B) m.1 = A ++ B := by
    unfold woM
    rw [List.filter_append, List.filter_cons]
    rw [List.filter_eq_self.2 (fun x hx => decide_eq_true (g1 x (by simp [hx]))), List.filter_eq_self.2 (fun x hx => decide_eq_true (g1 x (by simp [hx])))]
    simp
  have hf : (A ++ m :: B).find? (fun x => decide (x.1 = m.1)) = some m := by
    rw [List.find?_append, List.find?_eq_none.2 (fun x hx hd => g1 x (by simp [hx]) (of_decide_eq_true hd))]
    simp
  refine ⟨?_, by rw [hwo]; exact hp.symm⟩
  unfold getM
  rw [hf]

theorem totM_perm {M M' : List Blk} (h : M.Perm M') : totM M = totM M' := perm_sum (h.map _)

theorem totM_nn (M : List Blk) : 0 ≤ totM M := by
  induction M with
  | nil => exact Int.le_refl _
  | cons m M ih => unfold totM at *; simp only [List.map_cons, List.sum_cons]; omega

theorem totM_app (A B : List Blk) : totM (A ++ B) = totM A + totM B := by simp [totM]

theorem totM_take {j : Nat} {m : Blk} (hm : M[j]? = some m) : totM (M.take (j + 1)) = totM (M.take j) + m.2.1.length := by
  rw [List.take_add_one, hm]
  simp [totM]

theorem totM_take_le (j : Nat) : totM (M.take j) ≤ totM M := by
  have h := totM_app (M.take j) (M.drop j)
  rw [List.take_append_drop] at h
  have := totM_nn (M.drop j)
  omega

theorem nodup_idx {l : List Key} (h : l.Nodup) {i j : Nat} {a b : Key} (hi : l[i]? = some a) (hj : l[j]? = some b) (hne : i ≠ j) : a ≠ b := by
  rintro rfl
  have hlt := (List.getElem?_eq_some_iff.1 hi).1
  have hlt2 := (List.getElem?_eq_some_iff.1 hj).1
  rw [List.getElem?_eq_getElem hlt] at hi
  rw [List.getElem?_eq_getElem hlt2] at hj
  exact hne ((List.getElem_inj (h₀ := hlt) (h₁ := hlt2) h).1 ((Option.some.inj hi).trans (Option.some.inj hj).symm))

/-- The bounds of a cache's list behind calls. -/
def BdM (n : Nat) (M : List Blk) : Prop := M.length ≤ n ∧ ∀ m ∈ M, m.2.2 ≤ (n : Int)

theorem evictM_len (bud : Int) : ∀ (P K : List Blk), (evictM bud P K).length ≤ P.length + K.length
  | [], K => by simp [evictM]
  | x :: P, K => by
    unfold evictM
    split
    · simp; omega
    · split
      · have := evictM_len bud P K; simp; omega
      · have := evictM_len bud P (x :: K); simp at this ⊢; omega

theorem BdM.step {n : Nat} {M : List Blk} (h : BdM n M) (bud : Int) (a : Ac) : BdM (n + 1) (doM bud M a) := by
  obtain ⟨h1, h2⟩ := h
  have hmono : ∀ {m : Blk}, m ∈ M → m.2.2 ≤ ((n + 1 : Nat) : Int) := fun hm => by have := h2 _ hm; omega
  have hid : BdM (n + 1) M := ⟨by omega, fun m hm => hmono hm⟩
  have hwl : (woM M a.k).length ≤ M.length := List.length_filter_le _ _
  have hpin : pinsM M a.k ≤ (n : Int) := by
    unfold pinsM
    cases hf : M.find? fun m => m.1 = a.k with
    | none => simp
    | some m => exact h2 m (List.mem_of_find?_eq_some hf)
  have hpm : ∀ q : Int, q ≤ 1 → BdM (n + 1) (pinM M a.k q).1 := fun q hq => by
    unfold pinM
    split
    · exact hid
    · split
      · exact hid
      · refine ⟨by simp; omega, fun m hm => ?_⟩
        obtain ⟨x, hx, rfl⟩ := List.mem_map.1 hm
        have := h2 x hx
        split
        · simp only; omega
        · omega
  unfold doM
  split
  · unfold putM
    split
    · exact hid
    · split
      · exact hid
      · refine ⟨?_, fun m hm => ?_⟩
        · have := evictM_len bud ((a.k, a.b, pinsM M a.k) :: woM M a.k).reverse []
          simp at this ⊢; omega
        · have := evictM_sub _ _ _ m hm
          simp only [List.reverse_reverse, List.append_nil, List.mem_cons] at this
          rcases this with rfl | h3
          · simp only; omega
          · exact hmono (List.mem_filter.1 h3).1
  · split
    · exact hpm 1 (by omega)
    · split
      · exact hpm (-1) (by omega)
      · split
        · exact ⟨Nat.le_trans (List.length_filter_le _ _) (by omega), fun m hm => hmono (List.mem_filter.1 hm).1⟩
        · unfold getM
          split
          · exact hid
          · rename_i m hf
            have hmm := List.mem_of_find?_eq_some hf
            refine ⟨by simp; omega, fun x hx => ?_⟩
            rcases List.mem_cons.1 hx with rfl | hx
            · exact hmono hmm
            · exact hmono (List.mem_filter.1 hx).1
end
end Go.Proofs.Ytbbccdcjhoecpaa

namespace Go.Proofs.Ytbbccdcjhoecpaa
open Go Go.Fw Go.RowKit Go.Proofs Go.WideShapes
set_option linter.unusedVariables false
set_option linter.unusedSimpArgs false

def skipA (a : Ac) (k : Key) : Prop := (a.k = k ∧ 1 ≤ a.kind ∧ a.kind ≤ 3) ∨ (a.kind = 4 ∧ a.k.1 = k.1)
instance (a : Ac) (k : Key) : Decidable (skipA a k) := by unfold skipA; infer_instance

theorem evictM_keep (bud : Int) {m : Blk} (hm : m.2.2 ≠ 0) : ∀ (P K : List Blk), m ∈ P ∨ m ∈ K → m ∈ evictM bud P K
  | [], K, h => by rcases h with h | h; simp at h; exact h
  | x :: P, K, h => by
    unfold evictM
    split
    · simp only [List.mem_append, List.mem_reverse]; exact h
    · split
      · rename_i h2
        refine evictM_keep bud hm P K ?_
        rcases h with h | h
        · rcases List.mem_cons.1 h with rfl | h
          · exact absurd h2.2 hm
          · exact .inl h
        · exact .inr h
      · refine evictM_keep bud hm P (x :: K) ?_
        rcases h with h | h
        · rcases List.mem_cons.1 h with rfl | h
          · exact .inr (by simp)
          · exact .inl h
        · exact .inr (by simp [h])

theorem find_has {M : List Blk} {m : Blk} (hk : (M.map (·.1)).Nodup) (hm : m ∈ M) : M.find? (fun x => decide (x.1 = m.1)) = some m := by
  obtain ⟨A, B, rfl⟩ := List.append_of_mem hm
  have hp : (A ++ m :: B).Perm (m :: (A ++ B)) := List.perm_middle
  have hn := (hp.map (·.1)).nodup_iff.1 hk
  simp only [List.map_cons, List.nodup_cons] at hn
  have g1 : ∀ x ∈ A ++ B, x.1 ≠ m.1 := fun x hx e => hn.1 (List.mem_map.2 ⟨x, hx, e⟩)
  rw [List.find?_append, List.find?_eq_none.2 (fun x hx hd => g1 x (by simp [hx]) (of_decide_eq_true hd))]
  simp

theorem keepM {bud : Int} {M : List Blk} {k : Key} {b : List UInt8} {a : Ac} (hk : (M.map (·.1)).Nodup) (hm : (k, b, (1 : Int)) ∈ M) (hs : ¬ skipA a k) : (k, b, (1 : Int)) ∈ doM bud M a := by
  have hne : 1 ≤ a.kind → a.kind ≤ 3 → a.k ≠ k := fun h1 h2 e => hs (.inl ⟨e, h1, h2⟩)
  have hpm : ∀ q : Int, a.k ≠ k → (k, b, (1 : Int)) ∈ (pinM M a.k q).1 := fun q hne => by
    unfold pinM
    split
    · exact hm
    · split
      · exact hm
      · refine List.mem_map.2 ⟨_, hm, ?_⟩
        rw [if_neg (fun e => hne e.symm)]
  have hwo : a.k ≠ k → (k, b, (1 : Int)) ∈ woM M a.k := fun hne => List.mem_filter.2 ⟨hm, decide_eq_true (fun e => hne e.symm)⟩
  unfold doM
  split
  · rename_i h1
    have hne := hne (by omega) (by omega)
    unfold putM
    split
    · exact hm
    · split
      · exact hm
      · refine evictM_keep bud (by simp) _ _ (.inl ?_)
        simp only [List.mem_reverse, List.mem_cons]
        exact .inr (hwo hne)
  · split
    · exact hpm 1 (hne (by omega) (by omega))
    · split
      · exact hpm (-1) (hne (by omega) (by omega))
      · split
        · rename_i h4
          exact List.mem_filter.2 ⟨hm, decide_eq_true (fun e => hs (.inr ⟨h4, e.symm⟩))⟩
        · unfold getM
          split
          · exact hm
          · rename_i m hf
            by_cases he : a.k = k
            · have hf' := find_has hk hm
              simp only at hf'
              rw [he] at hf
              rw [hf'] at hf
              cases hf
              simp
            · exact List.mem_cons_of_mem _ (hwo he)

theorem pins_has {M : List Blk} {m : Blk} (hk : (M.map (·.1)).Nodup) (hm : m ∈ M) : pinsM M m.1 = m.2.2 := by
  unfold pinsM
  rw [find_has hk hm]; rfl

theorem pin_has {M : List Blk} {m : Blk} {q : Int} (hk : (M.map (·.1)).Nodup) (hm : m ∈ M) (hq : 0 ≤ m.2.2 + q) : pinM M m.1 q = (M.map fun x => if x.1 = m.1 then (x.1, x.2.1, x.2.2 + q) else x, 0) := by
  unfold pinM
  rw [find_has hk hm]
  simp only
  rw [if_neg (by omega)]

theorem pin_low {M : List Blk} {m : Blk} {q : Int} (hk : (M.map (·.1)).Nodup) (hm : m ∈ M) (hq : m.2.2 + q < 0) : pinM M m.1 q = (M, 2) := by
  unfold pinM
  rw [find_has hk hm]
  simp only
  rw [if_pos hq]

theorem put_nil {bud : Int} {k : Key} {b : List UInt8} (hb : b.length ≤ 4096) : putM bud [] k b = if (b.length : Int) ≤ bud then ([(k, b, 0)], 0) else ([], 7) := by
  unfold putM
  rw [if_neg (by omega)]
  by_cases h : (b.length : Int) ≤ bud
  · rw [if_neg (by simp [heldM]; omega), if_pos h]
    have : woM [] k = [] := rfl
    have hp : pinsM [] k = 0 := rfl
    rw [this, hp]
    show (evictM bud [(k, b, 0)] [], (0 : Int)) = _
    unfold evictM
    rw [if_pos (by simp [totM]; exact h)]
    rfl
  · rw [if_pos (by simp [heldM]; omega), if_neg h]

section
variable {w0 w w1 : World} {L : List (Nat × Obj)} {c : Nat} {bud : Int} {M M' : List Blk} {q : Int}
theorem CS.opUnpin' (h : CS w0 L c bud M w) {k : Key} (he : pinM M k (-1) = (M', q)) (hp : ∀ m ∈ M, m.2.2 < 1000000000) : Ret Try.prog 21 #[ptr c, encK k] w fun v w' => v = .int .i64 q ∧ CS w0 L c bud M' w' := by
  have := h.opUnpin k hp
  rw [he] at this; exact this
theorem CS.opPins' (h : CS w0 L c bud M w) {k : Key} (he : pinsM M k = q) : Ret Try.prog 22 #[ptr c, encK k] w fun v w' => v = .int .i64 q ∧ CS w0 L c bud M w' := by
  have := h.opPins k
  rw [he] at this; exact this
end

theorem drop_less {M : List Blk} {m : Blk} (hm : m ∈ M) : (dropM M m.1.1).length < M.length := by
  unfold dropM
  refine Nat.lt_of_le_of_ne (List.length_filter_le _ _) (fun e => ?_)
  have := List.length_filter_eq_length_iff.1 e m hm
  simp at this
theorem drop_none {M : List Blk} {k : Key} : getM (dropM M k.1) k = (dropM M k.1, none) := by
  unfold getM
  rw [List.find?_eq_none.2 (fun x hx hd => by
    have h1 := (List.mem_filter.1 hx).2
    have h2 := of_decide_eq_true hd
    simp at h1
    exact h1 (by rw [h2]))]
theorem row_key {w : World} {b off : Nat} {a : Ac} (h : RowAt w b off a.cells) : RowAt w b (off + 1) [.string a.k.1, .int .i64 a.k.2] := by
  obtain ⟨cs, T, fr, h1, h2⟩ := h
  refine ⟨cs, T, fr, h1, ?_⟩
  have := congrArg (fun l => (l.drop 1).take 2) h2
  simp only [Ac.cells, List.length_cons, List.length_nil] at this
  rw [List.drop_take, List.take_take, List.drop_drop] at this
  simpa using this

theorem skip_iff4 {a : Ac} {k : Key} (h : a.kind = 4) : (a.k.1.toList == k.1.toList) = true ↔ skipA a k := by
  unfold skipA
  simp only [beq_iff_eq]
  constructor
  · intro e; exact .inr ⟨h, ba_inj e⟩
  · rintro (⟨_, _, h2⟩ | ⟨_, e⟩)
    · omega
    · rw [e]
theorem skip_no {a : Ac} {k : Key} (h1 : ¬ (a.k = k ∧ 1 ≤ a.kind ∧ a.kind ≤ 3)) (h4 : a.kind ≠ 4) : ¬ skipA a k := by
  rintro (h | h)
  · exact h1 h
  · exact h4 h.1

theorem BytesAt.strOf {w : World} {sv : Value} {b : List UInt8} (h : BytesAt w sv b) : StrOf w sv b := by
  rcases h with ⟨rfl, h1, h2⟩ | ⟨g, off, cap, all, T, fr, rfl, hle, hb, h1, h2⟩
  · exact .inl ⟨0, rfl, by simpa using h2⟩
  · refine .inr ⟨⟨g, off, none⟩, cap, rfl, fun j hj => ?_⟩
    have hr : RowAt w g off (b.map byteV) := ⟨all, T, fr, hb, by simpa using h1⟩
    have := row_cell hr (j := j) (u := byteV b[j]) (by simp [List.getElem?_eq_getElem hj])
    rw [add_plain]
    exact this
theorem BytesIn.strOf {w : World} {sv : Value} {b : List UInt8} (h : BytesIn w sv b) : StrOf w sv b := by
  rcases h with ⟨rfl, p, cap, rfl⟩ | ⟨_, h⟩
  · cases p with
    | none => exact .inl ⟨cap, rfl, rfl⟩
    | some a => exact .inr ⟨a, cap, rfl, fun j hj => by simp at hj⟩
  · exact h.strOf

theorem BdM.perm {n : Nat} {M M' : List Blk} (h : BdM n M) (hp : M'.Perm M) : BdM n M' := ⟨by rw [hp.length_eq]; exact h.1, fun m hm => h.2 m (hp.mem_iff.1 hm)⟩
end Go.Proofs.Ytbbccdcjhoecpaa

namespace Go.Fw
open Go Go.RowKit
set_option linter.unusedVariables false
set_option linter.unusedSimpArgs false

section
variable {P : Program} {n : Nat} {ops : Array Oper} {B : Array Nat} {dr : Bool} {K : KT} {s : List (Nat × Bool)} {F : Env} {ds : List Deferred} {T : List (Nat × (World → Prop))} {w : World} {i : Nat}
variable {d : Option Tmp} {ty : TypeId} {ps : String} {af : Array Edge} {g : Option (Nat × Bool)} {x lo hi : Operand} {t e m : TypeId}

theorem elem_of (h : P.underlying t = some (.slice e)) : P.elem t = e := by unfold Program.elem; rw [h]

theorem x_slh {a : Option Addr} {len cap : Nat} {k : IntKind} {z : Int} (j : Nat) (ho : ops[i]? = some ⟨d, .slice t x none (some hi) none, ty, ps, af, g⟩) (hg : guardV ops F g = some true) (hd : dstOK n d = true)
    (hu : P.underlying t = some (.slice e)) (hs : szOf P e = some m) (hx : ev? F x = some (.slice a len cap)) (hh : ev? F hi = some (.int k z)) (hj : z = (j : Int)) (hle : j ≤ cap)
    (h : Ex P n ops B dr K s (putE F d (.slice a j cap)) ds T w) : Ex P n ops B dr K ((i, false) :: s) F ds T w :=
  Ex.pure_ ho hg hd _ (fun at_ hk w' => by
    subst hj
    have he := elem_of hu
    have hu' : P.underlying t = some (.slice (P.elem t)) := by rw [he]; exact hu
    have hv : sliced a 0 j cap m = .slice a j cap := by
      unfold sliced
      congr 1
      split
      · rfl
      · cases a <;> simp [Addr.add]
    simp only [execOp, Option.map_none, Option.map_some, hk.eval hx, hk.eval hh, Sem.run_bind, run_sliceAt_slice (w := w') t _ _ _ _ hu', run_slice_h (w := w') t a len cap hu' k (j : Int) (by omega) (by omega), he, run_sizeOf' hs, Result.andThen_ok, Int.toNat_natCast, Sem.run_pure, hv]) h

theorem x_sll {a : Option Addr} {len cap : Nat} {k : IntKind} {z : Int} (j : Nat) (ho : ops[i]? = some ⟨d, .slice t x (some lo) none none, ty, ps, af, g⟩) (hg : guardV ops F g = some true) (hd : dstOK n d = true)
    (hu : P.underlying t = some (.slice e)) (hs : szOf P e = some m) (hx : ev? F x = some (.slice a len cap)) (hh : ev? F lo = some (.int k z)) (hj : z = (j : Int)) (hle : j ≤ len)
    (h : Ex P n ops B dr K s (putE F d (.slice (if cap = j then a else a.map (·.add (j * m))) (len - j) (cap - j))) ds T w) : Ex P n ops B dr K ((i, false) :: s) F ds T w :=
  Ex.pure_ ho hg hd _ (fun at_ hk w' => by
    subst hj
    have he := elem_of hu
    have hu' : P.underlying t = some (.slice (P.elem t)) := by rw [he]; exact hu
    simp only [execOp, Option.map_none, Option.map_some, hk.eval hx, hk.eval hh, Sem.run_bind, run_sliceAt_slice (w := w') t _ _ _ _ hu', run_slice_l (w := w') t a len cap hu' k (j : Int) (by omega) (by omega), he, run_sizeOf' hs, Result.andThen_ok, Int.toNat_natCast, Sem.run_pure, sliced]) h

theorem x_ssh {u : ByteArray} {k : IntKind} {z : Int} (j : Nat) (ho : ops[i]? = some ⟨d, .slice t x none (some hi) none, ty, ps, af, g⟩) (hg : guardV ops F g = some true) (hd : dstOK n d = true)
    (hu : P.underlying t = some .string) (hx : ev? F x = some (.string u)) (hh : ev? F hi = some (.int k z)) (hj : z = (j : Int)) (hle : j ≤ u.size)
    (h : Ex P n ops B dr K s (putE F d (.string (u.extract 0 j))) ds T w) : Ex P n ops B dr K ((i, false) :: s) F ds T w :=
  Ex.pure_ ho hg hd _ (fun at_ hk w' => by
    subst hj
    simp only [execOp, Option.map_none, Option.map_some, hk.eval hx, hk.eval hh, Sem.run_bind, run_sliceAt_string (w := w') t _ _ _ _ hu, run_slice_string_h w' t u hu k (j : Int) (by omega) (by omega), Result.andThen_ok, Int.toNat_natCast, Sem.run_pure]) h

theorem x_ssl {u : ByteArray} {k : IntKind} {z : Int} (j : Nat) (ho : ops[i]? = some ⟨d, .slice t x (some lo) none none, ty, ps, af, g⟩) (hg : guardV ops F g = some true) (hd : dstOK n d = true)
    (hu : P.underlying t = some .string) (hx : ev? F x = some (.string u)) (hh : ev? F lo = some (.int k z)) (hj : z = (j : Int)) (hle : j ≤ u.size)
    (h : Ex P n ops B dr K s (putE F d (.string (u.extract j u.size))) ds T w) : Ex P n ops B dr K ((i, false) :: s) F ds T w :=
  Ex.pure_ ho hg hd _ (fun at_ hk w' => by
    subst hj
    simp only [execOp, Option.map_none, Option.map_some, hk.eval hx, hk.eval hh, Sem.run_bind, run_sliceAt_string (w := w') t _ _ _ _ hu, run_slice_string_l w' t u hu k (j : Int) (by omega) (by omega), Result.andThen_ok, Int.toNat_natCast, Sem.run_pure]) h

theorem run_slice_string_lh (w : World) (t : TypeId) (s : ByteArray) (ht : P.underlying t = some .string) (kl kh : IntKind) (l h : Int) (h0 : 0 ≤ l) (h1 : l ≤ h) (h2 : h ≤ s.size) :
    (Instr.slice t (.string s) (some (.int kl l)) (some (.int kh h)) none).run P w = .ok (.string (s.extract l.toNat h.toNat)) w := by
  have eh : (h.toNat : Int) = h := Int.toNat_of_nonneg (by omega)
  simp [Instr.slice, run_underlying ht, Instr.sliceBounds, run_sliceBound, sliced, *, eh, (by omega : 0 ≤ l), (by omega : 0 ≤ h)]

theorem x_sslh {u : ByteArray} {k1 k2 : IntKind} {z1 z2 : Int} (j1 j2 : Nat) (ho : ops[i]? = some ⟨d, .slice t x (some lo) (some hi) none, ty, ps, af, g⟩) (hg : guardV ops F g = some true) (hd : dstOK n d = true)
    (hu : P.underlying t = some .string) (hx : ev? F x = some (.string u)) (hl : ev? F lo = some (.int k1 z1)) (hh : ev? F hi = some (.int k2 z2)) (hj1 : z1 = (j1 : Int)) (hj2 : z2 = (j2 : Int)) (hle : j1 ≤ j2) (hle2 : j2 ≤ u.size)
    (h : Ex P n ops B dr K s (putE F d (.string (u.extract j1 j2))) ds T w) : Ex P n ops B dr K ((i, false) :: s) F ds T w :=
  Ex.pure_ ho hg hd _ (fun at_ hk w' => by
    subst hj1; subst hj2
    simp only [execOp, Option.map_none, Option.map_some, hk.eval hx, hk.eval hl, hk.eval hh, Sem.run_bind, run_sliceAt_string (w := w') t _ _ _ _ hu, run_slice_string_lh w' t u hu k1 k2 (j1 : Int) (j2 : Int) (by omega) (by omega) (by omega), Result.andThen_ok, Int.toNat_natCast, Sem.run_pure]) h
end

/-- The first ones of a slice. -/
theorem Sl.take {w : World} {a : Option Addr} {len cap m : Nat} {cs : List Value} {j : Nat} (h : Sl w (.slice a len cap) m len cs) (hj : j ≤ len) : Sl w (.slice a j cap) m j (cs.take (j * m)) := by
  rcases h with ⟨h1, h2, h3⟩ | ⟨b, off, cap', all, T, fr, h1, hc, hb, h2, h3⟩
  · cases h1
    have : j = 0 := by omega
    subst this
    exact .inl ⟨rfl, rfl, by simp⟩
  · cases h1
    refine .inr ⟨b, off, cap, all, T, fr, rfl, by omega, hb, ?_, ?_⟩
    · rw [← h2, List.take_take, Nat.min_eq_left (Nat.mul_le_mul_right _ hj)]
    · rw [List.length_take, h3, Nat.min_eq_left (Nat.mul_le_mul_right _ hj)]

/-- Those from one on. -/
theorem Sl.drop {w : World} {a : Option Addr} {len cap m : Nat} {cs : List Value} {j : Nat} (h : Sl w (.slice a len cap) m len cs) (hj : j ≤ len) : Sl w (.slice (if cap = j then a else a.map (·.add (j * m))) (len - j) (cap - j)) m (len - j) (cs.drop (j * m)) := by
  rcases h with ⟨h1, h2, h3⟩ | ⟨b, off, cap', all, T, fr, h1, hc, hb, h2, h3⟩
  · cases h1
    have : j = 0 := by omega
    subst this
    refine .inl ⟨by simp, rfl, by simp [h3]⟩
  · cases h1
    by_cases hcj : cap = j
    · have hl : len = j := by omega
      subst hcj; subst hl
      rw [if_pos rfl]
      exact .inr ⟨b, off, 0, all, T, fr, by simp, by omega, hb, by simp [h3], by simp [h3]⟩
    · rw [if_neg hcj]
      have ea : (⟨b, off, none⟩ : Addr).add (j * m) = ⟨b, off + j * m, none⟩ := by
        unfold Addr.add; split
        · rename_i hz; rw [hz]; rfl
        · rfl
      refine .inr ⟨b, off + j * m, cap - j, all, T, fr, by simp [ea], by omega, hb, ?_, ?_⟩
      · rw [← h2, List.drop_take, List.drop_drop, Nat.sub_mul]
      · rw [List.length_drop, h3, Nat.sub_mul]

/-- append, with what it turns. -/
theorem x_appF {P : Program} {n : Nat} {ops : Array Oper} {B : Array Nat} {dr : Bool} {K : KT} {s : List (Nat × Bool)} {F : Env} {ds : List Deferred} {T : List (Nat × (World → Prop))} {w : World} {i : Nat}
    {d : Option Tmp} {ty : TypeId} {ps : String} {af : Array Edge} {gd : Option (Nat × Bool)} {x y : Operand} {t tx e m bts k nn : Nat} {z0 xv sv : Value} {cs news : List Value} {at0 : Array TypeId} (ho : ops[i]? = some ⟨d, .call ⟨.builtin .append, #[x, y], at0⟩, ty, ps, af, gd⟩) (hg : guardV ops F gd = some true) (hd : dstOK n d = true)
    (hat : at0 = #[t, tx]) (ht : P.underlying t = some (.slice e)) (hm : szOf P e = some m) (hz : zeroOf P e = some z0) (hzm : z0.cells.size = m) (hby : bytesOf' P e = some bts)
    (hx : ev? F x = some sv) (hy : ev? F y = some xv) (hv : OwS w sv m nn cs) (hcs : ∀ u ∈ cs, u.oneCell' = true) (hs : Src P m tx xv k news w) (hfit : (nn + k) * bts ≤ 70368744177664) (hb : bts ≤ 1048576) (h63 : nn + k ≤ 9223372036854775807)
    (h : ∀ v' w1, OwS w1 v' m (nn + k) (cs ++ news) → Frm (fun b => blkOf sv = some b) w w1 → (∀ b, blkOf v' = some b → blkOf sv = some b ∨ w.heap.size ≤ b) → pend B i T w1 ∧ Ex P n ops B dr K s (putE F d v') ds T w1) : Ex P n ops B dr K ((i, true) :: s) F ds T w := by
  refine x_app ho hg hd hat ht hm hz hzm hby hx hy hv hcs hs hfit hb h63 (fun v' w1 h1 h2 => h v' w1 h1 ?_ ?_)
  · rcases h2 with ⟨_, _, _, rfl⟩ | h2
    · exact Frm.refl _ _
    · exact h2.frm
  · intro b hb
    rcases h2 with ⟨h3, _, rfl, _⟩ | h2
    · rw [h3] at hb; cases hb
    · obtain ⟨b', h4, h5⟩ := h2.blk
      rw [hb] at h4; cases h4
      rcases h5 with h5 | h5
      · exact .inl h5
      · exact .inr (by omega)
end Go.Fw

namespace Go.Proofs.Ytbbccdcjhoecpaa
open Go Go.Fw Go.RowKit Go.Proofs Go.WideShapes
set_option linter.unusedVariables false
set_option linter.unusedSimpArgs false

def strB (b : List UInt8) : ByteArray := ⟨b.toArray⟩
def blkCells (m : Blk) : List Value := [.string m.1.1, .int .i64 m.1.2, .string (strB m.2.1), .int .i64 m.2.2]
def refCells (M : List Blk) : List Value := M.flatMap blkCells
/-- A slice that holds the list. -/
def RefL (w : World) (v : Value) (M : List Blk) : Prop := Sl w v 4 M.length (refCells M)
def refV (bud : Int) (v : Value) : Value := .agg #[.int .i64 bud, v]

theorem refCells_one (M : List Blk) : ∀ u ∈ refCells M, u.oneCell' = true := by
  intro u hu
  simp only [refCells, List.mem_flatMap] at hu
  obtain ⟨m, _, hu⟩ := hu
  simp [blkCells] at hu
  rcases hu with rfl | rfl | rfl | rfl <;> rfl
theorem refCells_app (A B : List Blk) : refCells (A ++ B) = refCells A ++ refCells B := by simp [refCells]
theorem refCells_len (M : List Blk) : (refCells M).length = M.length * 4 := by
  induction M with
  | nil => rfl
  | cons m M ih => simp [refCells, blkCells] at ih ⊢; omega

theorem RefL.shape {w : World} {v : Value} {M : List Blk} (h : RefL w v M) : ∃ p cap, v = .slice p M.length cap ∧ M.length ≤ cap := by
  rcases h with ⟨rfl, h1, _⟩ | ⟨g, off, cap, all, T, fr, rfl, hle, _⟩
  · exact ⟨none, 0, by rw [h1], by omega⟩
  · exact ⟨_, _, rfl, hle⟩

theorem RefL.new {w w1 : World} {v : Value} {M : List Blk} (h : RefL w v M) (hn : New w w1) : RefL w1 v M := Sl.same h fun b hb => hn.old b (Sl.lt h b hb) id

theorem ref_drop : ∀ (M : List Blk) (j : Nat) (m : Blk), M[j]? = some m → ((refCells M).drop (j * 4)).take 4 = blkCells m
  | [], j, m, h => by simp at h
  | x :: M, 0, m, h => by simp at h; subst h; simp [refCells, blkCells]
  | x :: M, j + 1, m, h => by
    have e1 : (refCells (x :: M)).drop 4 = refCells M := by simp [refCells, blkCells]
    rw [show (j + 1) * 4 = 4 + j * 4 from by omega, ← List.drop_drop, e1]
    exact ref_drop M j m (by simpa using h)

theorem RefL.row {w : World} {p : Option Addr} {cap : Nat} {M : List Blk} {j : Nat} {m : Blk} (h : RefL w (.slice p M.length cap) M) (hm : M[j]? = some m) : ∃ b off, p = some ⟨b, off, none⟩ ∧ RowAt w b (off + j * 4) (blkCells m) := by
  have hj : j < M.length := (List.getElem?_eq_some_iff.1 hm).1
  rcases h with ⟨h1, h2, _⟩ | ⟨b, off, cap', all, T, fr, h1, hle, hb, h2, h3⟩
  · omega
  · cases h1
    refine ⟨b, off, rfl, Sl.row (.inr ⟨b, off, cap, all, T, fr, rfl, hle, hb, h2, h3⟩) rfl (l := blkCells m) (ref_drop M j m hm) (by simp [blkCells])⟩

theorem row_take {w : World} {b off : Nat} {l : List Value} (h : RowAt w b off l) (i k : Nat) (hk : i + k ≤ l.length) : RowAt w b (off + i) ((l.drop i).take k) := by
  obtain ⟨cs, T, fr, h1, h2⟩ := h
  refine ⟨cs, T, fr, h1, ?_⟩
  have h3 : ((l.drop i).take k).length = k := by simp; omega
  rw [h3]
  have e : (((cs.toList.drop off).take l.length).drop i).take k = (l.drop i).take k := by rw [h2]
  rw [← e, List.drop_take, List.take_take, List.drop_drop, Nat.min_eq_left (by omega)]

theorem row_bkey {w : World} {b off : Nat} {m : Blk} (h : RowAt w b off (blkCells m)) : RowAt w b off [.string m.1.1, .int .i64 m.1.2] := row_take h 0 2 (by simp [blkCells])

/-- Where a key stands. -/
def AtP (M : List Blk) (k : Key) (z : Int) : Prop := (∃ (i : Nat) (m : Blk), M[i]? = some m ∧ m.1 = k ∧ z = (i : Int)) ∨ ((∀ m ∈ M, m.1 ≠ k) ∧ z = -1)

theorem RefL.src {w : World} {v : Value} {M : List Blk} (h : RefL w v M) : Src Try.prog 4 44 v M.length (refCells M) w := Sl.src h Try.underlying44 (refCells_one M)
theorem OwS.ref {w : World} {v : Value} {n : Nat} {cs : List Value} {M : List Blk} (h : OwS w v 4 n cs) (hn : n = M.length) (hc : cs = refCells M) : RefL w v M := by subst hn; subst hc; exact h.sl (by decide)

theorem refCells_take (A B : List Blk) : (refCells (A ++ B)).take (A.length * 4) = refCells A := by
  rw [refCells_app, ← refCells_len, List.take_left']
  rfl
theorem refCells_drop (A B : List Blk) : (refCells (A ++ B)).drop (A.length * 4) = refCells B := by
  rw [refCells_app, ← refCells_len, List.drop_left']
  rfl
theorem RefL.take {w : World} {p : Option Addr} {cap : Nat} {A B : List Blk} (h : RefL w (.slice p (A ++ B).length cap) (A ++ B)) : RefL w (.slice p A.length cap) A := by
  have := Sl.take h (j := A.length) (by simp)
  rwa [refCells_take] at this
theorem RefL.drop {w : World} {p : Option Addr} {cap j : Nat} {A B : List Blk} (h : RefL w (.slice p (A ++ B).length cap) (A ++ B)) (hj : A.length = j) : RefL w (.slice (if cap = j then p else p.map (·.add (j * 4))) ((A ++ B).length - j) (cap - j)) B := by
  subst hj
  have := Sl.drop h (j := A.length) (by simp)
  rw [refCells_drop] at this
  have e : (A ++ B).length - A.length = B.length := by simp
  unfold RefL
  rw [e] at this ⊢
  exact this

theorem OwS.shape {w : World} {v : Value} {n m : Nat} {cs : List Value} (h : OwS w v m n cs) : ∃ p cap, v = .slice p n cap := by
  rcases h with ⟨rfl, h1, _⟩ | ⟨b, cap, rest, T, rfl, _⟩
  · exact ⟨none, 0, by rw [h1]⟩
  · exact ⟨_, _, rfl⟩
theorem RefL.put {w w1 : World} {v : Value} {M : List Blk} {b : Nat} {o : Obj} (h : RefL w v M) (hb : ∀ g, blkOf v = some g → g ≠ b) (hw : w1 = w.putObj b o) : RefL w1 v M := Sl.same h fun g hg => hp_put hw (hb g hg)
theorem RefL.drw {w w1 : World} {v : Value} {M : List Blk} (h : RefL w v M) (hw : w1 = w.drew) : RefL w1 v M := Sl.same h fun g hg => hp_drew hw g
theorem blk_cells_one (m : Blk) : ∀ u ∈ blkCells m, u.oneCell' = true := by
  intro u hu
  simp [blkCells] at hu
  rcases hu with rfl | rfl | rfl | rfl <;> rfl

theorem atP_none {M : List Blk} {k : Key} {z : Int} (h : AtP M k z) (hno : ∀ m ∈ M, m.1 ≠ k) : z = -1 := by
  rcases h with ⟨i, m, h1, h2, _⟩ | ⟨_, h⟩
  · exact absurd h2 (hno m (List.mem_of_getElem? h1))
  · exact h
theorem atP_some {A B : List Blk} {m : Blk} {k : Key} {z : Int} (hk : ((A ++ m :: B).map (·.1)).Nodup) (hm : m.1 = k) (h : AtP (A ++ m :: B) k z) : z = (A.length : Int) := by
  rcases h with ⟨i, m', h1, h2, h3⟩ | ⟨hno, _⟩
  · have hi : ((A ++ m :: B).map (·.1))[i]? = some k := by rw [List.getElem?_map, h1]; simp [h2]
    have hj : ((A ++ m :: B).map (·.1))[A.length]? = some k := by simp [hm]
    by_cases hne : i = A.length
    · rw [h3, hne]
    · exact absurd rfl (nodup_idx hk hi hj hne)
  · exact absurd hm (hno m (by simp))

theorem ref_set (A B : List Blk) (m : Blk) (rest : List Value) (q : Int) : (refCells (A ++ m :: B) ++ rest).take (0 + A.length * 4 + 3) ++ [.int .i64 q] ++ (refCells (A ++ m :: B) ++ rest).drop (0 + A.length * 4 + 3 + [Value.int .i64 q].length) = refCells (A ++ (m.1, m.2.1, q) :: B) ++ rest := by
  have e1 : refCells (A ++ m :: B) ++ rest = (refCells A ++ [.string m.1.1, .int .i64 m.1.2, .string (strB m.2.1)]) ++ (.int .i64 m.2.2 :: (refCells B ++ rest)) := by simp [refCells, blkCells]
  have e2 : refCells (A ++ (m.1, m.2.1, q) :: B) ++ rest = (refCells A ++ [.string m.1.1, .int .i64 m.1.2, .string (strB m.2.1)]) ++ (.int .i64 q :: (refCells B ++ rest)) := by simp [refCells, blkCells]
  have e3 : 0 + A.length * 4 + 3 = (refCells A ++ [Value.string m.1.1, .int .i64 m.1.2, .string (strB m.2.1)]).length := by simp [refCells_len]
  rw [e1, e2, e3, List.take_left']
  · rw [← List.drop_drop, List.drop_left' rfl]
    simp
  · rfl

theorem ref_pin_at (A B : List Blk) (m : Blk) (rest : List Value) : (refCells (A ++ m :: B) ++ rest)[0 + A.length * 4 + 3]? = some (.int .i64 m.2.2) := by
  have e1 : refCells (A ++ m :: B) ++ rest = (refCells A ++ [.string m.1.1, .int .i64 m.1.2, .string (strB m.2.1)]) ++ (.int .i64 m.2.2 :: (refCells B ++ rest)) := by simp [refCells, blkCells]
  have e3 : 0 + A.length * 4 + 3 = (refCells A ++ [Value.string m.1.1, .int .i64 m.1.2, .string (strB m.2.1)]).length := by simp [refCells_len]
  rw [e1, e3, List.getElem?_append_right (Nat.le_refl _)]
  simp
end Go.Proofs.Ytbbccdcjhoecpaa

namespace Go.Proofs.Ytbbccdcjhoecpaa
open Go Go.Fw Go.RowKit Go.Proofs Go.WideShapes
set_option linter.unusedVariables false
set_option linter.unusedSimpArgs false

theorem heldM_take {N : List Blk} {k : Key} {s : Nat} {m : Blk} (hm : N[s]? = some m) : heldM (N.take (s + 1)) k = heldM (N.take s) k + if 0 < m.2.2 ∧ m.1 ≠ k then (m.2.1.length : Int) else 0 := by
  rw [List.take_add_one, hm]
  simp [heldM]

theorem heldM_nn (N : List Blk) (k : Key) : 0 ≤ heldM N k ∧ heldM N k ≤ totM N := by
  induction N with
  | nil => exact ⟨Int.le_refl _, Int.le_refl _⟩
  | cons m N ih =>
    unfold heldM totM at *
    simp only [List.map_cons, List.sum_cons]
    split <;> omega

theorem pinsM_take {N : List Blk} {k : Key} {s : Nat} {m : Blk} (hk : (N.map (·.1)).Nodup) (hm : N[s]? = some m) : pinsM (N.take (s + 1)) k = if m.1 = k then m.2.2 else pinsM (N.take s) k := by
  have hnone : m.1 = k → ∀ x ∈ N.take s, x.1 ≠ k := fun he x hx e => by
    obtain ⟨j, hj⟩ := List.mem_iff_getElem?.1 hx
    rw [List.getElem?_take] at hj
    split at hj
    · rename_i hjs
      exact nodup_idx hk (i := j) (j := s) (by simp [hj]) (by simp [hm]) (by omega) (e.trans he.symm)
    · cases hj
  unfold pinsM
  rw [List.take_add_one, hm]
  simp only [Option.toList_some, List.find?_append, List.find?_cons, List.find?_nil]
  by_cases he : m.1 = k
  · rw [if_pos he, List.find?_eq_none.2 (fun x hx hd => hnone he x hx (of_decide_eq_true hd))]
    simp [he]
  · rw [if_neg he]
    simp [he]

theorem evictM_stop {bud : Int} {x : Blk} {P K : List Blk} (h : totM ((x :: P).reverse ++ K) ≤ bud) : evictM bud (x :: P) K = (x :: P).reverse ++ K := by
  unfold evictM; rw [if_pos h]
theorem evictM_one {bud : Int} {x : Blk} {K : List Blk} : evictM bud [x] K = x :: K := by
  unfold evictM
  split
  · simp
  · rw [if_neg (by simp)]; rfl
theorem evictM_go {bud : Int} {x y : Blk} {P K : List Blk} (h : ¬ totM ((x :: y :: P).reverse ++ K) ≤ bud) (hz : x.2.2 = 0) : evictM bud (x :: y :: P) K = evictM bud (y :: P) K := by
  conv => lhs; unfold evictM
  rw [if_neg h, if_pos ⟨by simp, hz⟩]
theorem evictM_hold {bud : Int} {x y : Blk} {P K : List Blk} (h : ¬ totM ((x :: y :: P).reverse ++ K) ≤ bud) (hz : x.2.2 ≠ 0) : evictM bud (x :: y :: P) K = evictM bud (y :: P) (x :: K) := by
  conv => lhs; unfold evictM
  rw [if_neg h, if_neg (fun h => hz h.2)]

theorem wo_mid' {A B : List Blk} {m : Blk} {k : Key} (hk : ((A ++ m :: B).map (·.1)).Nodup) (hm : m.1 = k) : woM (A ++ m :: B) k = A ++ B := by
  subst hm
  have hp : (A ++ m :: B).Perm (m :: (A ++ B)) := List.perm_middle
  have hn := (hp.map (·.1)).nodup_iff.1 hk
  simp only [List.map_cons, List.nodup_cons] at hn
  have g1 : ∀ x ∈ A ++ B, x.1 ≠ m.1 := fun x hx e => hn.1 (List.mem_map.2 ⟨x, hx, e⟩)
  unfold woM
  rw [List.filter_append, List.filter_cons, List.filter_eq_self.2 (fun x hx => decide_eq_true (g1 x (by simp [hx]))), List.filter_eq_self.2 (fun x hx => decide_eq_true (g1 x (by simp [hx])))]
  simp
theorem wo_none' {N : List Blk} {k : Key} (h : ∀ m ∈ N, m.1 ≠ k) : woM N k = N := List.filter_eq_self.2 fun m hm => decide_eq_true (h m hm)
theorem split_keyM (N : List Blk) (k : Key) : (∀ m ∈ N, m.1 ≠ k) ∨ ∃ A m B, N = A ++ m :: B ∧ m.1 = k := by
  by_cases h : ∃ m ∈ N, m.1 = k
  · obtain ⟨m, hm, hk⟩ := h
    obtain ⟨A, B, rfl⟩ := List.append_of_mem hm
    exact .inr ⟨A, m, B, rfl, hk⟩
  · exact .inl fun m hm e => h ⟨m, hm, e⟩
end Go.Proofs.Ytbbccdcjhoecpaa

namespace Go.Proofs.Ytbbccdcjhoecpaa
open Go Go.Fw Go.RowKit Go.Proofs

-- valise/valiseref17.without
set_option maxRecDepth 100000 in
theorem rwo_c {w0 : World} {v : Value} {A B : List Blk} {m : Blk} (h : RefL w0 v (A ++ m :: B)) (hl : (A ++ m :: B).length ≤ 1000000) : Ret Try.prog 43 #[v, .int .i64 ((A.length : Nat) : Int)] w0 fun r w' => RefL w' r (A ++ B) ∧ New w0 w' ∧ (∀ g, blkOf r = some g → w0.heap.size ≤ g) := by
  have M : St None' w0 [] w0 := Frm.refl _ _
  obtain ⟨p, cap, rfl, hcap⟩ := h.shape
  have hl2 : A.length + B.length + 1 ≤ 1000000 := by simpa [Nat.add_assoc] using hl
  have hcap2 : A.length + B.length + 1 ≤ cap := by simpa [Nat.add_assoc] using hcap
  have h2 : RefL w0 (.slice p ((A ++ [m]) ++ B).length cap) ((A ++ [m]) ++ B) := by simpa using h
  refine Ret.of_W Try.func43 rfl Try.ntmps43 rfl ?_
  refine W.seq ?_
  refine W.sub [(0, _), (1, _)] ⟨rfl, rfl, trivial⟩ ?_
  refine W.reg [(0, false)] (by kernel_rfl) ?_ -- region 0
  intro K hK
  refine x_assign rfl rfl rfl rfl ?_
  refine Ex.done (hK _ _ ?_)
  refine At.then_n ?_
  refine W.seq ?_
  refine W.sub [(0, _), (1, _)] ⟨rfl, rfl, trivial⟩ ?_
  refine W.regD (by kernel_rfl) #[0, 0, 0, 6, 15, 0, 0, 64, 224, 511, 1023] [(1, false), (2, false), (3, false), (5, false), (6, false), (7, false), (8, false), (0, true), (4, true), (9, true), (10, false)] (by kernel_rfl) ?_ -- region 1
  intro K wD1 hK hwD1
  have M := M.drew hwD1
  refine x_move rfl rfl rfl rfl ?_
  refine x_move rfl rfl rfl rfl ?_
  refine x_slh A.length rfl rfl rfl Try.underlying44 sz53 rfl rfl rfl (by omega) ?_ -- sl1 ref.go:49
  refine x_move rfl rfl rfl rfl ?_
  refine x_move rfl rfl rfl rfl ?_
  refine x_add ((A.length + 1 : Nat) : Int) rfl rfl rfl rfl rfl (by rw [wrap64_id (by omega) (by omega)]; omega) ?_ -- ar1 ref.go:49
  refine x_sll (A.length + 1) rfl rfl rfl Try.underlying44 sz53 rfl rfl rfl (by simp) ?_ -- sl2 ref.go:49
  -- bs1: ref.go:49
  refine x_bs0 rfl rfl rfl Try.underlying44 sz53 ?_
  intro b1 w1 hb1 hw1
  have M := M.alloc hb1 hw1
  have hge := M.ge 0 rfl
  refine ⟨trivial, ?_⟩
  -- ap1: ref.go:49
  refine x_appF (cs := []) rfl rfl rfl rfl Try.underlying44 sz53 ze53 rfl by53 rfl rfl (.inr ⟨b1, 0, [], 53, rfl, M.at_ 0 rfl, rfl, rfl⟩) (by simp) (RefL.take (h.new M.frm)).src (by first | omega | (simp; omega)) (by decide) (by first | omega | (simp; omega)) ?_
  intro v2 w2 hv2 hfv2 hbv2
  have N2 : New w0 w2 := M.frm.trans hfv2 (fun g hg _ => by simp [blkOf] at hg; subst hg; exact .inr hge)
  have hd2 := RefL.drop (A := A ++ [m]) (B := B) (j := A.length + 1) (h2.new N2) (by simp)
  rw [show A ++ [m] ++ B = A ++ m :: B from by simp] at hd2
  refine ⟨trivial, ?_⟩
  -- ap2: ref.go:49
  refine x_appF  rfl rfl rfl rfl Try.underlying44 sz53 ze53 rfl by53 rfl rfl hv2 (by simpa using refCells_one A) hd2.src (by first | omega | (simp; omega)) (by decide) (by first | omega | (simp; omega)) ?_
  intro v3 w3 hv3 hfv3 hbv3
  refine ⟨trivial, ?_⟩
  refine x_assign rfl rfl rfl rfl ?_
  refine Ex.done (hK _ _ ?_)
  refine At.then_n ?_
  refine W.ret ?_
  refine At.ret1 (.tmp 4) rfl ⟨rfl, trivial⟩ ?_ -- ret1
  have hb2 : ∀ g, blkOf v2 = some g → w0.heap.size ≤ g := fun g hg => by
    rcases hbv2 g hg with h3 | h3
    · simp [blkOf] at h3; subst h3; exact hge
    · have := M.size; omega
  refine ⟨OwS.ref hv3 (by simp) (by simp [refCells_app]), N2.trans hfv3 (fun g hg _ => .inr (hb2 g hg)), fun g hg => ?_⟩
  rcases hbv3 g hg with h3 | h3
  · exact hb2 g h3
  · have := N2.size; omega
end Go.Proofs.Ytbbccdcjhoecpaa

namespace Go.Proofs.Ytbbccdcjhoecpaa
open Go Go.Fw Go.RowKit Go.Proofs

-- valise/valiseref17.New
set_option maxRecDepth 100000 in
theorem rnew_no {w : World} {bud : Int} (h : bud < 0 ∨ 1048576 < bud) : Ret Try.prog 17 #[.int .i64 bud] w fun r w' => r = .tuple #[refV 0 (.slice none 0 0), .int .i64 2] ∧ New w w' := by
  have M : St None' w [] w := Frm.refl _ _
  refine Ret.of_W Try.func17 rfl Try.ntmps17 rfl ?_
  refine W.seq ?_
  refine W.sub [(0, _)] ⟨rfl, trivial⟩ ?_
  refine W.reg [(0, true), (1, false)] (by kernel_rfl) ?_ -- region 0
  intro K hK
  refine x_alloc [_, _] rfl rfl rfl ze46 rfl ?_ -- al1 ref.go:30
  intro bal1 wal1 hbal1 hwal1
  have M := M.alloc hbal1 hwal1
  refine ⟨trivial, ?_⟩
  refine x_assign rfl rfl rfl rfl ?_
  refine Ex.done (hK _ _ ?_)
  refine At.then_n ?_
  refine W.seq ?_
  refine W.seq ?_
  refine W.sub [(0, _), (2, _)] ⟨rfl, rfl, trivial⟩ ?_
  refine W.reg [(0, false), (1, false), (2, false), (3, false), (4, false), (5, false)] (by kernel_rfl) ?_ -- region 1
  intro K hK
  refine x_move rfl rfl rfl rfl ?_
  refine x_lss _ rfl rfl rfl rfl rfl rfl ?_ -- cm1 ref.go:31
  refine x_move rfl rfl rfl rfl ?_
  refine Ex.split 6 rfl (fun hsp1 => ?_) (fun hsp1 => ?_)
  · -- sp1 True
    refine Ex.skip_ rfl rfl rfl ?_
    refine Ex.skip_ rfl rfl rfl ?_
    refine x_pickT rfl rfl rfl rfl rfl ?_
    refine Ex.done (hK _ _ ?_)
    refine At.then_n ?_
    refine W.condT rfl ?_ -- co1
    refine W.seq ?_
    refine W.sub [(2, _)] ⟨rfl, trivial⟩ ?_
    refine W.reg [(0, false), (1, true), (2, false)] (by kernel_rfl) ?_ -- region 2
    intro K hK
    refine x_build [_, _] rfl rfl rfl pl46 ze46 rfl rfl rfl ?_ -- bu1 ref.go:32
    refine x_st [_, _] _ rfl rfl rfl sz46 rfl rfl rfl rfl (by first | exact M.at_ 0 rfl | exact M.at_ 1 rfl | exact M.at_ 2 rfl | exact M.at_ 3 rfl | exact M.at_ 4 rfl | exact M.at_ 5 rfl) rfl rfl rfl ?_ -- st1 ref.go:32
    intro wst1 hwst1
    have M := M.put 0 rfl hwst1
    refine ⟨trivial, ?_⟩
    refine x_assign rfl rfl rfl rfl ?_
    refine Ex.done (hK _ _ ?_)
    refine At.then_n ?_
    refine W.ret ?_
    refine At.then_r ?_
    refine At.ret2 (.cell 2 46) (.tmp 3) rfl ⟨⟨_, rfl, run_loadVarA (l := [_, _]) Try.underlying46 rfl sz46 ⟨_, _, _, M.at_ 0 rfl, rfl⟩ (Nat.zero_lt_succ _)⟩, rfl, trivial⟩ ?_ -- ret1
    exact ⟨rfl, M.frm⟩
  · -- sp1 False
    refine x_move rfl rfl rfl rfl ?_
    refine x_gtr _ rfl rfl rfl rfl rfl rfl ?_ -- cm2 ref.go:31
    refine x_pickF rfl rfl rfl rfl rfl ?_
    refine Ex.done (hK _ _ ?_)
    refine At.then_n ?_
    refine W.cond rfl (fun hco2 => ?_) (fun hco2 => ?_) -- co2
    · refine W.seq ?_
      refine W.sub [(2, _)] ⟨rfl, trivial⟩ ?_
      refine W.reg [(0, false), (1, true), (2, false)] (by kernel_rfl) ?_ -- region 2
      intro K hK
      refine x_build [_, _] rfl rfl rfl pl46 ze46 rfl rfl rfl ?_ -- bu2 ref.go:32
      refine x_st [_, _] _ rfl rfl rfl sz46 rfl rfl rfl rfl (by first | exact M.at_ 0 rfl | exact M.at_ 1 rfl | exact M.at_ 2 rfl | exact M.at_ 3 rfl | exact M.at_ 4 rfl | exact M.at_ 5 rfl) rfl rfl rfl ?_ -- st2 ref.go:32
      intro wst2 hwst2
      have M := M.put 0 rfl hwst2
      refine ⟨trivial, ?_⟩
      refine x_assign rfl rfl rfl rfl ?_
      refine Ex.done (hK _ _ ?_)
      refine At.then_n ?_
      refine W.ret ?_
      refine At.then_r ?_
      refine At.ret2 (.cell 2 46) (.tmp 3) rfl ⟨⟨_, rfl, run_loadVarA (l := [_, _]) Try.underlying46 rfl sz46 ⟨_, _, _, M.at_ 0 rfl, rfl⟩ (Nat.zero_lt_succ _)⟩, rfl, trivial⟩ ?_ -- ret2
      exact ⟨rfl, M.frm⟩
    · exact absurd h (by have := of_decide_eq_false hco2; have := of_decide_eq_false hsp1; omega)

-- valise/valiseref17.New
set_option maxRecDepth 100000 in
theorem rnew_ok {w : World} {bud : Int} (h : 0 ≤ bud ∧ bud ≤ 1048576) : Ret Try.prog 17 #[.int .i64 bud] w fun r w' => r = .tuple #[refV bud (.slice none 0 0), .int .i64 0] ∧ New w w' := by
  have M : St None' w [] w := Frm.refl _ _
  refine Ret.of_W Try.func17 rfl Try.ntmps17 rfl ?_
  refine W.seq ?_
  refine W.sub [(0, _)] ⟨rfl, trivial⟩ ?_
  refine W.reg [(0, true), (1, false)] (by kernel_rfl) ?_ -- region 0
  intro K hK
  refine x_alloc [_, _] rfl rfl rfl ze46 rfl ?_ -- al1 ref.go:30
  intro bal1 wal1 hbal1 hwal1
  have M := M.alloc hbal1 hwal1
  refine ⟨trivial, ?_⟩
  refine x_assign rfl rfl rfl rfl ?_
  refine Ex.done (hK _ _ ?_)
  refine At.then_n ?_
  refine W.seq ?_
  refine W.seq ?_
  refine W.sub [(0, _), (2, _)] ⟨rfl, rfl, trivial⟩ ?_
  refine W.reg [(0, false), (1, false), (2, false), (3, false), (4, false), (5, false)] (by kernel_rfl) ?_ -- region 1
  intro K hK
  refine x_move rfl rfl rfl rfl ?_
  refine x_lss false rfl rfl rfl rfl rfl (decide_eq_false (by omega)) ?_ -- cm1 ref.go:31
  refine x_move rfl rfl rfl rfl ?_
  refine x_move rfl rfl rfl rfl ?_
  refine x_gtr false rfl rfl rfl rfl rfl (decide_eq_false (by omega)) ?_ -- cm2 ref.go:31
  refine x_pickF rfl rfl rfl rfl rfl ?_
  refine Ex.done (hK _ _ ?_)
  refine At.then_n ?_
  refine W.condF rfl ?_ -- co1
  refine W.skip ?_
  refine At.then_n ?_
  refine W.seq ?_
  refine W.sub [(0, _), (2, _)] ⟨rfl, rfl, trivial⟩ ?_
  refine W.reg [(0, false), (1, false), (2, true), (3, false)] (by kernel_rfl) ?_ -- region 3
  intro K hK
  refine x_move rfl rfl rfl rfl ?_
  refine x_build [_, _] rfl rfl rfl pl46 ze46 rfl rfl rfl ?_ -- bu1 ref.go:34
  refine x_st [_, _] _ rfl rfl rfl sz46 rfl rfl rfl rfl (by first | exact M.at_ 0 rfl | exact M.at_ 1 rfl | exact M.at_ 2 rfl | exact M.at_ 3 rfl | exact M.at_ 4 rfl | exact M.at_ 5 rfl) rfl rfl rfl ?_ -- st1 ref.go:34
  intro wst1 hwst1
  have M := M.put 0 rfl hwst1
  refine ⟨trivial, ?_⟩
  refine x_assign rfl rfl rfl rfl ?_
  refine Ex.done (hK _ _ ?_)
  refine At.then_n ?_
  refine W.ret ?_
  refine At.ret2 (.cell 2 46) (.tmp 3) rfl ⟨⟨_, rfl, run_loadVarA (l := [_, _]) Try.underlying46 rfl sz46 ⟨_, _, _, M.at_ 0 rfl, rfl⟩ (Nat.zero_lt_succ _)⟩, rfl, trivial⟩ ?_ -- ret1
  exact ⟨rfl, M.frm⟩

-- (valise/valiseref17.Cache).At
set_option maxRecDepth 100000 in
theorem rat_c {w0 : World} {v : Value} {bud : Int} {N : List Blk} {k : Key} (h : RefL w0 v N) (hl : N.length ≤ 1000000) : Ret Try.prog 42 #[refV bud v, encK k] w0 fun r w' => (∃ z, r = .int .i64 z ∧ AtP N k z) ∧ New w0 w' := by
  have M : St None' w0 [] w0 := Frm.refl _ _
  obtain ⟨p, cap, rfl, hcap⟩ := h.shape
  refine Ret.of_W Try.func42 rfl Try.ntmps42 rfl ?_
  refine W.seq ?_
  refine W.sub [(0, _), (1, _)] ⟨rfl, rfl, trivial⟩ ?_
  refine W.reg [(0, true), (1, true), (2, false)] (by kernel_rfl) ?_ -- region 0
  intro K hK
  refine x_box [_, _] rfl rfl rfl rfl rfl ?_ -- bx1 ref.go:38
  intro bbx1 wbx1 hbbx1 hwbx1
  have M := M.alloc hbbx1 hwbx1
  refine ⟨trivial, ?_⟩
  refine x_box [_, _] rfl rfl rfl rfl rfl ?_ -- bx2 ref.go:38
  intro bbx2 wbx2 hbbx2 hwbx2
  have M := M.alloc hbbx2 hwbx2
  refine ⟨trivial, ?_⟩
  refine x_assign rfl rfl rfl rfl ?_
  refine Ex.done (hK _ _ ?_)
  refine At.then_n ?_
  refine W.seq ?_
  refine W.seq ?_
  refine W.sub [(2, _), (3, _)] ⟨rfl, rfl, trivial⟩ ?_
  refine W.reg [(0, false)] (by kernel_rfl) ?_ -- region 1
  intro K hK
  refine x_assign rfl rfl rfl rfl ?_
  refine Ex.done (hK _ _ ?_)
  refine At.then_n ?_
  refine W.block ?_
  refine W.loop (σ := Nat) (fun s => [(2, _), (3, _), (5, .int .i64 ((s : Nat) : Int))]) (fun s w => s ≤ N.length ∧ (∀ i m, i < s → N[i]? = some m → m.1 ≠ k) ∧ St None' w0 [(bbx1, .cells [.int .i64 bud, .slice p N.length cap].toArray 46 (0, 0)), (bbx2, .cells [.string k.1, .int .i64 k.2].toArray 29 (0, 0))] w) (fun s => N.length - s) 0 ⟨rfl, rfl, rfl, trivial⟩ ⟨Nat.zero_le _, fun i m hi => by omega, M⟩ ?_ -- loop1
  rintro s w ⟨hsl, hno, M⟩
  refine W.seq ?_
  refine W.seq ?_
  refine W.sub [(2, _), (3, _), (5, _)] ⟨rfl, rfl, rfl, trivial⟩ ?_
  refine W.reg [(0, false), (1, false), (2, false), (3, false), (4, false)] (by kernel_rfl) ?_ -- region 2
  intro K hK
  refine x_move rfl rfl rfl rfl ?_
  refine x_fa rfl rfl rfl fo46_1 rfl ?_
  refine x_ld rfl rfl rfl Try.underlying44 rfl rfl (cell_of (by first | exact M.at_ 0 rfl | exact M.at_ 1 rfl | exact M.at_ 2 rfl | exact M.at_ 3 rfl | exact M.at_ 4 rfl | exact M.at_ 5 rfl) rfl) ?_ -- ld1 ref.go:39
  refine x_len rfl rfl rfl rfl Try.underlying44 rfl ?_
  refine x_lss _ rfl rfl rfl rfl rfl rfl ?_ -- cm1 ref.go:39
  refine Ex.done (hK _ _ ?_)
  refine At.then_n ?_
  refine W.cond rfl (fun hco1 => ?_) (fun hco1 => ?_) -- co1
  · have hlt : s < N.length := by have := of_decide_eq_true hco1; omega
    obtain ⟨m, hm⟩ : ∃ m, N[s]? = some m := ⟨N[s], List.getElem?_eq_getElem hlt⟩
    refine W.skip ?_
    refine At.then_n ?_
    refine W.seq ?_
    refine W.block ?_
    refine W.seq ?_
    refine W.sub [(2, _), (3, _), (5, _)] ⟨rfl, rfl, rfl, trivial⟩ ?_
    refine W.regD (by kernel_rfl) #[0, 1, 0, 7, 15, 31, 0, 127] [(0, false), (1, false), (2, false), (3, false), (4, false), (5, false), (6, false), (7, false)] (by kernel_rfl) ?_ -- region 4
    intro K wD1 hK hwD1
    have M := M.drew hwD1
    obtain ⟨bk, off, rfl, hrow⟩ := (h.new M.frm).row hm
    refine x_fa rfl rfl rfl fo46_1 rfl ?_
    refine x_ld rfl rfl rfl Try.underlying44 rfl rfl (cell_of (by first | exact M.at_ 0 rfl | exact M.at_ 1 rfl | exact M.at_ 2 rfl | exact M.at_ 3 rfl | exact M.at_ 4 rfl | exact M.at_ 5 rfl) rfl) ?_ -- ld2 ref.go:40
    refine x_move rfl rfl rfl rfl ?_
    refine x_ia s rfl rfl rfl Try.underlying44 sz53 rfl rfl rfl hlt ?_ -- ia1 ref.go:40
    refine x_fa rfl rfl rfl fo53_0 rfl ?_
    refine x_ldA [_, _] rfl rfl rfl Try.underlying29 rfl sz29 rfl rfl (row_bkey hrow) ?_ -- ld3 ref.go:40
    refine x_ldA [_, _] rfl rfl rfl Try.underlying29 rfl sz29 rfl rfl ⟨_, _, _, (by first | exact M.at_ 0 rfl | exact M.at_ 1 rfl | exact M.at_ 2 rfl | exact M.at_ 3 rfl | exact M.at_ 4 rfl | exact M.at_ 5 rfl), rfl⟩ ?_ -- ld4 ref.go:40
    refine x_bin (v := .bool (decide (m.1 = k))) rfl rfl rfl rfl rfl (fun w' => run_eq_key m.1 k _ _ w') ?_ -- eq1 ref.go:40
    refine Ex.done (hK _ _ ?_)
    refine At.then_n ?_
    refine W.cond rfl (fun hco2 => ?_) (fun hco2 => ?_) -- co2
    · refine W.seq ?_
      refine W.sub [(5, _)] ⟨rfl, trivial⟩ ?_
      refine W.reg [(0, false), (1, false)] (by kernel_rfl) ?_ -- region 5
      intro K hK
      refine x_move rfl rfl rfl rfl ?_
      refine x_assign rfl rfl rfl rfl ?_
      refine Ex.done (hK _ _ ?_)
      refine At.then_n ?_
      refine W.ret ?_
      refine At.blk_r ?_
      refine At.then_r ?_
      refine At.loop_r ?_
      refine At.blk_r ?_
      refine At.then_r ?_
      refine At.ret1 (.tmp 4) rfl ⟨rfl, trivial⟩ ?_ -- ret1
      exact ⟨⟨_, rfl, .inl ⟨s, m, hm, of_decide_eq_true hco2, rfl⟩⟩, M.frm⟩
    · refine W.skip ?_
      refine At.blk_n ?_
      refine At.then_n ?_
      refine W.sub [(2, _), (3, _), (5, _)] ⟨rfl, rfl, rfl, trivial⟩ ?_
      refine W.reg [(0, false), (1, false), (2, false)] (by kernel_rfl) ?_ -- region 3
      intro K hK
      refine x_move rfl rfl rfl rfl ?_
      refine x_add ((s + 1 : Nat) : Int) rfl rfl rfl rfl rfl (by rw [wrap64_id (by omega) (by omega)]; omega) ?_ -- ar1 ref.go:39
      refine x_assign rfl rfl rfl rfl ?_
      refine Ex.done (hK _ _ ?_)
      -- bk1: back to loop1
      refine At.back (s + 1) ⟨rfl, rfl, rfl, trivial⟩ ⟨by omega, fun i m' hi hm' => ?_, M⟩ (by omega)
      rcases Nat.lt_or_ge i s with h1 | h1
      · exact hno i m' h1 hm'
      · have : i = s := by omega
        subst this
        rw [hm] at hm'; cases hm'
        exact of_decide_eq_false hco2
  · refine W.exit ?_
    refine At.then_x ?_
    refine At.loop_x ?_
    refine At.blk_x ?_
    refine At.then_n ?_
    refine W.seq ?_
    refine W.sub [] trivial ?_
    refine W.reg [(0, false)] (by kernel_rfl) ?_ -- region 6
    intro K hK
    refine x_assign rfl rfl rfl rfl ?_
    refine Ex.done (hK _ _ ?_)
    refine At.then_n ?_
    refine W.ret ?_
    refine At.ret1 (.tmp 4) rfl ⟨rfl, trivial⟩ ?_ -- ret2
    have hs : s = N.length := by have := of_decide_eq_false hco1; omega
    refine ⟨⟨_, rfl, .inr ⟨fun m hm => ?_, rfl⟩⟩, M.frm⟩
    obtain ⟨i, hi⟩ := List.mem_iff_getElem?.1 hm
    exact hno i m (by rw [hs]; exact (List.getElem?_eq_some_iff.1 hi).1) hi

-- (valise/valiseref17.Cache).Size
set_option maxRecDepth 100000 in
theorem rsize_c {w0 : World} {v : Value} {bud : Int} {N : List Blk} (h : RefL w0 v N) (hl : N.length ≤ 1000000) (ht : totM N ≤ 4294967296) : Ret Try.prog 37 #[refV bud v] w0 fun r w' => r = .int .i64 (totM N) ∧ New w0 w' := by
  have M : St None' w0 [] w0 := Frm.refl _ _
  obtain ⟨p, cap, rfl, hcap⟩ := h.shape
  refine Ret.of_W Try.func37 rfl Try.ntmps37 rfl ?_
  refine W.seq ?_
  refine W.sub [(0, _)] ⟨rfl, trivial⟩ ?_
  refine W.reg [(0, true), (1, false)] (by kernel_rfl) ?_ -- region 0
  intro K hK
  refine x_box [_, _] rfl rfl rfl rfl rfl ?_ -- bx1 ref.go:70
  intro bbx1 wbx1 hbbx1 hwbx1
  have M := M.alloc hbbx1 hwbx1
  refine ⟨trivial, ?_⟩
  refine x_assign rfl rfl rfl rfl ?_
  refine Ex.done (hK _ _ ?_)
  refine At.then_n ?_
  refine W.seq ?_
  refine W.sub [(1, _)] ⟨rfl, trivial⟩ ?_
  refine W.reg [(0, false)] (by kernel_rfl) ?_ -- region 1
  intro K hK
  refine x_assign rfl rfl rfl rfl ?_
  refine Ex.done (hK _ _ ?_)
  refine At.then_n ?_
  refine W.seq ?_
  refine W.seq ?_
  refine W.sub [(1, _), (3, _)] ⟨rfl, rfl, trivial⟩ ?_
  refine W.reg [(0, false)] (by kernel_rfl) ?_ -- region 2
  intro K hK
  refine x_assign rfl rfl rfl rfl ?_
  refine Ex.done (hK _ _ ?_)
  refine At.then_n ?_
  refine W.block ?_
  refine W.loop (σ := Nat) (fun s => [(1, _), (3, .int .i64 (totM (N.take s))), (4, .int .i64 ((s : Nat) : Int))]) (fun s w => s ≤ N.length ∧ St None' w0 [(bbx1, .cells [.int .i64 bud, .slice p N.length cap].toArray 46 (0, 0))] w) (fun s => N.length - s) 0 ⟨rfl, rfl, rfl, trivial⟩ ⟨Nat.zero_le _, M⟩ ?_ -- loop1
  rintro s w ⟨hsl, M⟩
  refine W.seq ?_
  refine W.seq ?_
  refine W.sub [(1, _), (3, _), (4, _)] ⟨rfl, rfl, rfl, trivial⟩ ?_
  refine W.reg [(0, false), (1, false), (2, false), (3, false), (4, false)] (by kernel_rfl) ?_ -- region 3
  intro K hK
  refine x_move rfl rfl rfl rfl ?_
  refine x_fa rfl rfl rfl fo46_1 rfl ?_
  refine x_ld rfl rfl rfl Try.underlying44 rfl rfl (cell_of (by first | exact M.at_ 0 rfl | exact M.at_ 1 rfl | exact M.at_ 2 rfl | exact M.at_ 3 rfl | exact M.at_ 4 rfl | exact M.at_ 5 rfl) rfl) ?_ -- ld1 ref.go:72
  refine x_len rfl rfl rfl rfl Try.underlying44 rfl ?_
  refine x_lss _ rfl rfl rfl rfl rfl rfl ?_ -- cm1 ref.go:72
  refine Ex.done (hK _ _ ?_)
  refine At.then_n ?_
  refine W.cond rfl (fun hco1 => ?_) (fun hco1 => ?_) -- co1
  · have hlt : s < N.length := by have := of_decide_eq_true hco1; omega
    obtain ⟨m, hm⟩ : ∃ m, N[s]? = some m := ⟨N[s], List.getElem?_eq_getElem hlt⟩
    obtain ⟨bk, off, rfl, hrow⟩ := (h.new M.frm).row hm
    have htk := totM_take hm
    have hnn := totM_nn (N.take s)
    have hle := totM_take_le (M := N) (s + 1)
    have esz : (strB m.2.1).size = m.2.1.length := by simp [strB, ByteArray.size]
    refine W.skip ?_
    refine At.then_n ?_
    refine W.seq ?_
    refine W.block ?_
    refine W.sub [(1, _), (3, _), (4, _)] ⟨rfl, rfl, rfl, trivial⟩ ?_
    refine W.reg [(0, false), (1, false), (2, false), (3, false), (4, false), (5, false), (6, false), (7, false), (8, false), (9, false)] (by kernel_rfl) ?_ -- region 5
    intro K hK
    refine x_move rfl rfl rfl rfl ?_
    refine x_fa rfl rfl rfl fo46_1 rfl ?_
    refine x_ld rfl rfl rfl Try.underlying44 rfl rfl (cell_of (by first | exact M.at_ 0 rfl | exact M.at_ 1 rfl | exact M.at_ 2 rfl | exact M.at_ 3 rfl | exact M.at_ 4 rfl | exact M.at_ 5 rfl) rfl) ?_ -- ld2 ref.go:73
    refine x_move rfl rfl rfl rfl ?_
    refine x_ia s rfl rfl rfl Try.underlying44 sz53 rfl rfl rfl hlt ?_ -- ia1 ref.go:73
    refine x_fa rfl rfl rfl fo53_1 rfl ?_
    refine x_ld rfl rfl rfl Try.underlying9 rfl rfl (row_cell (j := 2) hrow rfl) ?_ -- ld3 ref.go:73
    refine x_lens rfl rfl rfl rfl Try.underlying9 rfl ?_
    refine x_add (totM (N.take (s + 1))) rfl rfl rfl rfl rfl (by rw [htk]; show IntKind.i64.wrap (totM (N.take s) + ((strB m.2.1).size : Int)) = _; rw [esz, wrap64_id (by omega) (by omega)]) ?_ -- ar1 ref.go:73
    refine x_assign rfl rfl rfl rfl ?_
    refine Ex.done (hK _ _ ?_)
    refine At.blk_n ?_
    refine At.then_n ?_
    refine W.sub [(1, _), (3, _), (4, _)] ⟨rfl, rfl, rfl, trivial⟩ ?_
    refine W.reg [(0, false), (1, false), (2, false)] (by kernel_rfl) ?_ -- region 4
    intro K hK
    refine x_move rfl rfl rfl rfl ?_
    refine x_add ((s + 1 : Nat) : Int) rfl rfl rfl rfl rfl (by rw [wrap64_id (by omega) (by omega)]; omega) ?_ -- ar2 ref.go:72
    refine x_assign rfl rfl rfl rfl ?_
    refine Ex.done (hK _ _ ?_)
    -- bk1: back to loop1
    exact At.back (s + 1) ⟨rfl, rfl, rfl, trivial⟩ ⟨by omega, M⟩ (by omega)
  · refine W.exit ?_
    refine At.then_x ?_
    refine At.loop_x ?_
    refine At.blk_x ?_
    refine At.then_n ?_
    refine W.seq ?_
    refine W.sub [(3, _)] ⟨rfl, trivial⟩ ?_
    refine W.reg [(0, false), (1, false)] (by kernel_rfl) ?_ -- region 6
    intro K hK
    refine x_move rfl rfl rfl rfl ?_
    refine x_assign rfl rfl rfl rfl ?_
    refine Ex.done (hK _ _ ?_)
    refine At.then_n ?_
    refine W.ret ?_
    refine At.ret1 (.tmp 2) rfl ⟨rfl, trivial⟩ ?_ -- ret1
    have hs : s = N.length := by have := of_decide_eq_false hco1; omega
    subst hs
    exact ⟨by simp, M.frm⟩
end Go.Proofs.Ytbbccdcjhoecpaa

namespace Go.Proofs.Ytbbccdcjhoecpaa
open Go Go.Fw Go.RowKit Go.Proofs

-- (valise/valiseref17.Cache).front
set_option maxRecDepth 100000 in
theorem rfront_c {w0 : World} {v : Value} {bud : Int} {N : List Blk} {m : Blk} (h : RefL w0 v N) (hl : N.length ≤ 1000000) : Ret Try.prog 44 #[refV bud v, .agg (blkCells m).toArray] w0 fun r w' => ∃ v', r = refV bud v' ∧ RefL w' v' (m :: N) ∧ New w0 w' ∧ (∀ g, blkOf v' = some g → w0.heap.size ≤ g) := by
  have M : St None' w0 [] w0 := Frm.refl _ _
  obtain ⟨p, cap, rfl, hcap⟩ := h.shape
  refine Ret.of_W Try.func44 rfl Try.ntmps44 rfl ?_
  refine W.seq ?_
  refine W.sub [(0, _), (1, _)] ⟨rfl, rfl, trivial⟩ ?_
  refine W.reg [(0, true), (1, true), (2, true)] (by kernel_rfl) ?_ -- region 0
  intro K hK
  refine x_box [_, _] rfl rfl rfl rfl rfl ?_ -- bx1 ref.go:53
  intro bbx1 wbx1 hbbx1 hwbx1
  have M := M.alloc hbbx1 hwbx1
  refine ⟨trivial, ?_⟩
  refine x_box [_, _, _, _] rfl rfl rfl rfl rfl ?_ -- bx2 ref.go:53
  intro bbx2 wbx2 hbbx2 hwbx2
  have M := M.alloc hbbx2 hwbx2
  refine ⟨trivial, ?_⟩
  refine x_alloc [_, _] rfl rfl rfl ze46 rfl ?_ -- al1 ref.go:53
  intro bal1 wal1 hbal1 hwal1
  have M := M.alloc hbal1 hwal1
  refine ⟨trivial, ?_⟩
  refine Ex.done (hK _ _ ?_)
  refine At.then_n ?_
  refine W.seq ?_
  refine W.sub [(2, _), (3, _), (4, _)] ⟨rfl, rfl, rfl, trivial⟩ ?_
  refine W.reg [(0, false), (1, true), (2, false), (3, false), (4, true), (5, false), (6, true)] (by kernel_rfl) ?_ -- region 1
  intro K hK
  refine x_ldA [_, _, _, _] rfl rfl rfl Try.underlying53 rfl sz53 rfl rfl ⟨_, _, _, (by first | exact M.at_ 0 rfl | exact M.at_ 1 rfl | exact M.at_ 2 rfl | exact M.at_ 3 rfl | exact M.at_ 4 rfl | exact M.at_ 5 rfl), rfl⟩ ?_ -- ld1 ref.go:54
  -- bs1: ref.go:54
  refine x_bs1 (cs := blkCells m) rfl rfl rfl Try.underlying44 sz53 ze53 (Z := [_, _, _, _]) rfl rfl (by decide) (by decide) rfl rfl rfl ?_
  intro b5 w5 hb5 hw5
  have M5 := M.alloc hb5 hw5
  have M := M5.sub (List.sublist_append_left _ [_])
  have hnd5 := M5.nd
  have hne5 : b5 ≠ bbx1 ∧ b5 ≠ bbx2 ∧ b5 ≠ bal1 := by simp at hnd5; exact ⟨Ne.symm hnd5.1.2.2, Ne.symm hnd5.2.1.2, Ne.symm hnd5.2.2⟩
  have hlt5 : bbx1 < w5.heap.size ∧ bbx2 < w5.heap.size ∧ bal1 < w5.heap.size := ⟨M.lt (List.mem_of_getElem? (i := 0) rfl), M.lt (List.mem_of_getElem? (i := 1) rfl), M.lt (List.mem_of_getElem? (i := 2) rfl)⟩
  refine ⟨trivial, ?_⟩
  refine x_fa rfl rfl rfl fo46_1 rfl ?_
  refine x_ld rfl rfl rfl Try.underlying44 rfl rfl (cell_of (by first | exact M.at_ 0 rfl | exact M.at_ 1 rfl | exact M.at_ 2 rfl | exact M.at_ 3 rfl | exact M.at_ 4 rfl | exact M.at_ 5 rfl) rfl) ?_ -- ld2 ref.go:54
  -- ap1: ref.go:54
  refine x_appF (cs := blkCells m) rfl rfl rfl rfl Try.underlying44 sz53 ze53 rfl by53 rfl rfl (.inr ⟨b5, 1, [], 53, rfl, M5.at_ 3 rfl, rfl, rfl⟩) (blk_cells_one m) (h.new M.frm).src (by first | omega | (simp; omega)) (by decide) (by first | omega | (simp; omega)) ?_
  intro v6 w6 hv6 hfv6 hbv6
  obtain ⟨p6, cap6, rfl⟩ := OwS.shape hv6
  have hne6 : ∀ g, blkOf (.slice p6 (1 + N.length) cap6) = some g → g ≠ bbx1 ∧ g ≠ bbx2 ∧ g ≠ bal1 := fun g hg => by
    rcases hbv6 g hg with h3 | h3
    · simp [blkOf] at h3; subst h3; exact hne5
    · omega
  have hge6 : ∀ g, blkOf (.slice p6 (1 + N.length) cap6) = some g → w0.heap.size ≤ g := fun g hg => by
    rcases hbv6 g hg with h3 | h3
    · simp [blkOf] at h3; subst h3; exact M5.ge 3 rfl
    · have := M.size; omega
  have M := M.call' hfv6 (by
    intro x hx hb
    have hx' : x.1 = bbx1 ∨ x.1 = bbx2 ∨ x.1 = bal1 := by
      simp at hx; rcases hx with rfl | rfl | rfl <;> simp
    simp [blkOf] at hb
    omega) (fun b hb => .inr (by simp [blkOf] at hb; subst hb; exact M5.ge 3 rfl))
  have hR : RefL w6 (.slice p6 (1 + N.length) cap6) (m :: N) := OwS.ref hv6 (by simp; omega) (by simp [refCells])
  refine ⟨trivial, ?_⟩
  refine x_fa rfl rfl rfl fo46_1 rfl ?_
  refine x_st [_] _ rfl rfl rfl sz44 rfl rfl rfl rfl (by first | exact M.at_ 0 rfl | exact M.at_ 1 rfl | exact M.at_ 2 rfl | exact M.at_ 3 rfl | exact M.at_ 4 rfl | exact M.at_ 5 rfl) rfl rfl rfl ?_ -- st1 ref.go:54
  intro wst1 hwst1
  have M := M.put 0 rfl hwst1
  have hR := hR.put (fun g hg => (hne6 g hg).1) hwst1
  refine ⟨trivial, ?_⟩
  refine Ex.done (hK _ _ ?_)
  refine At.then_n ?_
  refine W.seq ?_
  refine W.sub [(2, _), (4, _)] ⟨rfl, rfl, trivial⟩ ?_
  refine W.reg [(0, false), (1, true)] (by kernel_rfl) ?_ -- region 2
  intro K hK
  refine x_ldA [_, _] rfl rfl rfl Try.underlying46 rfl sz46 rfl rfl ⟨_, _, _, (by first | exact M.at_ 0 rfl | exact M.at_ 1 rfl | exact M.at_ 2 rfl | exact M.at_ 3 rfl | exact M.at_ 4 rfl | exact M.at_ 5 rfl), rfl⟩ ?_ -- ld3 ref.go:55
  refine x_st [_, _] _ rfl rfl rfl sz46 rfl rfl rfl rfl (by first | exact M.at_ 0 rfl | exact M.at_ 1 rfl | exact M.at_ 2 rfl | exact M.at_ 3 rfl | exact M.at_ 4 rfl | exact M.at_ 5 rfl) rfl rfl rfl ?_ -- st2 ref.go:55
  intro wst2 hwst2
  have M := M.put 2 rfl hwst2
  have hR := hR.put (fun g hg => (hne6 g hg).2.2) hwst2
  refine ⟨trivial, ?_⟩
  refine Ex.done (hK _ _ ?_)
  refine At.then_n ?_
  refine W.ret ?_
  refine At.ret1 (.cell 4 46) rfl ⟨⟨_, rfl, run_loadVarA (l := [_, _]) Try.underlying46 rfl sz46 ⟨_, _, _, M.at_ 2 rfl, rfl⟩ (Nat.zero_lt_succ _)⟩, trivial⟩ ?_ -- ret1
  exact ⟨_, rfl, hR, M.frm, hge6⟩
end Go.Proofs.Ytbbccdcjhoecpaa

namespace Go.Proofs.Ytbbccdcjhoecpaa
open Go Go.Fw Go.RowKit Go.Proofs

-- (valise/valiseref17.Cache).Drop
set_option maxRecDepth 100000 in
theorem rdrop_c {w0 : World} {v : Value} {bud : Int} {N : List Blk} {f : ByteArray} (h : RefL w0 v N) (hl : N.length ≤ 1000000) : Ret Try.prog 35 #[refV bud v, .string f] w0 fun r w' => ∃ v', r = .tuple #[refV bud v', .int .i64 ((N.length - (dropM N f).length : Nat) : Int)] ∧ RefL w' v' (dropM N f) ∧ New w0 w' ∧ (∀ g, blkOf v' = some g → w0.heap.size ≤ g) := by
  have M : St None' w0 [] w0 := Frm.refl _ _
  obtain ⟨p, cap, rfl, hcap⟩ := h.shape
  have hdl : ∀ j, (dropM (N.take j) f).length ≤ j := fun j => Nat.le_trans (List.length_filter_le _ _) (by simp; omega)
  refine Ret.of_W Try.func35 rfl Try.ntmps35 rfl ?_
  refine W.seq ?_
  refine W.sub [(0, _), (1, _)] ⟨rfl, rfl, trivial⟩ ?_
  refine W.reg [(0, true), (1, true), (2, false)] (by kernel_rfl) ?_ -- region 0
  intro K hK
  refine x_box [_, _] rfl rfl rfl rfl rfl ?_ -- bx1 ref.go:122
  intro bbx1 wbx1 hbbx1 hwbx1
  have M := M.alloc hbbx1 hwbx1
  refine ⟨trivial, ?_⟩
  refine x_alloc [_, _] rfl rfl rfl ze46 rfl ?_ -- al1 ref.go:122
  intro bal1 wal1 hbal1 hwal1
  have M := M.alloc hbal1 hwal1
  refine ⟨trivial, ?_⟩
  refine x_assign rfl rfl rfl rfl ?_
  refine Ex.done (hK _ _ ?_)
  refine At.then_n ?_
  refine W.seq ?_
  refine W.sub [(1, _), (2, _), (4, _)] ⟨rfl, rfl, rfl, trivial⟩ ?_
  refine W.reg [(0, false)] (by kernel_rfl) ?_ -- region 1
  intro K hK
  refine x_assign rfl rfl rfl rfl ?_
  refine Ex.done (hK _ _ ?_)
  refine At.then_n ?_
  refine W.seq ?_
  refine W.seq ?_
  refine W.sub [(1, _), (2, _), (4, _), (6, _)] ⟨rfl, rfl, rfl, rfl, trivial⟩ ?_
  refine W.reg [(0, false)] (by kernel_rfl) ?_ -- region 2
  intro K hK
  refine x_assign rfl rfl rfl rfl ?_
  refine Ex.done (hK _ _ ?_)
  refine At.then_n ?_
  refine W.block ?_
  refine W.loop (σ := Nat × Value) (fun s => [(1, _), (2, _), (4, _), (6, s.2), (7, .int .i64 ((s.1 : Nat) : Int))]) (fun s w => s.1 ≤ N.length ∧ OwS w s.2 4 (dropM (N.take s.1) f).length (refCells (dropM (N.take s.1) f)) ∧ (∀ g, blkOf s.2 = some g → w0.heap.size ≤ g ∧ g ≠ bbx1 ∧ g ≠ bal1) ∧ St None' w0 [(bbx1, .cells [.int .i64 bud, .slice p N.length cap].toArray 46 (0, 0)), (bal1, .cells [.int .i64 0, .slice none 0 0].toArray 46 (0, 0))] w) (fun s => N.length - s.1) (0, .slice none 0 0) ⟨rfl, rfl, rfl, rfl, rfl, trivial⟩ ⟨Nat.zero_le _, .inl ⟨rfl, rfl, rfl⟩, (by intro g hg; cases hg), M⟩ ?_ -- loop1
  rintro ⟨s, ov⟩ w ⟨hsl, how, hnb, M⟩
  simp only at hsl how hnb ⊢
  have hds := hdl s
  refine W.seq ?_
  refine W.seq ?_
  refine W.sub [(1, _), (2, _), (4, _), (6, _), (7, _)] ⟨rfl, rfl, rfl, rfl, rfl, trivial⟩ ?_
  refine W.reg [(0, false), (1, false), (2, false), (3, false), (4, false)] (by kernel_rfl) ?_ -- region 3
  intro K hK
  refine x_move rfl rfl rfl rfl ?_
  refine x_fa rfl rfl rfl fo46_1 rfl ?_
  refine x_ld rfl rfl rfl Try.underlying44 rfl rfl (cell_of (by first | exact M.at_ 0 rfl | exact M.at_ 1 rfl | exact M.at_ 2 rfl | exact M.at_ 3 rfl | exact M.at_ 4 rfl | exact M.at_ 5 rfl) rfl) ?_ -- ld1 ref.go:124
  refine x_len rfl rfl rfl rfl Try.underlying44 rfl ?_
  refine x_lss _ rfl rfl rfl rfl rfl rfl ?_ -- cm1 ref.go:124
  refine Ex.done (hK _ _ ?_)
  refine At.then_n ?_
  refine W.cond rfl (fun hco1 => ?_) (fun hco1 => ?_) -- co1
  · have hlt : s < N.length := by have := of_decide_eq_true hco1; omega
    obtain ⟨m, hm⟩ : ∃ m, N[s]? = some m := ⟨N[s], List.getElem?_eq_getElem hlt⟩
    have htk : dropM (N.take (s + 1)) f = dropM (N.take s) f ++ dropM [m] f := by rw [List.take_add_one, hm]; simp [dropM]
    obtain ⟨bk, off, rfl, hrow⟩ := (h.new M.frm).row hm
    refine W.skip ?_
    refine At.then_n ?_
    refine W.seq ?_
    refine W.block ?_
    refine W.seq ?_
    refine W.sub [(1, _), (2, _), (4, _), (6, _), (7, _)] ⟨rfl, rfl, rfl, rfl, rfl, trivial⟩ ?_
    refine W.reg [(0, false), (1, false), (2, false), (3, false), (4, false), (5, false), (6, false), (7, false), (8, false)] (by kernel_rfl) ?_ -- region 5
    intro K hK
    refine x_fa rfl rfl rfl fo46_1 rfl ?_
    refine x_ld rfl rfl rfl Try.underlying44 rfl rfl (cell_of (by first | exact M.at_ 0 rfl | exact M.at_ 1 rfl | exact M.at_ 2 rfl | exact M.at_ 3 rfl | exact M.at_ 4 rfl | exact M.at_ 5 rfl) rfl) ?_ -- ld2 ref.go:125
    refine x_move rfl rfl rfl rfl ?_
    refine x_ia s rfl rfl rfl Try.underlying44 sz53 rfl rfl rfl hlt ?_ -- ia1 ref.go:125
    refine x_fa rfl rfl rfl fo53_0 rfl ?_
    refine x_fa rfl rfl rfl fo29_0 rfl ?_
    refine x_ld rfl rfl rfl Try.underlying9 rfl rfl (row_cell (j := 0) hrow rfl) ?_ -- ld3 ref.go:125
    refine x_move rfl rfl rfl rfl ?_
    refine x_nes _ rfl rfl rfl rfl rfl rfl ?_ -- eq1 ref.go:125
    refine Ex.done (hK _ _ ?_)
    refine At.then_n ?_
    refine W.cond rfl (fun hco2 => ?_) (fun hco2 => ?_) -- co2
    · have hf : m.1.1 ≠ f := fun e1 => by simp [e1] at hco2
      have htk2 : dropM [m] f = [m] := by simp [dropM, hf]
      refine W.sub [(1, _), (2, _), (4, _), (6, _), (7, _)] ⟨rfl, rfl, rfl, rfl, rfl, trivial⟩ ?_
      refine W.reg [(0, false), (1, false), (2, false), (3, false), (4, false), (5, false), (6, true), (7, true), (8, false)] (by kernel_rfl) ?_ -- region 6
      intro K hK
      refine x_move rfl rfl rfl rfl ?_
      refine x_fa rfl rfl rfl fo46_1 rfl ?_
      refine x_ld rfl rfl rfl Try.underlying44 rfl rfl (cell_of (by first | exact M.at_ 0 rfl | exact M.at_ 1 rfl | exact M.at_ 2 rfl | exact M.at_ 3 rfl | exact M.at_ 4 rfl | exact M.at_ 5 rfl) rfl) ?_ -- ld4 ref.go:126
      refine x_move rfl rfl rfl rfl ?_
      refine x_ia s rfl rfl rfl Try.underlying44 sz53 rfl rfl rfl hlt ?_ -- ia2 ref.go:126
      refine x_ldA [_, _, _, _] rfl rfl rfl Try.underlying53 rfl sz53 rfl rfl hrow ?_ -- ld5 ref.go:126
      -- bs1: ref.go:126
      refine x_bs1 (cs := blkCells m) rfl rfl rfl Try.underlying44 sz53 ze53 (Z := [_, _, _, _]) rfl rfl (by decide) (by decide) rfl rfl rfl ?_
      intro b5 w5 hb5 hw5
      have how := how.same (w1 := w5) (fun g hg => by rw [hw5, heap_alloc, if_neg (by have := how.lt g hg; omega)])
      have M5 := M.alloc hb5 hw5
      have M := M5.sub (List.sublist_append_left _ [_])
      have hlt5 : bbx1 < w5.heap.size ∧ bal1 < w5.heap.size := ⟨M.lt (List.mem_of_getElem? (i := 0) rfl), M.lt (List.mem_of_getElem? (i := 1) rfl)⟩
      have hsl5 : Sl w5 (.slice (some ⟨b5, 0, none⟩) 1 1) 4 1 (blkCells m) := .inr ⟨b5, 0, 1, _, _, _, rfl, by omega, M5.at_ 2 rfl, rfl, rfl⟩
      refine ⟨trivial, ?_⟩
      -- ap1: ref.go:126
      refine x_appF  rfl rfl rfl rfl Try.underlying44 sz53 ze53 rfl by53 rfl rfl how (refCells_one _) (hsl5.src Try.underlying44 (blk_cells_one m)) (by first | omega | (simp; omega)) (by decide) (by first | omega | (simp; omega)) ?_
      intro v6 w6 hv6 hfv6 hbv6
      have hnb6 : ∀ g, blkOf v6 = some g → w0.heap.size ≤ g ∧ g ≠ bbx1 ∧ g ≠ bal1 := fun g hg => by
        rcases hbv6 g hg with h3 | h3
        · exact hnb g h3
        · have := M.size; omega
      have M := M.call' hfv6 (by
        intro x hx hb
        have hx' : x.1 = bbx1 ∨ x.1 = bal1 := by
          simp at hx; rcases hx with rfl | rfl <;> simp
        have := hnb _ hb
        omega) (fun b hb => .inr (hnb b hb).1)
      refine ⟨trivial, ?_⟩
      refine x_assign rfl rfl rfl rfl ?_
      refine Ex.done (hK _ _ ?_)
      refine At.blk_n ?_
      refine At.then_n ?_
      refine W.sub [(1, _), (2, _), (4, _), (6, _), (7, _)] ⟨rfl, rfl, rfl, rfl, rfl, trivial⟩ ?_
      refine W.reg [(0, false), (1, false), (2, false)] (by kernel_rfl) ?_ -- region 4
      intro K hK
      refine x_move rfl rfl rfl rfl ?_
      refine x_add ((s + 1 : Nat) : Int) rfl rfl rfl rfl rfl (by rw [wrap64_id (by omega) (by omega)]; omega) ?_ -- ar1 ref.go:124
      refine x_assign rfl rfl rfl rfl ?_
      refine Ex.done (hK _ _ ?_)
      -- bk1: back to loop1
      exact At.back (s + 1, v6) ⟨rfl, rfl, rfl, rfl, rfl, trivial⟩ ⟨by simp only; omega, by simp only; rw [htk, htk2, refCells_app, List.length_append]; simpa [refCells] using hv6, hnb6, M⟩ (by simp only; omega)
    · have hf : m.1.1 = f := ba_inj (by simpa using hco2)
      have htk2 : dropM [m] f = [] := by simp [dropM, hf]
      refine W.skip ?_
      refine At.blk_n ?_
      refine At.then_n ?_
      refine W.sub [(1, _), (2, _), (4, _), (6, _), (7, _)] ⟨rfl, rfl, rfl, rfl, rfl, trivial⟩ ?_
      refine W.reg [(0, false), (1, false), (2, false)] (by kernel_rfl) ?_ -- region 4
      intro K hK
      refine x_move rfl rfl rfl rfl ?_
      refine x_add ((s + 1 : Nat) : Int) rfl rfl rfl rfl rfl (by rw [wrap64_id (by omega) (by omega)]; omega) ?_ -- ar2 ref.go:124
      refine x_assign rfl rfl rfl rfl ?_
      refine Ex.done (hK _ _ ?_)
      -- bk2: back to loop1
      exact At.back (s + 1, ov) ⟨rfl, rfl, rfl, rfl, rfl, trivial⟩ ⟨by simp only; omega, by simp only; rw [htk, htk2, List.append_nil]; exact how, hnb, M⟩ (by simp only; omega)
  · have hs : s = N.length := by have := of_decide_eq_false hco1; omega
    subst hs
    rw [List.take_length] at how hds
    obtain ⟨p6, cap6, rfl⟩ := OwS.shape how
    have hR : RefL w (.slice p6 (dropM N f).length cap6) (dropM N f) := OwS.ref how rfl rfl
    refine W.exit ?_
    refine At.then_x ?_
    refine At.loop_x ?_
    refine At.blk_x ?_
    refine At.then_n ?_
    refine W.seq ?_
    refine W.sub [(2, _), (4, _), (6, _)] ⟨rfl, rfl, rfl, trivial⟩ ?_
    refine W.reg [(0, false), (1, false), (2, false), (3, false), (4, false), (5, false), (6, false)] (by kernel_rfl) ?_ -- region 7
    intro K hK
    refine x_fa rfl rfl rfl fo46_1 rfl ?_
    refine x_ld rfl rfl rfl Try.underlying44 rfl rfl (cell_of (by first | exact M.at_ 0 rfl | exact M.at_ 1 rfl | exact M.at_ 2 rfl | exact M.at_ 3 rfl | exact M.at_ 4 rfl | exact M.at_ 5 rfl) rfl) ?_ -- ld6 ref.go:129
    refine x_len rfl rfl rfl rfl Try.underlying44 rfl ?_
    refine x_move rfl rfl rfl rfl ?_
    refine x_len rfl rfl rfl rfl Try.underlying44 rfl ?_
    refine x_sub ((N.length - (dropM N f).length : Nat) : Int) rfl rfl rfl rfl rfl (by rw [wrap64_id (by omega) (by omega)]; omega) ?_ -- ar3 ref.go:129
    refine x_assign rfl rfl rfl rfl ?_
    refine Ex.done (hK _ _ ?_)
    refine At.then_n ?_
    refine W.seq ?_
    refine W.sub [(2, _), (4, _), (6, _), (8, _)] ⟨rfl, rfl, rfl, rfl, trivial⟩ ?_
    refine W.reg [(0, false), (1, false), (2, true)] (by kernel_rfl) ?_ -- region 8
    intro K hK
    refine x_move rfl rfl rfl rfl ?_
    refine x_fa rfl rfl rfl fo46_1 rfl ?_
    refine x_st [_] _ rfl rfl rfl sz44 rfl rfl rfl rfl (by first | exact M.at_ 0 rfl | exact M.at_ 1 rfl | exact M.at_ 2 rfl | exact M.at_ 3 rfl | exact M.at_ 4 rfl | exact M.at_ 5 rfl) rfl rfl rfl ?_ -- st1 ref.go:130
    intro wst1 hwst1
    have M := M.put 0 rfl hwst1
    have hR := hR.put (fun g hg => (hnb g hg).2.1) hwst1
    refine ⟨trivial, ?_⟩
    refine Ex.done (hK _ _ ?_)
    refine At.then_n ?_
    refine W.seq ?_
    refine W.sub [(2, _), (4, _), (8, _)] ⟨rfl, rfl, rfl, trivial⟩ ?_
    refine W.reg [(0, false), (1, false), (2, true), (3, false)] (by kernel_rfl) ?_ -- region 9
    intro K hK
    refine x_ldA [_, _] rfl rfl rfl Try.underlying46 rfl sz46 rfl rfl ⟨_, _, _, (by first | exact M.at_ 0 rfl | exact M.at_ 1 rfl | exact M.at_ 2 rfl | exact M.at_ 3 rfl | exact M.at_ 4 rfl | exact M.at_ 5 rfl), rfl⟩ ?_ -- ld7 ref.go:131
    refine x_move rfl rfl rfl rfl ?_
    refine x_st [_, _] _ rfl rfl rfl sz46 rfl rfl rfl rfl (by first | exact M.at_ 0 rfl | exact M.at_ 1 rfl | exact M.at_ 2 rfl | exact M.at_ 3 rfl | exact M.at_ 4 rfl | exact M.at_ 5 rfl) rfl rfl rfl ?_ -- st2 ref.go:131
    intro wst2 hwst2
    have M := M.put 1 rfl hwst2
    have hR := hR.put (fun g hg => (hnb g hg).2.2) hwst2
    refine ⟨trivial, ?_⟩
    refine x_assign rfl rfl rfl rfl ?_
    refine Ex.done (hK _ _ ?_)
    refine At.then_n ?_
    refine W.ret ?_
    refine At.ret2 (.cell 4 46) (.tmp 5) rfl ⟨⟨_, rfl, run_loadVarA (l := [_, _]) Try.underlying46 rfl sz46 ⟨_, _, _, M.at_ 1 rfl, rfl⟩ (Nat.zero_lt_succ _)⟩, rfl, trivial⟩ ?_ -- ret1
    exact ⟨_, rfl, hR, M.frm, fun g hg => (hnb g hg).1⟩
end Go.Proofs.Ytbbccdcjhoecpaa

namespace Go.Proofs.Ytbbccdcjhoecpaa
open Go Go.Fw Go.RowKit Go.Proofs

-- (valise/valiseref17.Cache).Pin
set_option maxRecDepth 100000 in
theorem rpin_none {w0 : World} {v : Value} {bud q : Int} {N : List Blk} {k : Key} (h : RefL w0 v N) (hl : N.length ≤ 1000000) (hno : ∀ m ∈ N, m.1 ≠ k) : Ret Try.prog 34 #[refV bud v, encK k, .int .i64 q] w0 fun r w' => r = .tuple #[refV bud v, .int .i64 9] ∧ New w0 w' := by
  have M : St None' w0 [] w0 := Frm.refl _ _
  obtain ⟨p, cap, rfl, hcap⟩ := h.shape
  refine Ret.of_W Try.func34 rfl Try.ntmps34 rfl ?_
  refine W.seq ?_
  refine W.sub [(0, _), (1, _), (2, _)] ⟨rfl, rfl, rfl, trivial⟩ ?_
  refine W.reg [(0, true), (1, true), (2, true), (3, false)] (by kernel_rfl) ?_ -- region 0
  intro K hK
  refine x_box [_, _] rfl rfl rfl rfl rfl ?_ -- bx1 ref.go:107
  intro bbx1 wbx1 hbbx1 hwbx1
  have M := M.alloc hbbx1 hwbx1
  refine ⟨trivial, ?_⟩
  refine x_box [_, _] rfl rfl rfl rfl rfl ?_ -- bx2 ref.go:107
  intro bbx2 wbx2 hbbx2 hwbx2
  have M := M.alloc hbbx2 hwbx2
  refine ⟨trivial, ?_⟩
  refine x_alloc [_, _] rfl rfl rfl ze46 rfl ?_ -- al1 ref.go:107
  intro bal1 wal1 hbal1 hwal1
  have M := M.alloc hbal1 hwal1
  refine ⟨trivial, ?_⟩
  refine x_assign rfl rfl rfl rfl ?_
  refine Ex.done (hK _ _ ?_)
  refine At.then_n ?_
  refine W.seq ?_
  refine W.sub [(2, _), (3, _), (4, _), (6, _)] ⟨rfl, rfl, rfl, rfl, trivial⟩ ?_
  refine W.reg [(0, false), (1, false), (2, true), (3, false)] (by kernel_rfl) ?_ -- region 1
  intro K hK
  refine x_ldA [_, _] rfl rfl rfl Try.underlying46 rfl sz46 rfl rfl ⟨_, _, _, (by first | exact M.at_ 0 rfl | exact M.at_ 1 rfl | exact M.at_ 2 rfl | exact M.at_ 3 rfl | exact M.at_ 4 rfl | exact M.at_ 5 rfl), rfl⟩ ?_ -- ld1 ref.go:108
  refine x_ldA [_, _] rfl rfl rfl Try.underlying29 rfl sz29 rfl rfl ⟨_, _, _, (by first | exact M.at_ 0 rfl | exact M.at_ 1 rfl | exact M.at_ 2 rfl | exact M.at_ 3 rfl | exact M.at_ 4 rfl | exact M.at_ 5 rfl), rfl⟩ ?_ -- ld2 ref.go:108
  -- call1: (valise/valiseref17.Cache).At ref.go:108
  refine x_call rfl rfl rfl rfl rfl en42 (rat_c (h.new M.frm) hl) ?_
  rintro v1 w1 ⟨⟨z, rfl, hz⟩, hn1⟩
  have M := M.new hn1
  refine ⟨trivial, ?_⟩
  refine x_assign rfl rfl rfl rfl ?_
  refine Ex.done (hK _ _ ?_)
  refine At.then_n ?_
  refine W.seq ?_
  refine W.seq ?_
  refine W.sub [(2, _), (3, _), (6, _), (8, _)] ⟨rfl, rfl, rfl, rfl, trivial⟩ ?_
  refine W.reg [(0, false), (1, false)] (by kernel_rfl) ?_ -- region 2
  intro K hK
  refine x_move rfl rfl rfl rfl ?_
  refine x_lss true rfl rfl rfl rfl rfl (by rw [atP_none hz hno]; rfl) ?_ -- cm1 ref.go:109
  refine Ex.done (hK _ _ ?_)
  refine At.then_n ?_
  refine W.condT rfl ?_ -- co1
  refine W.seq ?_
  refine W.sub [(3, _), (6, _)] ⟨rfl, rfl, trivial⟩ ?_
  refine W.reg [(0, false), (1, true), (2, false)] (by kernel_rfl) ?_ -- region 3
  intro K hK
  refine x_ldA [_, _] rfl rfl rfl Try.underlying46 rfl sz46 rfl rfl ⟨_, _, _, (by first | exact M.at_ 0 rfl | exact M.at_ 1 rfl | exact M.at_ 2 rfl | exact M.at_ 3 rfl | exact M.at_ 4 rfl | exact M.at_ 5 rfl), rfl⟩ ?_ -- ld3 ref.go:110
  refine x_st [_, _] _ rfl rfl rfl sz46 rfl rfl rfl rfl (by first | exact M.at_ 0 rfl | exact M.at_ 1 rfl | exact M.at_ 2 rfl | exact M.at_ 3 rfl | exact M.at_ 4 rfl | exact M.at_ 5 rfl) rfl rfl rfl ?_ -- st1 ref.go:110
  intro wst1 hwst1
  have M := M.put 2 rfl hwst1
  refine ⟨trivial, ?_⟩
  refine x_assign rfl rfl rfl rfl ?_
  refine Ex.done (hK _ _ ?_)
  refine At.then_n ?_
  refine W.ret ?_
  refine At.then_r ?_
  refine At.ret2 (.cell 6 46) (.tmp 7) rfl ⟨⟨_, rfl, run_loadVarA (l := [_, _]) Try.underlying46 rfl sz46 ⟨_, _, _, M.at_ 2 rfl, rfl⟩ (Nat.zero_lt_succ _)⟩, rfl, trivial⟩ ?_ -- ret1
  exact ⟨rfl, M.frm⟩

-- (valise/valiseref17.Cache).Pin
set_option maxRecDepth 100000 in
theorem rpin_low {w0 : World} {v : Value} {bud q : Int} {A B : List Blk} {m : Blk} {k : Key} (h : RefL w0 v (A ++ m :: B)) (hl : (A ++ m :: B).length ≤ 1000000) (hk : ((A ++ m :: B).map (·.1)).Nodup) (hm : m.1 = k) (hb : 0 ≤ m.2.2 ∧ m.2.2 < 1000000000 ∧ -2 < q ∧ q < 2) (hlow : m.2.2 + q < 0) : Ret Try.prog 34 #[refV bud v, encK k, .int .i64 q] w0 fun r w' => r = .tuple #[refV bud v, .int .i64 2] ∧ New w0 w' := by
  have M : St None' w0 [] w0 := Frm.refl _ _
  obtain ⟨p, cap, rfl, hcap⟩ := h.shape
  refine Ret.of_W Try.func34 rfl Try.ntmps34 rfl ?_
  refine W.seq ?_
  refine W.sub [(0, _), (1, _), (2, _)] ⟨rfl, rfl, rfl, trivial⟩ ?_
  refine W.reg [(0, true), (1, true), (2, true), (3, false)] (by kernel_rfl) ?_ -- region 0
  intro K hK
  refine x_box [_, _] rfl rfl rfl rfl rfl ?_ -- bx1 ref.go:107
  intro bbx1 wbx1 hbbx1 hwbx1
  have M := M.alloc hbbx1 hwbx1
  refine ⟨trivial, ?_⟩
  refine x_box [_, _] rfl rfl rfl rfl rfl ?_ -- bx2 ref.go:107
  intro bbx2 wbx2 hbbx2 hwbx2
  have M := M.alloc hbbx2 hwbx2
  refine ⟨trivial, ?_⟩
  refine x_alloc [_, _] rfl rfl rfl ze46 rfl ?_ -- al1 ref.go:107
  intro bal1 wal1 hbal1 hwal1
  have M := M.alloc hbal1 hwal1
  refine ⟨trivial, ?_⟩
  refine x_assign rfl rfl rfl rfl ?_
  refine Ex.done (hK _ _ ?_)
  refine At.then_n ?_
  refine W.seq ?_
  refine W.sub [(2, _), (3, _), (4, _), (6, _)] ⟨rfl, rfl, rfl, rfl, trivial⟩ ?_
  refine W.reg [(0, false), (1, false), (2, true), (3, false)] (by kernel_rfl) ?_ -- region 1
  intro K hK
  refine x_ldA [_, _] rfl rfl rfl Try.underlying46 rfl sz46 rfl rfl ⟨_, _, _, (by first | exact M.at_ 0 rfl | exact M.at_ 1 rfl | exact M.at_ 2 rfl | exact M.at_ 3 rfl | exact M.at_ 4 rfl | exact M.at_ 5 rfl), rfl⟩ ?_ -- ld1 ref.go:108
  refine x_ldA [_, _] rfl rfl rfl Try.underlying29 rfl sz29 rfl rfl ⟨_, _, _, (by first | exact M.at_ 0 rfl | exact M.at_ 1 rfl | exact M.at_ 2 rfl | exact M.at_ 3 rfl | exact M.at_ 4 rfl | exact M.at_ 5 rfl), rfl⟩ ?_ -- ld2 ref.go:108
  -- call1: (valise/valiseref17.Cache).At ref.go:108
  refine x_call rfl rfl rfl rfl rfl en42 (rat_c (h.new M.frm) hl) ?_
  rintro v1 w1 ⟨⟨z, rfl, hz⟩, hn1⟩
  have M := M.new hn1
  have hz0 := atP_some hk hm hz
  subst hz0
  obtain ⟨bk, off, rfl, hrow0⟩ := h.row (j := A.length) (m := m) (by simp)
  have hrow := rowAt_keep hrow0 (M.frm.old bk (by obtain ⟨cs, T, fr, h1, _⟩ := hrow0; exact (Array.getElem?_eq_some_iff.1 h1).1) id)
  refine ⟨trivial, ?_⟩
  refine x_assign rfl rfl rfl rfl ?_
  refine Ex.done (hK _ _ ?_)
  refine At.then_n ?_
  refine W.seq ?_
  refine W.seq ?_
  refine W.sub [(2, _), (3, _), (6, _), (8, _)] ⟨rfl, rfl, rfl, rfl, trivial⟩ ?_
  refine W.reg [(0, false), (1, false)] (by kernel_rfl) ?_ -- region 2
  intro K hK
  refine x_move rfl rfl rfl rfl ?_
  refine x_lss false rfl rfl rfl rfl rfl (decide_eq_false (by omega)) ?_ -- cm1 ref.go:109
  refine Ex.done (hK _ _ ?_)
  refine At.then_n ?_
  refine W.condF rfl ?_ -- co1
  refine W.skip ?_
  refine At.then_n ?_
  refine W.seq ?_
  refine W.seq ?_
  refine W.sub [(2, _), (3, _), (6, _), (8, _)] ⟨rfl, rfl, rfl, rfl, trivial⟩ ?_
  refine W.reg [(0, false), (1, false), (2, false), (3, false), (4, false), (5, false), (6, false), (7, false), (8, false)] (by kernel_rfl) ?_ -- region 4
  intro K hK
  refine x_fa rfl rfl rfl fo46_1 rfl ?_
  refine x_ld rfl rfl rfl Try.underlying44 rfl rfl (cell_of (by first | exact M.at_ 0 rfl | exact M.at_ 1 rfl | exact M.at_ 2 rfl | exact M.at_ 3 rfl | exact M.at_ 4 rfl | exact M.at_ 5 rfl) rfl) ?_ -- ld3 ref.go:112
  refine x_move rfl rfl rfl rfl ?_
  refine x_ia A.length rfl rfl rfl Try.underlying44 sz53 rfl rfl rfl (by simp) ?_ -- ia1 ref.go:112
  refine x_fa rfl rfl rfl fo53_2 rfl ?_
  refine x_ld rfl rfl rfl Try.underlying3 rfl rfl (row_cell (j := 3) hrow rfl) ?_ -- ld4 ref.go:112
  refine x_move rfl rfl rfl rfl ?_
  refine x_add (m.2.2 + q) rfl rfl rfl rfl rfl (wrap64_id (by omega) (by omega)) ?_ -- ar1 ref.go:112
  refine x_lss true rfl rfl rfl rfl rfl (decide_eq_true hlow) ?_ -- cm2 ref.go:112
  refine Ex.done (hK _ _ ?_)
  refine At.then_n ?_
  refine W.condT rfl ?_ -- co2
  refine W.seq ?_
  refine W.sub [(3, _), (6, _)] ⟨rfl, rfl, trivial⟩ ?_
  refine W.reg [(0, false), (1, true), (2, false)] (by kernel_rfl) ?_ -- region 5
  intro K hK
  refine x_ldA [_, _] rfl rfl rfl Try.underlying46 rfl sz46 rfl rfl ⟨_, _, _, (by first | exact M.at_ 0 rfl | exact M.at_ 1 rfl | exact M.at_ 2 rfl | exact M.at_ 3 rfl | exact M.at_ 4 rfl | exact M.at_ 5 rfl), rfl⟩ ?_ -- ld5 ref.go:113
  refine x_st [_, _] _ rfl rfl rfl sz46 rfl rfl rfl rfl (by first | exact M.at_ 0 rfl | exact M.at_ 1 rfl | exact M.at_ 2 rfl | exact M.at_ 3 rfl | exact M.at_ 4 rfl | exact M.at_ 5 rfl) rfl rfl rfl ?_ -- st1 ref.go:113
  intro wst1 hwst1
  have M := M.put 2 rfl hwst1
  refine ⟨trivial, ?_⟩
  refine x_assign rfl rfl rfl rfl ?_
  refine Ex.done (hK _ _ ?_)
  refine At.then_n ?_
  refine W.ret ?_
  refine At.then_r ?_
  refine At.ret2 (.cell 6 46) (.tmp 7) rfl ⟨⟨_, rfl, run_loadVarA (l := [_, _]) Try.underlying46 rfl sz46 ⟨_, _, _, M.at_ 2 rfl, rfl⟩ (Nat.zero_lt_succ _)⟩, rfl, trivial⟩ ?_ -- ret1
  exact ⟨rfl, M.frm⟩

-- (valise/valiseref17.Cache).Pin
set_option maxRecDepth 100000 in
set_option maxHeartbeats 1000000 in
theorem rpin_ok {w0 : World} {v : Value} {bud q : Int} {A B : List Blk} {m : Blk} {k : Key} (h : RefL w0 v (A ++ m :: B)) (hl : (A ++ m :: B).length ≤ 1000000) (hk : ((A ++ m :: B).map (·.1)).Nodup) (hm : m.1 = k) (hb : 0 ≤ m.2.2 ∧ m.2.2 < 1000000000 ∧ -2 < q ∧ q < 2) (hlow : 0 ≤ m.2.2 + q) : Ret Try.prog 34 #[refV bud v, encK k, .int .i64 q] w0 fun r w' => ∃ v', r = .tuple #[refV bud v', .int .i64 0] ∧ RefL w' v' (A ++ (m.1, m.2.1, m.2.2 + q) :: B) ∧ New w0 w' ∧ (∀ g, blkOf v' = some g → w0.heap.size ≤ g) := by
  have M : St None' w0 [] w0 := Frm.refl _ _
  obtain ⟨p, cap, rfl, hcap⟩ := h.shape
  refine Ret.of_W Try.func34 rfl Try.ntmps34 rfl ?_
  refine W.seq ?_
  refine W.sub [(0, _), (1, _), (2, _)] ⟨rfl, rfl, rfl, trivial⟩ ?_
  refine W.reg [(0, true), (1, true), (2, true), (3, false)] (by kernel_rfl) ?_ -- region 0
  intro K hK
  refine x_box [_, _] rfl rfl rfl rfl rfl ?_ -- bx1 ref.go:107
  intro bbx1 wbx1 hbbx1 hwbx1
  have M := M.alloc hbbx1 hwbx1
  refine ⟨trivial, ?_⟩
  refine x_box [_, _] rfl rfl rfl rfl rfl ?_ -- bx2 ref.go:107
  intro bbx2 wbx2 hbbx2 hwbx2
  have M := M.alloc hbbx2 hwbx2
  refine ⟨trivial, ?_⟩
  refine x_alloc [_, _] rfl rfl rfl ze46 rfl ?_ -- al1 ref.go:107
  intro bal1 wal1 hbal1 hwal1
  have M := M.alloc hbal1 hwal1
  refine ⟨trivial, ?_⟩
  refine x_assign rfl rfl rfl rfl ?_
  refine Ex.done (hK _ _ ?_)
  refine At.then_n ?_
  refine W.seq ?_
  refine W.sub [(2, _), (3, _), (4, _), (6, _)] ⟨rfl, rfl, rfl, rfl, trivial⟩ ?_
  refine W.reg [(0, false), (1, false), (2, true), (3, false)] (by kernel_rfl) ?_ -- region 1
  intro K hK
  refine x_ldA [_, _] rfl rfl rfl Try.underlying46 rfl sz46 rfl rfl ⟨_, _, _, (by first | exact M.at_ 0 rfl | exact M.at_ 1 rfl | exact M.at_ 2 rfl | exact M.at_ 3 rfl | exact M.at_ 4 rfl | exact M.at_ 5 rfl), rfl⟩ ?_ -- ld1 ref.go:108
  refine x_ldA [_, _] rfl rfl rfl Try.underlying29 rfl sz29 rfl rfl ⟨_, _, _, (by first | exact M.at_ 0 rfl | exact M.at_ 1 rfl | exact M.at_ 2 rfl | exact M.at_ 3 rfl | exact M.at_ 4 rfl | exact M.at_ 5 rfl), rfl⟩ ?_ -- ld2 ref.go:108
  -- call1: (valise/valiseref17.Cache).At ref.go:108
  refine x_call rfl rfl rfl rfl rfl en42 (rat_c (h.new M.frm) hl) ?_
  rintro v1 w1 ⟨⟨z, rfl, hz⟩, hn1⟩
  have M := M.new hn1
  have hz0 := atP_some hk hm hz
  subst hz0
  obtain ⟨bk, off, rfl, hrow0⟩ := h.row (j := A.length) (m := m) (by simp)
  have hrow := rowAt_keep hrow0 (M.frm.old bk (by obtain ⟨cs, T, fr, h1, _⟩ := hrow0; exact (Array.getElem?_eq_some_iff.1 h1).1) id)
  refine ⟨trivial, ?_⟩
  refine x_assign rfl rfl rfl rfl ?_
  refine Ex.done (hK _ _ ?_)
  refine At.then_n ?_
  refine W.seq ?_
  refine W.seq ?_
  refine W.sub [(2, _), (3, _), (6, _), (8, _)] ⟨rfl, rfl, rfl, rfl, trivial⟩ ?_
  refine W.reg [(0, false), (1, false)] (by kernel_rfl) ?_ -- region 2
  intro K hK
  refine x_move rfl rfl rfl rfl ?_
  refine x_lss false rfl rfl rfl rfl rfl (decide_eq_false (by omega)) ?_ -- cm1 ref.go:109
  refine Ex.done (hK _ _ ?_)
  refine At.then_n ?_
  refine W.condF rfl ?_ -- co1
  refine W.skip ?_
  refine At.then_n ?_
  refine W.seq ?_
  refine W.seq ?_
  refine W.sub [(2, _), (3, _), (6, _), (8, _)] ⟨rfl, rfl, rfl, rfl, trivial⟩ ?_
  refine W.reg [(0, false), (1, false), (2, false), (3, false), (4, false), (5, false), (6, false), (7, false), (8, false)] (by kernel_rfl) ?_ -- region 4
  intro K hK
  refine x_fa rfl rfl rfl fo46_1 rfl ?_
  refine x_ld rfl rfl rfl Try.underlying44 rfl rfl (cell_of (by first | exact M.at_ 0 rfl | exact M.at_ 1 rfl | exact M.at_ 2 rfl | exact M.at_ 3 rfl | exact M.at_ 4 rfl | exact M.at_ 5 rfl) rfl) ?_ -- ld3 ref.go:112
  refine x_move rfl rfl rfl rfl ?_
  refine x_ia A.length rfl rfl rfl Try.underlying44 sz53 rfl rfl rfl (by simp) ?_ -- ia1 ref.go:112
  refine x_fa rfl rfl rfl fo53_2 rfl ?_
  refine x_ld rfl rfl rfl Try.underlying3 rfl rfl (row_cell (j := 3) hrow rfl) ?_ -- ld4 ref.go:112
  refine x_move rfl rfl rfl rfl ?_
  refine x_add (m.2.2 + q) rfl rfl rfl rfl rfl (wrap64_id (by omega) (by omega)) ?_ -- ar1 ref.go:112
  refine x_lss false rfl rfl rfl rfl rfl (decide_eq_false (by omega)) ?_ -- cm2 ref.go:112
  refine Ex.done (hK _ _ ?_)
  refine At.then_n ?_
  refine W.condF rfl ?_ -- co2
  refine W.skip ?_
  refine At.then_n ?_
  refine W.seq ?_
  refine W.sub [(2, _), (3, _), (6, _), (8, _)] ⟨rfl, rfl, rfl, rfl, trivial⟩ ?_
  refine W.reg [(0, true), (1, false), (2, false), (3, true), (4, false)] (by kernel_rfl) ?_ -- region 6
  intro K hK
  -- bs1: ref.go:115
  refine x_bs0 rfl rfl rfl Try.underlying44 sz53 ?_
  intro b5 w5 hb5 hw5
  have M5 := M.alloc hb5 hw5
  have M := M5.sub (List.sublist_append_left _ [_])
  have hnd5 := M5.nd
  have hne5 : b5 ≠ bbx1 ∧ b5 ≠ bbx2 ∧ b5 ≠ bal1 := by simp at hnd5; exact ⟨Ne.symm hnd5.1.2.2, Ne.symm hnd5.2.1.2, Ne.symm hnd5.2.2⟩
  have hge5 := M5.ge 3 rfl
  have hlt5 : bbx1 < w5.heap.size ∧ bbx2 < w5.heap.size ∧ bal1 < w5.heap.size := ⟨M.lt (List.mem_of_getElem? (i := 0) rfl), M.lt (List.mem_of_getElem? (i := 1) rfl), M.lt (List.mem_of_getElem? (i := 2) rfl)⟩
  refine ⟨trivial, ?_⟩
  refine x_fa rfl rfl rfl fo46_1 rfl ?_
  refine x_ld rfl rfl rfl Try.underlying44 rfl rfl (cell_of (by first | exact M.at_ 0 rfl | exact M.at_ 1 rfl | exact M.at_ 2 rfl | exact M.at_ 3 rfl | exact M.at_ 4 rfl | exact M.at_ 5 rfl) rfl) ?_ -- ld5 ref.go:115
  -- ap1: ref.go:115
  refine x_appF (cs := []) rfl rfl rfl rfl Try.underlying44 sz53 ze53 rfl by53 rfl rfl (.inr ⟨b5, 0, [], 53, rfl, M5.at_ 3 rfl, rfl, rfl⟩) (by simp) (h.new M.frm).src (by first | omega | (simp; omega)) (by decide) (by first | omega | (simp; omega)) ?_
  intro v6 w6 hv6 hfv6 hbv6
  obtain ⟨b6, cap6, rest6, T6, rfl, hb6, _, _⟩ : ∃ b cap rest T, v6 = .slice (some ⟨b, 0, none⟩) (0 + (A ++ m :: B).length) cap ∧ w6.heap[b]? = some (.cells (refCells (A ++ m :: B) ++ rest).toArray T (0, 0)) ∧ True ∧ (refCells (A ++ m :: B) ++ rest).length = cap * 4 := by
    rcases hv6 with ⟨_, h1, _⟩ | ⟨b, cap, rest, T, h1, h2, _, h3⟩
    · simp at h1
    · exact ⟨b, cap, rest, T, h1, by simpa using h2, trivial, by simpa using h3⟩
  have hcap6 : (A ++ m :: B).length ≤ cap6 := by rename_i h3; have := congrArg (fun x => x) h3; simp [refCells_len] at this ⊢; omega
  have hne6 : b6 ≠ bbx1 ∧ b6 ≠ bbx2 ∧ b6 ≠ bal1 := by
    rcases hbv6 b6 rfl with h3 | h3
    · simp [blkOf] at h3; subst h3; exact hne5
    · omega
  have hge6 : w0.heap.size ≤ b6 := by
    rcases hbv6 b6 rfl with h3 | h3
    · simp [blkOf] at h3; subst h3; exact hge5
    · have := M.size; omega
  have M := M.call' hfv6 (by
    intro x hx hb
    have hx' : x.1 = bbx1 ∨ x.1 = bbx2 ∨ x.1 = bal1 := by
      simp at hx; rcases hx with rfl | rfl | rfl <;> simp
    simp [blkOf] at hb
    omega) (fun b hb => .inr (by simp [blkOf] at hb; subst hb; exact hge5))
  refine ⟨trivial, ?_⟩
  refine x_assign rfl rfl rfl rfl ?_
  refine Ex.done (hK _ _ ?_)
  refine At.then_n ?_
  refine W.seq ?_
  refine W.sub [(2, _), (3, _), (6, _), (8, _), (9, _)] ⟨rfl, rfl, rfl, rfl, rfl, trivial⟩ ?_
  refine W.reg [(0, false), (1, false), (2, false), (3, false), (4, false), (5, false), (6, false), (7, false), (8, false), (9, false), (10, false), (11, true)] (by kernel_rfl) ?_ -- region 7
  intro K hK
  refine x_move rfl rfl rfl rfl ?_
  refine x_move rfl rfl rfl rfl ?_
  refine x_move rfl rfl rfl rfl ?_
  refine x_move rfl rfl rfl rfl ?_
  refine x_ia A.length rfl rfl rfl Try.underlying44 sz53 rfl rfl rfl (by simp) ?_ -- ia2 ref.go:116
  refine x_fa rfl rfl rfl fo53_2 rfl ?_
  refine x_ld rfl rfl rfl Try.underlying3 rfl rfl (cell_of hb6 (ref_pin_at A B m rest6)) ?_ -- ld6 ref.go:116
  refine x_move rfl rfl rfl rfl ?_
  refine x_add (m.2.2 + q) rfl rfl rfl rfl rfl (wrap64_id (by omega) (by omega)) ?_ -- ar2 ref.go:116
  refine x_ia A.length rfl rfl rfl Try.underlying44 sz53 rfl rfl rfl (by simp) ?_ -- ia3 ref.go:116
  refine x_fa rfl rfl rfl fo53_2 rfl ?_
  refine x_st [_] _ rfl rfl rfl sz3 rfl rfl rfl rfl hb6 rfl (by simp [refCells_len]; omega) (ref_set A B m rest6 (m.2.2 + q)) ?_ -- st1 ref.go:116
  intro wst1 hwst1
  have hb7 := hp_putS hwst1 hb6
  have M := M.call' (Frm.put (S := fun b => b = b6) rfl hwst1) (by
    intro x hx hb
    have hx' : x.1 = bbx1 ∨ x.1 = bbx2 ∨ x.1 = bal1 := by
      simp at hx; rcases hx with rfl | rfl | rfl <;> simp
    omega) (fun b hb => .inr (by rw [hb]; exact hge6))
  have hR : RefL wst1 (.slice (some ⟨b6, 0, none⟩) (0 + (A ++ m :: B).length) cap6) (A ++ (m.1, m.2.1, m.2.2 + q) :: B) := by
    refine .inr ⟨b6, 0, cap6, _, _, _, by simp, by simpa using hcap6, hb7, ?_, by rw [refCells_len]⟩
    rw [← refCells_len]
    simp
  refine ⟨trivial, ?_⟩
  refine Ex.done (hK _ _ ?_)
  refine At.then_n ?_
  refine W.seq ?_
  refine W.sub [(3, _), (6, _), (9, _)] ⟨rfl, rfl, rfl, trivial⟩ ?_
  refine W.reg [(0, false), (1, false), (2, true)] (by kernel_rfl) ?_ -- region 8
  intro K hK
  refine x_move rfl rfl rfl rfl ?_
  refine x_fa rfl rfl rfl fo46_1 rfl ?_
  refine x_st [_] _ rfl rfl rfl sz44 rfl rfl rfl rfl (by first | exact M.at_ 0 rfl | exact M.at_ 1 rfl | exact M.at_ 2 rfl | exact M.at_ 3 rfl | exact M.at_ 4 rfl | exact M.at_ 5 rfl) rfl rfl rfl ?_ -- st2 ref.go:117
  intro wst2 hwst2
  have M := M.put 0 rfl hwst2
  have hR := hR.put (fun g hg => by simp [blkOf] at hg; subst hg; exact hne6.1) hwst2
  refine ⟨trivial, ?_⟩
  refine Ex.done (hK _ _ ?_)
  refine At.then_n ?_
  refine W.seq ?_
  refine W.sub [(3, _), (6, _)] ⟨rfl, rfl, trivial⟩ ?_
  refine W.reg [(0, false), (1, true), (2, false)] (by kernel_rfl) ?_ -- region 9
  intro K hK
  refine x_ldA [_, _] rfl rfl rfl Try.underlying46 rfl sz46 rfl rfl ⟨_, _, _, (by first | exact M.at_ 0 rfl | exact M.at_ 1 rfl | exact M.at_ 2 rfl | exact M.at_ 3 rfl | exact M.at_ 4 rfl | exact M.at_ 5 rfl), rfl⟩ ?_ -- ld7 ref.go:118
  refine x_st [_, _] _ rfl rfl rfl sz46 rfl rfl rfl rfl (by first | exact M.at_ 0 rfl | exact M.at_ 1 rfl | exact M.at_ 2 rfl | exact M.at_ 3 rfl | exact M.at_ 4 rfl | exact M.at_ 5 rfl) rfl rfl rfl ?_ -- st3 ref.go:118
  intro wst3 hwst3
  have M := M.put 2 rfl hwst3
  have hR := hR.put (fun g hg => by simp [blkOf] at hg; subst hg; exact hne6.2.2) hwst3
  refine ⟨trivial, ?_⟩
  refine x_assign rfl rfl rfl rfl ?_
  refine Ex.done (hK _ _ ?_)
  refine At.then_n ?_
  refine W.ret ?_
  refine At.ret2 (.cell 6 46) (.tmp 7) rfl ⟨⟨_, rfl, run_loadVarA (l := [_, _]) Try.underlying46 rfl sz46 ⟨_, _, _, M.at_ 2 rfl, rfl⟩ (Nat.zero_lt_succ _)⟩, rfl, trivial⟩ ?_ -- ret1
  exact ⟨_, rfl, hR, M.frm, fun g hg => by simp [blkOf] at hg; subst hg; exact hge6⟩
end Go.Proofs.Ytbbccdcjhoecpaa

namespace Go.Proofs.Ytbbccdcjhoecpaa
open Go Go.Fw Go.RowKit Go.Proofs

-- (valise/valiseref17.Cache).Put
set_option maxRecDepth 100000 in
theorem rput_big {w0 : World} {v : Value} {bud : Int} {N : List Blk} {k : Key} {b : List UInt8} (h : RefL w0 v N) (hb : 4096 < b.length) : Ret Try.prog 33 #[refV bud v, encK k, .string (strB b)] w0 fun r w' => r = .tuple #[refV bud v, .int .i64 2] ∧ New w0 w' := by
  have M : St None' w0 [] w0 := Frm.refl _ _
  obtain ⟨p, cap, rfl, hcap⟩ := h.shape
  have esz : (strB b).size = b.length := by simp [strB, ByteArray.size]
  refine Ret.of_W Try.func33 rfl Try.ntmps33 rfl ?_
  refine W.seq ?_
  refine W.sub [(0, _), (1, _), (2, _)] ⟨rfl, rfl, rfl, trivial⟩ ?_
  refine W.reg [(0, true), (1, true), (2, true), (3, false)] (by kernel_rfl) ?_ -- region 0
  intro K hK
  refine x_box [_, _] rfl rfl rfl rfl rfl ?_ -- bx1 ref.go:79
  intro bbx1 wbx1 hbbx1 hwbx1
  have M := M.alloc hbbx1 hwbx1
  refine ⟨trivial, ?_⟩
  refine x_box [_, _] rfl rfl rfl rfl rfl ?_ -- bx2 ref.go:79
  intro bbx2 wbx2 hbbx2 hwbx2
  have M := M.alloc hbbx2 hwbx2
  refine ⟨trivial, ?_⟩
  refine x_alloc [_, _] rfl rfl rfl ze46 rfl ?_ -- al1 ref.go:79
  intro bal1 wal1 hbal1 hwal1
  have M := M.alloc hbal1 hwal1
  refine ⟨trivial, ?_⟩
  refine x_assign rfl rfl rfl rfl ?_
  refine Ex.done (hK _ _ ?_)
  refine At.then_n ?_
  refine W.seq ?_
  refine W.seq ?_
  refine W.sub [(2, _), (3, _), (4, _), (6, _)] ⟨rfl, rfl, rfl, rfl, trivial⟩ ?_
  refine W.reg [(0, false), (1, false), (2, false)] (by kernel_rfl) ?_ -- region 1
  intro K hK
  refine x_move rfl rfl rfl rfl ?_
  refine x_lens rfl rfl rfl rfl Try.underlying9 rfl ?_
  refine x_gtr true rfl rfl rfl rfl rfl (decide_eq_true (by rw [esz]; omega)) ?_ -- cm1 ref.go:80
  refine Ex.done (hK _ _ ?_)
  refine At.then_n ?_
  refine W.condT rfl ?_ -- co1
  refine W.seq ?_
  refine W.sub [(3, _), (6, _)] ⟨rfl, rfl, trivial⟩ ?_
  refine W.reg [(0, false), (1, true), (2, false)] (by kernel_rfl) ?_ -- region 2
  intro K hK
  refine x_ldA [_, _] rfl rfl rfl Try.underlying46 rfl sz46 rfl rfl ⟨_, _, _, (by first | exact M.at_ 0 rfl | exact M.at_ 1 rfl | exact M.at_ 2 rfl | exact M.at_ 3 rfl | exact M.at_ 4 rfl | exact M.at_ 5 rfl), rfl⟩ ?_ -- ld1 ref.go:81
  refine x_st [_, _] _ rfl rfl rfl sz46 rfl rfl rfl rfl (by first | exact M.at_ 0 rfl | exact M.at_ 1 rfl | exact M.at_ 2 rfl | exact M.at_ 3 rfl | exact M.at_ 4 rfl | exact M.at_ 5 rfl) rfl rfl rfl ?_ -- st1 ref.go:81
  intro wst1 hwst1
  have M := M.put 2 rfl hwst1
  refine ⟨trivial, ?_⟩
  refine x_assign rfl rfl rfl rfl ?_
  refine Ex.done (hK _ _ ?_)
  refine At.then_n ?_
  refine W.ret ?_
  refine At.then_r ?_
  refine At.ret2 (.cell 6 46) (.tmp 7) rfl ⟨⟨_, rfl, run_loadVarA (l := [_, _]) Try.underlying46 rfl sz46 ⟨_, _, _, M.at_ 2 rfl, rfl⟩ (Nat.zero_lt_succ _)⟩, rfl, trivial⟩ ?_ -- ret1
  exact ⟨rfl, M.frm⟩

-- (valise/valiseref17.Cache).Put
set_option maxRecDepth 100000 in
theorem rput_full {w0 : World} {v : Value} {bud : Int} {N : List Blk} {k : Key} {b : List UInt8} (h : RefL w0 v N) (hl : N.length ≤ 1000) (hk : (N.map (·.1)).Nodup) (hbud : 0 ≤ bud ∧ bud ≤ 1048576) (htot : totM N ≤ bud) (hb : b.length ≤ 4096) (hfull : bud < heldM N k + b.length) : Ret Try.prog 33 #[refV bud v, encK k, .string (strB b)] w0 fun r w' => r = .tuple #[refV bud v, .int .i64 7] ∧ New w0 w' := by
  have M : St None' w0 [] w0 := Frm.refl _ _
  obtain ⟨p, cap, rfl, hcap⟩ := h.shape
  have esz : (strB b).size = b.length := by simp [strB, ByteArray.size]
  refine Ret.of_W Try.func33 rfl Try.ntmps33 rfl ?_
  refine W.seq ?_
  refine W.sub [(0, _), (1, _), (2, _)] ⟨rfl, rfl, rfl, trivial⟩ ?_
  refine W.reg [(0, true), (1, true), (2, true), (3, false)] (by kernel_rfl) ?_ -- region 0
  intro K hK
  refine x_box [_, _] rfl rfl rfl rfl rfl ?_ -- bx1 ref.go:79
  intro bbx1 wbx1 hbbx1 hwbx1
  have M := M.alloc hbbx1 hwbx1
  refine ⟨trivial, ?_⟩
  refine x_box [_, _] rfl rfl rfl rfl rfl ?_ -- bx2 ref.go:79
  intro bbx2 wbx2 hbbx2 hwbx2
  have M := M.alloc hbbx2 hwbx2
  refine ⟨trivial, ?_⟩
  refine x_alloc [_, _] rfl rfl rfl ze46 rfl ?_ -- al1 ref.go:79
  intro bal1 wal1 hbal1 hwal1
  have M := M.alloc hbal1 hwal1
  refine ⟨trivial, ?_⟩
  refine x_assign rfl rfl rfl rfl ?_
  refine Ex.done (hK _ _ ?_)
  refine At.then_n ?_
  refine W.seq ?_
  refine W.seq ?_
  refine W.sub [(2, _), (3, _), (4, _), (6, _)] ⟨rfl, rfl, rfl, rfl, trivial⟩ ?_
  refine W.reg [(0, false), (1, false), (2, false)] (by kernel_rfl) ?_ -- region 1
  intro K hK
  refine x_move rfl rfl rfl rfl ?_
  refine x_lens rfl rfl rfl rfl Try.underlying9 rfl ?_
  refine x_gtr false rfl rfl rfl rfl rfl (decide_eq_false (by rw [esz]; omega)) ?_ -- cm1 ref.go:80
  refine Ex.done (hK _ _ ?_)
  refine At.then_n ?_
  refine W.condF rfl ?_ -- co1
  refine W.skip ?_
  refine At.then_n ?_
  refine W.seq ?_
  refine W.sub [(2, _), (3, _), (4, _), (6, _)] ⟨rfl, rfl, rfl, rfl, trivial⟩ ?_
  refine W.reg [(0, false), (1, false)] (by kernel_rfl) ?_ -- region 3
  intro K hK
  refine x_assign rfl rfl rfl rfl ?_
  refine x_assign rfl rfl rfl rfl ?_
  refine Ex.done (hK _ _ ?_)
  refine At.then_n ?_
  refine W.seq ?_
  refine W.seq ?_
  refine W.sub [(2, _), (3, _), (4, _), (6, _), (8, _), (9, _)] ⟨rfl, rfl, rfl, rfl, rfl, rfl, trivial⟩ ?_
  refine W.reg [(0, false)] (by kernel_rfl) ?_ -- region 4
  intro K hK
  refine x_assign rfl rfl rfl rfl ?_
  refine Ex.done (hK _ _ ?_)
  refine At.then_n ?_
  refine W.block ?_
  refine W.loop (σ := Nat) (fun s => [(2, _), (3, _), (4, _), (6, _), (8, .int .i64 (heldM (N.take s) k)), (9, .int .i64 (pinsM (N.take s) k)), (10, .int .i64 ((s : Nat) : Int))]) (fun s w => s ≤ N.length ∧ St None' w0 [(bbx1, Obj.cells [Value.int .i64 bud, .slice p N.length cap].toArray 46 (0, 0)), (bbx2, Obj.cells [Value.string k.1, Value.int .i64 k.2].toArray 29 (0, 0)), (bal1, Obj.cells [Value.int .i64 0, Value.slice none 0 0].toArray 46 (0, 0))] w) (fun s => N.length - s) 0 ⟨rfl, rfl, rfl, rfl, rfl, rfl, rfl, trivial⟩ ⟨Nat.zero_le _, M⟩ ?_ -- loop1
  rintro s w ⟨hsl, M⟩
  refine W.seq ?_
  refine W.seq ?_
  refine W.sub [(2, _), (3, _), (4, _), (6, _), (8, _), (9, _), (10, _)] ⟨rfl, rfl, rfl, rfl, rfl, rfl, rfl, trivial⟩ ?_
  refine W.reg [(0, false), (1, false), (2, false), (3, false), (4, false)] (by kernel_rfl) ?_ -- region 5
  intro K hK
  refine x_move rfl rfl rfl rfl ?_
  refine x_fa rfl rfl rfl fo46_1 rfl ?_
  refine x_ld rfl rfl rfl Try.underlying44 rfl rfl (cell_of (by first | exact M.at_ 0 rfl | exact M.at_ 1 rfl | exact M.at_ 2 rfl | exact M.at_ 3 rfl | exact M.at_ 4 rfl | exact M.at_ 5 rfl) rfl) ?_ -- ld1 ref.go:84
  refine x_len rfl rfl rfl rfl Try.underlying44 rfl ?_
  refine x_lss _ rfl rfl rfl rfl rfl rfl ?_ -- cm2 ref.go:84
  refine Ex.done (hK _ _ ?_)
  refine At.then_n ?_
  refine W.cond rfl (fun hco2 => ?_) (fun hco2 => ?_) -- co2
  · have hlt : s < N.length := by have := of_decide_eq_true hco2; omega
    obtain ⟨m, hm⟩ : ∃ m, N[s]? = some m := ⟨N[s], List.getElem?_eq_getElem hlt⟩
    have h1 := heldM_take (k := k) hm
    have h2 := pinsM_take (k := k) hk hm
    have hnn := heldM_nn (N.take s) k
    have htl := totM_take_le (M := N) (s + 1)
    have htm := totM_take hm
    have esm : (strB m.2.1).size = m.2.1.length := by simp [strB, ByteArray.size]
    refine W.skip ?_
    refine At.then_n ?_
    refine W.seq ?_
    refine W.block ?_
    refine W.seq ?_
    refine W.sub [(2, _), (3, _), (4, _), (6, _), (8, _), (9, _), (10, _)] ⟨rfl, rfl, rfl, rfl, rfl, rfl, rfl, trivial⟩ ?_
    refine W.regD (by kernel_rfl) #[0, 1, 0, 7, 15, 31, 0, 127] [(0, false), (1, false), (2, false), (3, false), (4, false), (5, false), (6, false), (7, false)] (by kernel_rfl) ?_ -- region 7
    intro K wD1 hK hwD1
    have M := M.drew hwD1
    obtain ⟨bk, off, rfl, hrow⟩ := (h.new M.frm).row hm
    refine x_fa rfl rfl rfl fo46_1 rfl ?_
    refine x_ld rfl rfl rfl Try.underlying44 rfl rfl (cell_of (by first | exact M.at_ 0 rfl | exact M.at_ 1 rfl | exact M.at_ 2 rfl | exact M.at_ 3 rfl | exact M.at_ 4 rfl | exact M.at_ 5 rfl) rfl) ?_ -- ld2 ref.go:85
    refine x_move rfl rfl rfl rfl ?_
    refine x_ia s rfl rfl rfl Try.underlying44 sz53 rfl rfl rfl hlt ?_ -- ia1 ref.go:85
    refine x_fa rfl rfl rfl fo53_0 rfl ?_
    refine x_ldA [_, _] rfl rfl rfl Try.underlying29 rfl sz29 rfl rfl (row_bkey hrow) ?_ -- ld3 ref.go:85
    refine x_ldA [_, _] rfl rfl rfl Try.underlying29 rfl sz29 rfl rfl ⟨_, _, _, (by first | exact M.at_ 0 rfl | exact M.at_ 1 rfl | exact M.at_ 2 rfl | exact M.at_ 3 rfl | exact M.at_ 4 rfl | exact M.at_ 5 rfl), rfl⟩ ?_ -- ld4 ref.go:85
    refine x_bin (v := .bool (decide (m.1 = k))) rfl rfl rfl rfl rfl (fun w' => run_eq_key m.1 k _ _ w') ?_ -- eq1 ref.go:85
    refine Ex.done (hK _ _ ?_)
    refine At.then_n ?_
    refine W.cond rfl (fun hco3 => ?_) (fun hco3 => ?_) -- co3
    · have hmk : m.1 = k := of_decide_eq_true hco3
      rw [if_pos hmk] at h2
      rw [if_neg (fun h => h.2 hmk), Int.add_zero] at h1
      refine W.sub [(2, _), (3, _), (4, _), (6, _), (8, _), (10, _)] ⟨rfl, rfl, rfl, rfl, rfl, rfl, trivial⟩ ?_
      refine W.reg [(0, false), (1, false), (2, false), (3, false), (4, false), (5, false), (6, false)] (by kernel_rfl) ?_ -- region 8
      intro K hK
      refine x_fa rfl rfl rfl fo46_1 rfl ?_
      refine x_ld rfl rfl rfl Try.underlying44 rfl rfl (cell_of (by first | exact M.at_ 0 rfl | exact M.at_ 1 rfl | exact M.at_ 2 rfl | exact M.at_ 3 rfl | exact M.at_ 4 rfl | exact M.at_ 5 rfl) rfl) ?_ -- ld5 ref.go:86
      refine x_move rfl rfl rfl rfl ?_
      refine x_ia s rfl rfl rfl Try.underlying44 sz53 rfl rfl rfl hlt ?_ -- ia2 ref.go:86
      refine x_fa rfl rfl rfl fo53_2 rfl ?_
      refine x_ld rfl rfl rfl Try.underlying3 rfl rfl (row_cell (j := 3) hrow rfl) ?_ -- ld6 ref.go:86
      refine x_assign rfl rfl rfl rfl ?_
      refine Ex.done (hK _ _ ?_)
      refine At.blk_n ?_
      refine At.then_n ?_
      refine W.sub [(2, _), (3, _), (4, _), (6, _), (8, _), (9, _), (10, _)] ⟨rfl, rfl, rfl, rfl, rfl, rfl, rfl, trivial⟩ ?_
      refine W.reg [(0, false), (1, false), (2, false)] (by kernel_rfl) ?_ -- region 6
      intro K hK
      refine x_move rfl rfl rfl rfl ?_
      refine x_add ((s + 1 : Nat) : Int) rfl rfl rfl rfl rfl (by rw [wrap64_id (by omega) (by omega)]; omega) ?_ -- ar1 ref.go:84
      refine x_assign rfl rfl rfl rfl ?_
      refine Ex.done (hK _ _ ?_)
      -- bk1: back to loop1
      exact At.back (s + 1) ⟨rfl, rfl, rfl, rfl, (by rw [h1]; rfl), (by rw [h2]; rfl), rfl, trivial⟩ ⟨by omega, M⟩ (by omega)
    · have hmk : m.1 ≠ k := of_decide_eq_false hco3
      rw [if_neg hmk] at h2
      refine W.seq ?_
      refine W.sub [(2, _), (3, _), (4, _), (6, _), (8, _), (9, _), (10, _)] ⟨rfl, rfl, rfl, rfl, rfl, rfl, rfl, trivial⟩ ?_
      refine W.reg [(0, false), (1, false), (2, false), (3, false), (4, false), (5, false), (6, false)] (by kernel_rfl) ?_ -- region 9
      intro K hK
      refine x_fa rfl rfl rfl fo46_1 rfl ?_
      refine x_ld rfl rfl rfl Try.underlying44 rfl rfl (cell_of (by first | exact M.at_ 0 rfl | exact M.at_ 1 rfl | exact M.at_ 2 rfl | exact M.at_ 3 rfl | exact M.at_ 4 rfl | exact M.at_ 5 rfl) rfl) ?_ -- ld7 ref.go:87
      refine x_move rfl rfl rfl rfl ?_
      refine x_ia s rfl rfl rfl Try.underlying44 sz53 rfl rfl rfl hlt ?_ -- ia3 ref.go:87
      refine x_fa rfl rfl rfl fo53_2 rfl ?_
      refine x_ld rfl rfl rfl Try.underlying3 rfl rfl (row_cell (j := 3) hrow rfl) ?_ -- ld8 ref.go:87
      refine x_gtr _ rfl rfl rfl rfl rfl rfl ?_ -- cm3 ref.go:87
      refine Ex.done (hK _ _ ?_)
      refine At.then_n ?_
      refine W.cond rfl (fun hco4 => ?_) (fun hco4 => ?_) -- co4
      · rw [if_pos ⟨of_decide_eq_true hco4, hmk⟩] at h1
        refine W.sub [(2, _), (3, _), (4, _), (6, _), (8, _), (9, _), (10, _)] ⟨rfl, rfl, rfl, rfl, rfl, rfl, rfl, trivial⟩ ?_
        refine W.reg [(0, false), (1, false), (2, false), (3, false), (4, false), (5, false), (6, false), (7, false), (8, false), (9, false)] (by kernel_rfl) ?_ -- region 10
        intro K hK
        refine x_move rfl rfl rfl rfl ?_
        refine x_fa rfl rfl rfl fo46_1 rfl ?_
        refine x_ld rfl rfl rfl Try.underlying44 rfl rfl (cell_of (by first | exact M.at_ 0 rfl | exact M.at_ 1 rfl | exact M.at_ 2 rfl | exact M.at_ 3 rfl | exact M.at_ 4 rfl | exact M.at_ 5 rfl) rfl) ?_ -- ld9 ref.go:88
        refine x_move rfl rfl rfl rfl ?_
        refine x_ia s rfl rfl rfl Try.underlying44 sz53 rfl rfl rfl hlt ?_ -- ia4 ref.go:88
        refine x_fa rfl rfl rfl fo53_1 rfl ?_
        refine x_ld rfl rfl rfl Try.underlying9 rfl rfl (row_cell (j := 2) hrow rfl) ?_ -- ld10 ref.go:88
        refine x_lens rfl rfl rfl rfl Try.underlying9 rfl ?_
        refine x_add (heldM (N.take (s + 1)) k) rfl rfl rfl rfl rfl (by rw [h1]; show IntKind.i64.wrap (heldM (N.take s) k + ((strB m.2.1).size : Int)) = _; rw [esm, wrap64_id (by omega) (by omega)]) ?_ -- ar2 ref.go:88
        refine x_assign rfl rfl rfl rfl ?_
        refine Ex.done (hK _ _ ?_)
        refine At.blk_n ?_
        refine At.then_n ?_
        refine W.sub [(2, _), (3, _), (4, _), (6, _), (8, _), (9, _), (10, _)] ⟨rfl, rfl, rfl, rfl, rfl, rfl, rfl, trivial⟩ ?_
        refine W.reg [(0, false), (1, false), (2, false)] (by kernel_rfl) ?_ -- region 6
        intro K hK
        refine x_move rfl rfl rfl rfl ?_
        refine x_add ((s + 1 : Nat) : Int) rfl rfl rfl rfl rfl (by rw [wrap64_id (by omega) (by omega)]; omega) ?_ -- ar3 ref.go:84
        refine x_assign rfl rfl rfl rfl ?_
        refine Ex.done (hK _ _ ?_)
        -- bk2: back to loop1
        exact At.back (s + 1) ⟨rfl, rfl, rfl, rfl, rfl, (by rw [h2]; rfl), rfl, trivial⟩ ⟨by omega, M⟩ (by omega)
      · rw [if_neg (fun h => of_decide_eq_false hco4 h.1), Int.add_zero] at h1
        refine W.skip ?_
        refine At.blk_n ?_
        refine At.then_n ?_
        refine W.sub [(2, _), (3, _), (4, _), (6, _), (8, _), (9, _), (10, _)] ⟨rfl, rfl, rfl, rfl, rfl, rfl, rfl, trivial⟩ ?_
        refine W.reg [(0, false), (1, false), (2, false)] (by kernel_rfl) ?_ -- region 6
        intro K hK
        refine x_move rfl rfl rfl rfl ?_
        refine x_add ((s + 1 : Nat) : Int) rfl rfl rfl rfl rfl (by rw [wrap64_id (by omega) (by omega)]; omega) ?_ -- ar4 ref.go:84
        refine x_assign rfl rfl rfl rfl ?_
        refine Ex.done (hK _ _ ?_)
        -- bk3: back to loop1
        exact At.back (s + 1) ⟨rfl, rfl, rfl, rfl, (by rw [h1]; rfl), (by rw [h2]; rfl), rfl, trivial⟩ ⟨by omega, M⟩ (by omega)
  · have hs : s = N.length := by have := of_decide_eq_false hco2; omega
    subst hs
    have hge1 := M.ge 0 rfl
    have hge3 := M.ge 2 rfl
    refine W.exit ?_
    refine At.then_x ?_
    refine At.loop_x ?_
    refine At.blk_x ?_
    refine At.then_n ?_
    refine W.seq ?_
    refine W.seq ?_
    refine W.sub [(2, _), (3, _), (4, _), (6, _), (8, _), (9, _)] ⟨rfl, rfl, rfl, rfl, rfl, rfl, trivial⟩ ?_
    refine W.reg [(0, false), (1, false), (2, false), (3, false), (4, false), (5, false), (6, false)] (by kernel_rfl) ?_ -- region 11
    intro K hK
    refine x_move rfl rfl rfl rfl ?_
    refine x_fa rfl rfl rfl fo46_0 rfl ?_
    refine x_ld rfl rfl rfl Try.underlying3 rfl rfl (cell_of (by first | exact M.at_ 0 rfl | exact M.at_ 1 rfl | exact M.at_ 2 rfl | exact M.at_ 3 rfl | exact M.at_ 4 rfl | exact M.at_ 5 rfl) rfl) ?_ -- ld11 ref.go:91
    refine x_move rfl rfl rfl rfl ?_
    refine x_lens rfl rfl rfl rfl Try.underlying9 rfl ?_
    refine x_sub (bud - b.length) rfl rfl rfl rfl rfl (by show IntKind.i64.wrap (bud - ((strB b).size : Int)) = _; rw [esz, wrap64_id (by omega) (by omega)]) ?_ -- ar5 ref.go:91
    refine x_gtr true rfl rfl rfl rfl rfl (decide_eq_true (by rw [List.take_length]; omega)) ?_ -- cm4 ref.go:91
    refine Ex.done (hK _ _ ?_)
    refine At.then_n ?_
    refine W.condT rfl ?_ -- co5
    refine W.seq ?_
    refine W.sub [(3, _), (6, _)] ⟨rfl, rfl, trivial⟩ ?_
    refine W.reg [(0, false), (1, true), (2, false)] (by kernel_rfl) ?_ -- region 12
    intro K hK
    refine x_ldA [_, _] rfl rfl rfl Try.underlying46 rfl sz46 rfl rfl ⟨_, _, _, (by first | exact M.at_ 0 rfl | exact M.at_ 1 rfl | exact M.at_ 2 rfl | exact M.at_ 3 rfl | exact M.at_ 4 rfl | exact M.at_ 5 rfl), rfl⟩ ?_ -- ld12 ref.go:92
    refine x_st [_, _] _ rfl rfl rfl sz46 rfl rfl rfl rfl (by first | exact M.at_ 0 rfl | exact M.at_ 1 rfl | exact M.at_ 2 rfl | exact M.at_ 3 rfl | exact M.at_ 4 rfl | exact M.at_ 5 rfl) rfl rfl rfl ?_ -- st1 ref.go:92
    intro wst1 hwst1
    have M := M.put 2 rfl hwst1
    refine ⟨trivial, ?_⟩
    refine x_assign rfl rfl rfl rfl ?_
    refine Ex.done (hK _ _ ?_)
    refine At.then_n ?_
    refine W.ret ?_
    refine At.then_r ?_
    refine At.ret2 (.cell 6 46) (.tmp 7) rfl ⟨⟨_, rfl, run_loadVarA (l := [_, _]) Try.underlying46 rfl sz46 ⟨_, _, _, M.at_ 2 rfl, rfl⟩ (Nat.zero_lt_succ _)⟩, rfl, trivial⟩ ?_ -- ret1
    exact ⟨rfl, M.frm⟩
end Go.Proofs.Ytbbccdcjhoecpaa
