/-
  The walk of functions of the cache, by program: few, do_c.
-/
import Derived.Test.YtbbccdcjhoecpaaTab
import Derived.Test.YtbbccdcjhoecpaaW12
import Derived.Test.YtbbccdcjhoecpaaA1
namespace Go.Proofs.Ytbbccdcjhoecpaa
open Go Go.Fw Go.RowKit Go.Proofs

-- valise/valiselaw17.few
set_option maxRecDepth 100000 in
theorem few_c {w0 : World} {v0 : Value} {A : List Ac} (h : ActsIn w0 v0 A) : Ret Try.prog 13 #[v0] w0 fun v w' => v = .bool (decide (fewA A)) ∧ w0 = w' := by
  obtain ⟨p, cap, rfl, hAl, hA⟩ := h
  refine Ret.of_W Try.func13 rfl Try.ntmps13 rfl ?_
  refine W.seq ?_
  refine W.sub [(0, _)] ⟨rfl, trivial⟩ ?_
  refine W.reg [(0, false)] (by kernel_rfl) ?_ -- region 0
  intro K hK
  refine x_assign rfl rfl rfl rfl ?_
  refine Ex.done (hK _ _ ?_)
  refine At.then_n ?_
  refine W.seq ?_
  refine W.seq ?_
  refine W.sub [(0, _)] ⟨rfl, trivial⟩ ?_
  refine W.reg [(0, false)] (by kernel_rfl) ?_ -- region 1
  intro K hK
  refine x_assign rfl rfl rfl rfl ?_
  refine Ex.done (hK _ _ ?_)
  refine At.then_n ?_
  refine W.block ?_
  refine W.loop (σ := Nat) (fun s => [(0, _), (3, .int .i64 ((s : Nat) : Int))]) (fun s w => w = w0 ∧ s ≤ A.length ∧ s ≤ 60 ∧ ∀ i a, i < s → A[i]? = some a → a.b.length ≤ 5000 ∧ a.k.1.size ≤ 100) (fun s => A.length - s) 0 ⟨rfl, rfl, trivial⟩ ⟨rfl, by omega, by omega, fun i a h => by omega⟩ ?_ -- loop1
  rintro s w ⟨rfl, hsl, hs6, hall⟩
  refine W.seq ?_
  refine W.seq ?_
  refine W.sub [(0, _), (3, _)] ⟨rfl, rfl, trivial⟩ ?_
  refine W.reg [(0, false), (1, false), (2, false), (3, false)] (by kernel_rfl) ?_ -- region 2
  intro K hK
  refine x_move rfl rfl rfl rfl ?_
  refine x_move rfl rfl rfl rfl ?_
  refine x_len rfl rfl rfl rfl Try.underlying35 rfl ?_
  refine x_lss _ rfl rfl rfl rfl rfl rfl ?_ -- cm1 law.go:38
  refine Ex.done (hK _ _ ?_)
  refine At.then_n ?_
  refine W.cond rfl (fun hco1 => ?_) (fun hco1 => ?_) -- co1
  · have hlt : s < A.length := by have := of_decide_eq_true hco1; omega
    obtain ⟨a, ha⟩ : ∃ a, A[s]? = some a := ⟨A[s], List.getElem?_eq_getElem hlt⟩
    obtain ⟨b, off, rfl, hbl, hrow, hby⟩ := hA s a ha
    obtain ⟨pb, capb, hsv⟩ := hby.shape
    have ham : a ∈ A := List.mem_of_getElem? ha
    refine W.skip ?_
    refine At.then_n ?_
    refine W.seq ?_
    refine W.block ?_
    refine W.seq ?_
    refine W.sub [(0, _), (3, _)] ⟨rfl, rfl, trivial⟩ ?_
    refine W.reg [(0, false), (1, false), (2, false), (3, false), (4, false), (5, false), (6, false), (7, false), (8, false), (9, false), (10, false), (11, false), (12, false), (13, false), (14, false), (15, false), (16, false), (17, false), (18, false), (19, false), (20, false)] (by kernel_rfl) ?_ -- region 4
    intro K hK
    refine x_move rfl rfl rfl rfl ?_
    refine x_geq _ rfl rfl rfl rfl rfl rfl ?_ -- cm2 law.go:39
    refine x_move rfl rfl rfl rfl ?_
    refine Ex.split 12 rfl (fun hsp1 => ?_) (fun hsp1 => ?_)
    · -- sp1 True
      refine Ex.skip_ rfl rfl rfl ?_
      refine Ex.skip_ rfl rfl rfl ?_
      refine Ex.skip_ rfl rfl rfl ?_
      refine Ex.skip_ rfl rfl rfl ?_
      refine Ex.skip_ rfl rfl rfl ?_
      refine Ex.skip_ rfl rfl rfl ?_
      refine Ex.skip_ rfl rfl rfl ?_
      refine x_pickT rfl rfl rfl rfl rfl ?_
      refine x_move rfl rfl rfl rfl ?_
      refine Ex.skip_ rfl rfl rfl ?_
      refine Ex.skip_ rfl rfl rfl ?_
      refine Ex.skip_ rfl rfl rfl ?_
      refine Ex.skip_ rfl rfl rfl ?_
      refine Ex.skip_ rfl rfl rfl ?_
      refine Ex.skip_ rfl rfl rfl ?_
      refine Ex.skip_ rfl rfl rfl ?_
      refine Ex.skip_ rfl rfl rfl ?_
      refine x_pickT rfl rfl rfl rfl rfl ?_
      refine Ex.done (hK _ _ ?_)
      refine At.then_n ?_
      refine W.condT rfl ?_ -- co2
      refine W.seq ?_
      refine W.sub [] trivial ?_
      refine W.reg [(0, false)] (by kernel_rfl) ?_ -- region 5
      intro K hK
      refine x_assign rfl rfl rfl rfl ?_
      refine Ex.done (hK _ _ ?_)
      refine At.then_n ?_
      refine W.ret ?_
      refine At.blk_r ?_
      refine At.then_r ?_
      refine At.loop_r ?_
      refine At.blk_r ?_
      refine At.then_r ?_
      refine At.ret1 (.tmp 2) rfl ⟨rfl, trivial⟩ ?_ -- ret1
      exact ⟨by have h1 := of_decide_eq_true hsp1; rw [decide_eq_false (fun h => by have := h.1; omega)], rfl⟩
    · -- sp1 False
      refine x_move rfl rfl rfl rfl ?_
      refine x_move rfl rfl rfl rfl ?_
      refine x_ia s rfl rfl rfl Try.underlying35 sz39 rfl rfl rfl hlt ?_ -- ia1 law.go:39
      refine x_fa rfl rfl rfl fo39_2 rfl ?_
      refine x_ld rfl rfl rfl Try.underlying31 rfl rfl (row_cell (j := 3) (u := .slice pb a.b.length capb) hrow (by rw [← hsv]; rfl)) ?_ -- ld1 law.go:39
      refine x_len rfl rfl rfl rfl Try.underlying31 rfl ?_
      refine x_gtr _ rfl rfl rfl rfl rfl rfl ?_ -- cm3 law.go:39
      refine x_pickF rfl rfl rfl rfl rfl ?_
      refine x_move rfl rfl rfl rfl ?_
      refine Ex.split 21 rfl (fun hsp2 => ?_) (fun hsp2 => ?_)
      · -- sp2 True
        refine Ex.skip_ rfl rfl rfl ?_
        refine Ex.skip_ rfl rfl rfl ?_
        refine Ex.skip_ rfl rfl rfl ?_
        refine Ex.skip_ rfl rfl rfl ?_
        refine Ex.skip_ rfl rfl rfl ?_
        refine Ex.skip_ rfl rfl rfl ?_
        refine Ex.skip_ rfl rfl rfl ?_
        refine Ex.skip_ rfl rfl rfl ?_
        refine x_pickT rfl rfl rfl rfl rfl ?_
        refine Ex.done (hK _ _ ?_)
        refine At.then_n ?_
        refine W.condT rfl ?_ -- co3
        refine W.seq ?_
        refine W.sub [] trivial ?_
        refine W.reg [(0, false)] (by kernel_rfl) ?_ -- region 5
        intro K hK
        refine x_assign rfl rfl rfl rfl ?_
        refine Ex.done (hK _ _ ?_)
        refine At.then_n ?_
        refine W.ret ?_
        refine At.blk_r ?_
        refine At.then_r ?_
        refine At.loop_r ?_
        refine At.blk_r ?_
        refine At.then_r ?_
        refine At.ret1 (.tmp 2) rfl ⟨rfl, trivial⟩ ?_ -- ret2
        exact ⟨by have h1 := of_decide_eq_true hsp2; rw [decide_eq_false (fun h => by have := (h.2 a ham).1; omega)], rfl⟩
      · -- sp2 False
        refine x_move rfl rfl rfl rfl ?_
        refine x_move rfl rfl rfl rfl ?_
        refine x_ia s rfl rfl rfl Try.underlying35 sz39 rfl rfl rfl hlt ?_ -- ia2 law.go:39
        refine x_fa rfl rfl rfl fo39_1 rfl ?_
        refine x_fa rfl rfl rfl fo29_0 rfl ?_
        refine x_ld rfl rfl rfl Try.underlying9 rfl rfl (row_cell (j := 1) hrow rfl) ?_ -- ld2 law.go:39
        refine x_lens rfl rfl rfl rfl Try.underlying9 rfl ?_
        refine x_gtr _ rfl rfl rfl rfl rfl rfl ?_ -- cm4 law.go:39
        refine x_pickF rfl rfl rfl rfl rfl ?_
        refine Ex.done (hK _ _ ?_)
        refine At.then_n ?_
        refine W.cond rfl (fun hco4 => ?_) (fun hco4 => ?_) -- co4
        · refine W.seq ?_
          refine W.sub [] trivial ?_
          refine W.reg [(0, false)] (by kernel_rfl) ?_ -- region 5
          intro K hK
          refine x_assign rfl rfl rfl rfl ?_
          refine Ex.done (hK _ _ ?_)
          refine At.then_n ?_
          refine W.ret ?_
          refine At.blk_r ?_
          refine At.then_r ?_
          refine At.loop_r ?_
          refine At.blk_r ?_
          refine At.then_r ?_
          refine At.ret1 (.tmp 2) rfl ⟨rfl, trivial⟩ ?_ -- ret3
          exact ⟨by have h1 := of_decide_eq_true hco4; rw [decide_eq_false (fun h => by have := (h.2 a ham).2; omega)], rfl⟩
        · refine W.skip ?_
          refine At.blk_n ?_
          refine At.then_n ?_
          refine W.sub [(0, _), (3, _)] ⟨rfl, rfl, trivial⟩ ?_
          refine W.reg [(0, false), (1, false), (2, false)] (by kernel_rfl) ?_ -- region 3
          intro K hK
          refine x_move rfl rfl rfl rfl ?_
          refine x_add ((s + 1 : Nat) : Int) rfl rfl rfl rfl rfl (by rw [wrap64_id (by omega) (by omega)]; omega) ?_ -- ar1 law.go:38
          refine x_assign rfl rfl rfl rfl ?_
          refine Ex.done (hK _ _ ?_)
          -- bk1: back to loop1
          refine At.back (s + 1) ⟨rfl, rfl, trivial⟩ ⟨rfl, by omega, by have := of_decide_eq_false hsp1; omega, fun i a' hi ha' => ?_⟩ (by omega)
          rcases Nat.lt_or_ge i s with h1 | h1
          · exact hall i a' h1 ha'
          · have : i = s := by omega
            subst this
            rw [ha] at ha'; cases ha'
            have h2 := of_decide_eq_false hsp2
            have h3 := of_decide_eq_false hco4
            exact ⟨by omega, by omega⟩
  · refine W.exit ?_
    refine At.then_x ?_
    refine At.loop_x ?_
    refine At.blk_x ?_
    refine At.then_n ?_
    refine W.seq ?_
    refine W.sub [] trivial ?_
    refine W.reg [(0, false)] (by kernel_rfl) ?_ -- region 6
    intro K hK
    refine x_assign rfl rfl rfl rfl ?_
    refine Ex.done (hK _ _ ?_)
    refine At.then_n ?_
    refine W.ret ?_
    refine At.ret1 (.tmp 2) rfl ⟨rfl, trivial⟩ ?_ -- ret4
    have hs : s = A.length := by have := of_decide_eq_false hco1; omega
    refine ⟨?_, rfl⟩
    rw [decide_eq_true]
    exact ⟨by omega, fun a ha => by obtain ⟨i, hi⟩ := List.mem_iff_getElem?.1 ha; exact hall i a (by rw [hs]; exact (List.getElem?_eq_some_iff.1 hi).1) hi⟩

-- valise/valiselaw17.do
set_option maxRecDepth 100000 in
theorem do_c {w0 w : World} {L : List (Nat × Obj)} {c : Nat} {bud : Int} {M0 : List Blk} {a : Ac} (M : CS w0 L c bud M0 w) (hb : BytesIn w0 a.sv a.b) (hlen : a.b.length ≤ 1099511627776) (hpn : ∀ m ∈ M0, m.2.2 < 1000000000) (hml : M0.length ≤ 1000000) : Ret Try.prog 14 #[ptr c, .agg a.cells.toArray] w fun v w' => v = .tuple #[] ∧ CS w0 L c bud (doM bud M0 a) w' := by
  unfold doM
  obtain ⟨pb, capb, hsv⟩ := hb.shape
  refine Ret.of_W Try.func14 rfl Try.ntmps14 rfl ?_
  refine W.seq ?_
  refine W.sub [(0, _), (1, _)] ⟨rfl, rfl, trivial⟩ ?_
  refine W.reg [(0, true)] (by kernel_rfl) ?_ -- region 0
  intro K hK
  refine x_box [_, _, _, _] rfl rfl rfl rfl rfl ?_ -- bx1 outright.go:9
  intro bbx1 wbx1 hbbx1 hwbx1
  have M := M.alloc hbbx1 hwbx1
  refine ⟨trivial, ?_⟩
  refine Ex.done (hK _ _ ?_)
  refine At.then_n ?_
  refine W.seq ?_
  refine W.sub [(0, _), (3, _)] ⟨rfl, rfl, trivial⟩ ?_
  refine W.reg [(0, false), (1, false)] (by kernel_rfl) ?_ -- region 1
  intro K hK
  refine x_fa rfl rfl rfl fo39_0 rfl ?_
  refine x_ld rfl rfl rfl Try.underlying3 rfl rfl (cell_of M.last rfl) ?_ -- ld1 outright.go:10
  refine Ex.done (hK _ _ ?_)
  refine At.then_n ?_
  refine W.block ?_
  refine W.seq ?_
  refine W.sub [(0, _), (3, _), (5, _)] ⟨rfl, rfl, rfl, trivial⟩ ?_
  refine W.reg [(0, false), (1, false)] (by kernel_rfl) ?_ -- region 3
  intro K hK
  refine x_eqi _ rfl rfl rfl rfl rfl rfl ?_ -- eq1 outright.go:11
  refine x_assign rfl rfl rfl rfl ?_
  refine Ex.done (hK _ _ ?_)
  refine At.then_n ?_
  refine W.cond rfl (fun hco1 => ?_) (fun hco1 => ?_) -- co1
  · refine W.sub [(0, _), (3, _)] ⟨rfl, rfl, trivial⟩ ?_
    refine W.reg [(0, false), (1, false), (2, false), (3, false), (4, false), (5, true)] (by kernel_rfl) ?_ -- region 4
    intro K hK
    refine x_move rfl rfl rfl rfl ?_
    refine x_fa rfl rfl rfl fo39_1 rfl ?_
    refine x_ldA [_, _] rfl rfl rfl Try.underlying29 rfl sz29 rfl rfl ⟨_, _, _, M.last, rfl⟩ ?_ -- ld2 outright.go:12
    refine x_fa rfl rfl rfl fo39_2 rfl ?_
    refine x_ld rfl rfl rfl Try.underlying31 rfl rfl (cell_of M.last rfl) ?_ -- ld3 outright.go:12
    -- call1: (*valise/cache.Cache).Put outright.go:12
    refine x_call rfl rfl rfl rfl rfl en10 (M.opPut (k := a.k) (hb.new M.frm) (fun hne g hg => .inl (hb.lt hne hg)) hlen) ?_
    rintro v w1 ⟨_, M⟩
    refine ⟨trivial, ?_⟩
    refine Ex.done (hK _ _ ?_)
    refine At.blk_n ?_
    refine At.fall ?_
    refine At.ret0 rfl ?_ -- ret1
    have e1 : a.kind = 1 := by simpa using hco1
    refine ⟨rfl, ?_⟩
    rw [if_pos e1]
    exact M.init
  · refine W.seq ?_
    refine W.sub [(0, _), (3, _), (5, _)] ⟨rfl, rfl, rfl, trivial⟩ ?_
    refine W.reg [(0, false), (1, false)] (by kernel_rfl) ?_ -- region 5
    intro K hK
    refine x_eqi _ rfl rfl rfl rfl rfl rfl ?_ -- eq2 outright.go:13
    refine x_assign rfl rfl rfl rfl ?_
    refine Ex.done (hK _ _ ?_)
    refine At.then_n ?_
    refine W.cond rfl (fun hco2 => ?_) (fun hco2 => ?_) -- co2
    · refine W.sub [(0, _), (3, _)] ⟨rfl, rfl, trivial⟩ ?_
      refine W.reg [(0, false), (1, false), (2, false), (3, true)] (by kernel_rfl) ?_ -- region 6
      intro K hK
      refine x_move rfl rfl rfl rfl ?_
      refine x_fa rfl rfl rfl fo39_1 rfl ?_
      refine x_ldA [_, _] rfl rfl rfl Try.underlying29 rfl sz29 rfl rfl ⟨_, _, _, M.last, rfl⟩ ?_ -- ld4 outright.go:14
      -- call2: (*valise/cache.Cache).Pin outright.go:14
      refine x_call rfl rfl rfl rfl rfl en20 (M.opPin a.k hpn) ?_
      rintro v w1 ⟨_, M⟩
      refine ⟨trivial, ?_⟩
      refine Ex.done (hK _ _ ?_)
      refine At.blk_n ?_
      refine At.fall ?_
      refine At.ret0 rfl ?_ -- ret2
      have e1 : ¬ a.kind = 1 := by simpa using hco1
      have e2 : a.kind = 2 := by simpa using hco2
      refine ⟨rfl, ?_⟩
      rw [if_neg e1, if_pos e2]
      exact M.init
    · refine W.seq ?_
      refine W.sub [(0, _), (3, _), (5, _)] ⟨rfl, rfl, rfl, trivial⟩ ?_
      refine W.reg [(0, false), (1, false)] (by kernel_rfl) ?_ -- region 7
      intro K hK
      refine x_eqi _ rfl rfl rfl rfl rfl rfl ?_ -- eq3 outright.go:15
      refine x_assign rfl rfl rfl rfl ?_
      refine Ex.done (hK _ _ ?_)
      refine At.then_n ?_
      refine W.cond rfl (fun hco3 => ?_) (fun hco3 => ?_) -- co3
      · refine W.sub [(0, _), (3, _)] ⟨rfl, rfl, trivial⟩ ?_
        refine W.reg [(0, false), (1, false), (2, false), (3, true)] (by kernel_rfl) ?_ -- region 8
        intro K hK
        refine x_move rfl rfl rfl rfl ?_
        refine x_fa rfl rfl rfl fo39_1 rfl ?_
        refine x_ldA [_, _] rfl rfl rfl Try.underlying29 rfl sz29 rfl rfl ⟨_, _, _, M.last, rfl⟩ ?_ -- ld5 outright.go:16
        -- call3: (*valise/cache.Cache).Unpin outright.go:16
        refine x_call rfl rfl rfl rfl rfl en21 (M.opUnpin a.k hpn) ?_
        rintro v w1 ⟨_, M⟩
        refine ⟨trivial, ?_⟩
        refine Ex.done (hK _ _ ?_)
        refine At.blk_n ?_
        refine At.fall ?_
        refine At.ret0 rfl ?_ -- ret3
        have e1 : ¬ a.kind = 1 := by simpa using hco1
        have e2 : ¬ a.kind = 2 := by simpa using hco2
        have e3 : a.kind = 3 := by simpa using hco3
        refine ⟨rfl, ?_⟩
        rw [if_neg e1, if_neg e2, if_pos e3]
        exact M.init
      · refine W.seq ?_
        refine W.sub [(0, _), (3, _), (5, _)] ⟨rfl, rfl, rfl, trivial⟩ ?_
        refine W.reg [(0, false), (1, false)] (by kernel_rfl) ?_ -- region 9
        intro K hK
        refine x_eqi _ rfl rfl rfl rfl rfl rfl ?_ -- eq4 outright.go:17
        refine x_assign rfl rfl rfl rfl ?_
        refine Ex.done (hK _ _ ?_)
        refine At.then_n ?_
        refine W.cond rfl (fun hco4 => ?_) (fun hco4 => ?_) -- co4
        · refine W.sub [(0, _), (3, _)] ⟨rfl, rfl, trivial⟩ ?_
          refine W.reg [(0, false), (1, false), (2, false), (3, false), (4, true)] (by kernel_rfl) ?_ -- region 10
          intro K hK
          refine x_move rfl rfl rfl rfl ?_
          refine x_fa rfl rfl rfl fo39_1 rfl ?_
          refine x_fa rfl rfl rfl fo29_0 rfl ?_
          refine x_ld rfl rfl rfl Try.underlying9 rfl rfl (cell_of M.last rfl) ?_ -- ld6 outright.go:18
          -- call4: (*valise/cache.Cache).Drop outright.go:18
          refine x_call rfl rfl rfl rfl rfl en23 (M.opDrop a.k.1 hml) ?_
          rintro v w1 ⟨_, M⟩
          refine ⟨trivial, ?_⟩
          refine Ex.done (hK _ _ ?_)
          refine At.blk_n ?_
          refine At.fall ?_
          refine At.ret0 rfl ?_ -- ret4
          have e1 : ¬ a.kind = 1 := by simpa using hco1
          have e2 : ¬ a.kind = 2 := by simpa using hco2
          have e3 : ¬ a.kind = 3 := by simpa using hco3
          have e4 : a.kind = 4 := by simpa using hco4
          refine ⟨rfl, ?_⟩
          rw [if_neg e1, if_neg e2, if_neg e3, if_pos e4]
          exact M.init
        · refine W.sub [(0, _), (3, _)] ⟨rfl, rfl, trivial⟩ ?_
          refine W.reg [(0, false), (1, false), (2, false), (3, true)] (by kernel_rfl) ?_ -- region 2
          intro K hK
          refine x_move rfl rfl rfl rfl ?_
          refine x_fa rfl rfl rfl fo39_1 rfl ?_
          refine x_ldA [_, _] rfl rfl rfl Try.underlying29 rfl sz29 rfl rfl ⟨_, _, _, M.last, rfl⟩ ?_ -- ld7 outright.go:20
          -- call5: (*valise/cache.Cache).Get outright.go:20
          refine x_call rfl rfl rfl rfl rfl en16 (M.opGet a.k) ?_
          rintro v w1 ⟨M, _⟩
          refine ⟨trivial, ?_⟩
          refine Ex.done (hK _ _ ?_)
          refine At.blk_n ?_
          refine At.fall ?_
          refine At.ret0 rfl ?_ -- ret5
          have e1 : ¬ a.kind = 1 := by simpa using hco1
          have e2 : ¬ a.kind = 2 := by simpa using hco2
          have e3 : ¬ a.kind = 3 := by simpa using hco3
          have e4 : ¬ a.kind = 4 := by simpa using hco4
          refine ⟨rfl, ?_⟩
          rw [if_neg e1, if_neg e2, if_neg e3, if_neg e4]
          exact M.init
end Go.Proofs.Ytbbccdcjhoecpaa
