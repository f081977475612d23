/-
  Texts that belong together, laid into one file: U20, U21, U22, U27, U28, U23, O23, O24, O25, O26, U24, O27, U25, O28, O29, O30, U26, O31, O32, O33, V20, V21, V22, V23, V24, V25, V26, U29, O34, O35, O36, O37, O38, U30, O39, U31, O40, U32, O41, O42, U33.
-/
import Derived.Test.YtigfbpbnohkokaaGreatQ5
namespace Go.Proofs.YtigfbpbnohkokaaGreat
open Go Go.Fw Go.RowKit
set_option linter.unusedVariables false
set_option linter.unusedSimpArgs false

/-- What stays of files over a base: where they are, their base. -/
structure OvI where
 bf : Nat
 bv : Value
 Lb : List (Nat × Obj)
 base : BaseF
/-- Blocks of one's own beside files over a base that are l, with these handles. -/
def OvW (w00 : World) (X : List (Nat × Obj)) (I : OvI) (l : List Raw) (hf : HF) (w : World) : Prop :=
 ∃ S L, FR I.base S l hf ∧ BaseC w00 I.Lb I.bv I.base ∧ Sep w00 (X ++ (fsB I.bf I.bv (usedL l) S ++ (I.Lb ++ L))) w
section
variable {w00 w0 w w1 : World} {X Y : List (Nat × Obj)} {I : OvI} {l : List Raw} {hf : HF}
theorem OvW.frm (h : OvW w00 X I l hf w) : New w00 w := let ⟨_, _, _, _, M⟩ := h; M.frm
theorem OvW.at_ (h : OvW w00 X I l hf w) (k : Nat) {b : Nat} {o : Obj} (hk : X[k]? = some (b, o)) : w.heap[b]? = some o :=
 let ⟨_, _, _, _, M⟩ := h; M.get (List.mem_append_left _ (List.mem_of_getElem? hk))
theorem OvW.get (h : OvW w00 X I l hf w) {x : Nat × Obj} (hk : x ∈ X) : w.heap[x.1]? = some x.2 :=
 let ⟨_, _, _, _, M⟩ := h; M.get (List.mem_append_left _ hk)
theorem OvW.base (h : OvW w00 X I l hf w) {x : Nat × Obj} (hk : x ∈ I.Lb) : w.heap[x.1]? = some x.2 :=
 let ⟨_, _, _, _, M⟩ := h; M.get (List.mem_append_right _ (List.mem_append_right _ (List.mem_append_left _ hk)))
theorem OvW.acons (h : OvW w00 X I l hf w) {o : Obj} {b : Nat} (hb : b = w.heap.size) (hw : w1 = w.alloc o) : OvW w00 ((b, o) :: X) I l hf w1 :=
 let ⟨S, L, h1, h2, M⟩ := h; ⟨S, L, h1, h2, M.acons hb hw⟩
theorem OvW.put (h : OvW w00 X I l hf w) (k : Nat) {b : Nat} {o0 o : Obj} (hk : X[k]? = some (b, o0)) (hw : w1 = w.putObj b o) : OvW w00 (X.set k (b, o)) I l hf w1 := by
 obtain ⟨S, L, h1, h2, M⟩ := h
 have hl : k < X.length := (List.getElem?_eq_some_iff.1 hk).1
 have := M.put k (by rw [List.getElem?_append_left hl]; exact hk) hw (o := o)
 rw [List.set_append_left _ _ hl] at this
 exact ⟨S, L, h1, h2, this⟩
theorem OvW.new (h : OvW w00 X I l hf w) (hn : New w w1) : OvW w00 X I l hf w1 := let ⟨S, L, h1, h2, M⟩ := h; ⟨S, L, h1, h2, M.new hn⟩
theorem OvW.drew (h : OvW w00 X I l hf w) (hw : w1 = w.drew) : OvW w00 X I l hf w1 := let ⟨S, L, h1, h2, M⟩ := h; ⟨S, L, h1, h2, M.drew hw⟩
theorem OvW.grow (h : OvW w00 X I l hf w) (hc : Sep w Y w1) : OvW w00 (Y ++ X) I l hf w1 := by
 obtain ⟨S, L, h1, h2, M⟩ := h
 exact ⟨S, L, h1, h2, by simpa only [List.append_assoc] using M.grow' hc⟩
theorem OvW.sub (h : OvW w00 X I l hf w) (hs : Y.Sublist X) : OvW w00 Y I l hf w := let ⟨S, L, h1, h2, M⟩ := h; ⟨S, L, h1, h2, M.sub (List.Sublist.append hs (List.Sublist.refl _))⟩
theorem OvW.tail {x : Nat × Obj} (h : OvW w00 (x :: X) I l hf w) : OvW w00 X I l hf w := h.sub (List.sublist_cons_self _ _)
theorem OvW.dropL (h : OvW w00 (Y ++ X) I l hf w) : OvW w00 X I l hf w := h.sub (List.sublist_append_right _ _)
theorem OvW.perm (h : OvW w00 X I l hf w) (hs : X.Perm Y) : OvW w00 Y I l hf w := let ⟨S, L, h1, h2, M⟩ := h; ⟨S, L, h1, h2, M.perm (hs.append_right _)⟩
theorem OvW.sep (h : OvW w00 X I l hf w) : Sep w00 X w := let ⟨_, _, _, _, M⟩ := h; M.dropR
theorem OvW.names (h : OvW w00 X I l hf w) : (l.map (·.1)).Nodup := let ⟨_, _, h1, _, _⟩ := h; h1.names
theorem OvW.used (h : OvW w00 X I l hf w) : usedL l ≤ 262144 := let ⟨_, _, h1, _, _⟩ := h; h1.us
theorem OvW.le (h : OvW w00 X I l hf w) : l.length ≤ 128 := by
 obtain ⟨_, _, h1, _, _⟩ := h
 have := h1.tr.le
 rwa [bare_len] at this

theorem do_o {who : Int} {o : OpS} {dv : Value} (M : OvW w00 X I l hf w0) (hdv : ∀ w Y, Sep w00 Y w → (∀ y ∈ X, y ∈ Y) → BytesAt w dv o.d) :
  Ret Tryz.prog 16 #[ptr I.bf, .int .i64 who, .agg (opC o dv).toArray] w0 fun r w' => ∃ p1 c1 p2 c2 n2 L1 L2, r = rsV (doS l hf who o).1 (.slice p1 (doS l hf who o).1.d.length c1) (.slice p2 n2 c2) ∧ BytesO L1 (.slice p1 (doS l hf who o).1.d.length c1) (doS l hf who o).1.d ∧ StrsO L2 (.slice p2 n2 c2) (doS l hf who o).1.l ∧ OvW w00 (L1 ++ (L2 ++ X)) I (doS l hf who o).2.1 (doS l hf who o).2.2 w' := by
 obtain ⟨S, L, h1, h2, M⟩ := M
 refine (do_x (L := L) M h1 h2 (fun w Y hY hs _ => hdv w Y hY hs)).mono ?_
 rintro r w' ⟨S', p1, c1, p2, c2, n2, L1, L2, e, hb, hs, hR, M⟩
 exact ⟨p1, c1, p2, c2, n2, L1, L2, e, hb, hs, S', L, hR, h2, M.perm (perm_c fun p => by simp only [List.countP_append]; omega)⟩
theorem files_o (M : OvW w00 X I l hf w0) :
  Ret Tryz.prog 17 #[ptr I.bf] w0 fun r w' => ∃ p c Lr, r = .slice p l.length c ∧ FilesO Lr (.slice p l.length c) l ∧ OvW w00 (Lr ++ X) I l hf w' := by
 obtain ⟨S, L, h1, h2, M⟩ := M
 refine (files_x (L := L) M h1 h2).mono ?_
 rintro r w' ⟨p, c, Lr, e, hl, M⟩
 exact ⟨p, c, Lr, e, hl, S, L, h1, h2, M.perm (perm_c fun p => by simp only [List.countP_append]; omega)⟩
theorem used_o (M : OvW w00 X I l hf w0) : Ret Tryz.prog 18 #[ptr I.bf] w0 fun r w' => r = .int .i64 (usedL l : Int) ∧ w0 = w' := by
 obtain ⟨S, L, h1, h2, M⟩ := M
 exact used_c (M.get (List.mem_append_right _ List.mem_cons_self)) h1.hl
theorem hdls_o {who : Int} (M : OvW w00 X I l hf w0) : Ret Tryz.prog 22 #[ptr I.bf, .int .i64 who] w0 fun r w' => ∃ p c Lr, r = .slice p (openL hf who).length c ∧ IntsO Lr (.slice p (openL hf who).length c) (openL hf who) ∧ OvW w00 (Lr ++ X) I l hf w' := by
 have M0 := M
 obtain ⟨S, L, h1, h2, M⟩ := M
 refine (hdls_c (who := who) (M.get (List.mem_append_right _ List.mem_cons_self)) h1.hl).mono ?_
 rintro r w' ⟨Lr, hi, M1⟩
 rw [← h1.hh] at hi
 obtain ⟨p, c, rfl⟩ := hi.shape
 exact ⟨p, c, Lr, rfl, hi, M0.grow M1⟩
theorem ffile_o {who n : Int} (M : OvW w00 X I l hf w0) : Ret Tryz.prog 21 #[ptr I.bf, .int .i64 who, .int .i64 n] w0 fun r w' => r = strV (fileH hf who n) ∧ w0 = w' := by
 obtain ⟨S, L, h1, h2, M⟩ := M
 have := ffile_c (who := who) (n := n) (M.get (List.mem_append_right _ List.mem_cons_self)) h1.hl
 rwa [← h1.hh] at this
def shB (bs : Nat) (v : Value) (b : Bool) : Nat × Obj := (bs, .cells [v, .bool b].toArray 79 (0, 0))
theorem made_o {v : Value} {Lf : List (Nat × Obj)} (M : Sep w00 (Lf ++ X) w0) (h : FilesK w00 Lf v l) (hl : l.length ≤ 1000) :
  Ret Tryz.prog 15 #[v] w0 fun r w' => ∃ po bs, r = .tuple #[.pointer po, ptr bs, .int .i64 (madeE l)] ∧ (madeE l ≠ 0 → po = none ∧ Sep w00 X w') ∧
   (madeE l = 0 → ∃ I : OvI, po = some ⟨I.bf, 0, none⟩ ∧ I.base = baseL l ∧ shB bs v false ∈ I.Lb ∧ OvW w00 X I (newS l).1 (fun _ _ => none) w') := by
 refine (made19_c M h hl).mono ?_
 rintro r w' ⟨po, bs, e, h1, h2⟩
 refine ⟨po, bs, e, fun h => ⟨(h1 h).1, (h1 h).2.tail.dropL⟩, fun h => ?_⟩
 obtain ⟨bf, bv, S, e2, hR, hB, M⟩ := h2 h
 exact ⟨⟨bf, bv, _, baseL l⟩, e2, rfl, List.mem_cons_self, S, [], hR, hB, (show Sep w00 (X ++ (fsB bf bv (usedL (newS l).1) S ++ ((shB bs v false :: Lf) ++ []))) w' from M.perm (perm_c fun p => by simp only [shB, List.countP_append, List.countP_cons, List.countP_nil]; omega))⟩
end
/-- Calls, one behind the other. -/
def runS (l : List Raw) (hf : HF) : List Ask → List Raw × HF
 | [] => (l, hf)
 | a :: r => runS (doS l hf a.who a.o).2.1 (doS l hf a.who a.o).2.2 r
section
variable {l : List Raw} {hf : HF} {who : Int} {o : OpS}
end
end Go.Proofs.YtigfbpbnohkokaaGreat

namespace Go.Proofs.YtigfbpbnohkokaaGreat
open Go Go.Fw Go.RowKit
set_option linter.unusedVariables false
set_option linter.unusedSimpArgs false

section
variable {l : List Raw} {hf hf' : HF} {who : Int} {o : OpS}
theorem low_spec {i : Nat} (h : lowH hf who = some i) : i < 16 ∧ hf who ((i : Int) + 1) = none ∧ ∀ k < i, (hf who ((k : Int) + 1)).isSome = true := by
 unfold lowH at h
 rw [List.find?_eq_some_iff_getElem] at h
 obtain ⟨h1, k, hk, e, h2⟩ := h
 simp only [List.getElem_range] at e
 subst e
 refine ⟨by simpa using hk, by simpa using h1, fun j hj => ?_⟩
 have := h2 j hj
 simp only [List.getElem_range, Bool.not_eq_true', Option.isNone_eq_false_iff] at this
 simpa using this
end
theorem intsO_at {w : World} {L : List (Nat × Obj)} {v : Value} {A : List Nat} (h : IntsO L v A) (hg : ∀ x ∈ L, w.heap[x.1]? = some x.2) : Sl w v 1 A.length (intCs A) := (OwL.sl h (by decide)).get hg
theorem intCs_get {l : List Nat} {j x : Nat} (h : l[j]? = some x) : (intCs l)[j]? = some (.int .i64 (x : Int)) := by simp [intCs, h]
end Go.Proofs.YtigfbpbnohkokaaGreat

namespace Go.Proofs.YtigfbpbnohkokaaGreat
open Go Go.Fw Go.RowKit
set_option linter.unusedVariables false
set_option linter.unusedSimpArgs false

section
variable {w00 w : World} {X : List (Nat × Obj)} {I : OvI} {l : List Raw} {hf : HF} {p q d b : List UInt8}
theorem OvW.file (M : OvW w00 X I l hf w) (h : (p, false, d) ∈ l) : fileB l p = d := let ⟨_, _, h1, _, _⟩ := M; h1.bytes h
theorem OvW.len (M : OvW w00 X I l hf w) (h : (p, false, d) ∈ l) : d.length ≤ 65536 ∧ d.length ≤ usedL l := let ⟨_, _, h1, _, _⟩ := M; h1.le h
theorem OvW.found (M : OvW w00 X I l hf w) {z : Raw} (h : z ∈ l) : findL l z.1 = (z, 0) := let ⟨_, _, h1, _, _⟩ := M; h1.found h
theorem usedL_set (hn : (l.map (·.1)).Nodup) (h : (p, false, d) ∈ l) : usedL (setD l p b) + d.length = usedL l + b.length := by
 obtain ⟨A, B, h1, h2⟩ := setD_split (b := b) hn h
 rw [h2, h1, usedL_app, usedL_cons, usedL_app, usedL_cons]; simp only; omega

end
section
variable {w00 w0 : World} {X : List (Nat × Obj)} {I : OvI} {l l' : List Raw} {hf hf' : HF}
end
end Go.Proofs.YtigfbpbnohkokaaGreat

namespace Go.Proofs.YtigfbpbnohkokaaGreat
open Go Go.Fw Go.RowKit
set_option linter.unusedVariables false
set_option linter.unusedSimpArgs false

section
variable {g : Gf} {l : List Raw} {p x y b d : List UInt8} {N a c : NP}
theorem come_some (hG : GI g) : ∀ {r q : NP} {v : Bool × List UInt8}, g (q ++ r) = some v → comeG g q r = 0
 | [], q, v, h => rfl
 | n :: r, q, v, h => by
  obtain ⟨b, _, hb, _⟩ := hG.pre h (by simp)
  have h2 : g ((q ++ [n]) ++ r) = some v := by simpa using h
  have h3 : (g (q ++ [n])).isNone = false := by
   by_cases hr : r = []
   ·subst hr; rw [List.append_nil] at h2; rw [h2]; rfl
   ·obtain ⟨b2, _, hb2, _⟩ := hG.pre h2 hr
    rw [hb2]; rfl
  unfold comeG
  rw [hb]
  simp only
  rw [if_neg (by rw [h3]; simp)]
  exact come_some hG h2
theorem home_dir (hG : GI g) {root : Int} (hr : root ≠ 0) (h : homeG g p root = 0) : ∃ b, g (splitN p).dropLast = some (true, b) := by
 obtain ⟨h1, h2, h3⟩ := home_ok hr h
 unfold homeG at h
 rw [if_pos h1, if_neg h2] at h
 split at h
 ·rename_i h4
  split at h
  ·rename_i h5
   cases hv : g (splitN p).dropLast with
   | none => rw [hv] at h5; cases h5
   | some v =>
    obtain ⟨vd, vb⟩ := v
    rw [hv] at h5
    simp only [Option.getD_some] at h5
    exact ⟨vb, by rw [h5]⟩
  ·cases h
 ·rename_i h4; exact absurd h h4
theorem home_of (hG : GI g) {root : Int} {v : Bool × List UInt8} (hp : splitE p = 0) (h0 : splitN p ≠ []) (hv : g (splitN p) = some v) : homeG g p root = 0 := by
 have e : (splitN p).dropLast ++ [(splitN p).getLast h0] = splitN p := List.dropLast_concat_getLast h0
 rw [← e] at hv
 obtain ⟨b, hb⟩ := hG.par _ _ _ hv
 unfold homeG
 rw [if_pos hp, if_neg h0, if_pos (come_some hG (q := []) (r := (splitN p).dropLast) hb), hb]
 rfl
theorem GI.put (hG : GI g) (hN : POK N) (h0 : N ≠ []) (hd : ∃ b, g N.dropLast = some (true, b)) (hv : ∀ v, g N = some v → v.1 = false) {v : Bool × List UInt8} (hl : v.2.length ≤ 65536) (hb : v.1 = true → v.2 = [] ∧ g N = none) : GI (setG g N (some v)) := by
 have hother : ∀ q, q ≠ N → setG g N (some v) q = g q := fun q hq => by unfold setG; rw [if_neg hq]
 have hself : setG g N (some v) N = some v := by unfold setG; rw [if_pos rfl]
 refine ⟨by rw [hother [] (fun e => h0 e.symm)]; exact hG.root, fun q n u hu => ?_, fun q u hu => ?_⟩
 ·by_cases e : q ++ [n] = N
  ·obtain ⟨b, hb⟩ := hd
   have e2 : N.dropLast = q := by rw [← e]; simp
   rw [e2] at hb
   have hq : q ≠ N := fun e3 => by have := congrArg List.length (e3.trans e.symm); simp at this
   exact ⟨b, by rw [hother q hq]; exact hb⟩
  ·rw [hother _ e] at hu
   obtain ⟨b, hb2⟩ := hG.par q n u hu
   by_cases e2 : q = N
   ·rw [e2] at hb2
    have := hv _ hb2
    cases this
   ·exact ⟨b, by rw [hother q e2]; exact hb2⟩
 ·by_cases e : q = N
  ·subst e
   rw [hself] at hu
   cases hu
   exact ⟨hN, hl, fun h => (hb h).1⟩
  ·rw [hother q e] at hu
   exact hG.ok q u hu
theorem GI.gone (hG : GI g) (h0 : N ≠ []) (he : emptyG g N) : GI (setG g N none) := by
 have hother : ∀ q, q ≠ N → setG g N none q = g q := fun q hq => by unfold setG; rw [if_neg hq]
 have hin : ∀ q u, setG g N none q = some u → q ≠ N ∧ g q = some u := fun q u hu => by
  by_cases e : q = N
  ·subst e; unfold setG at hu; rw [if_pos rfl] at hu; cases hu
  ·exact ⟨e, by rw [← hother q e]; exact hu⟩
 refine ⟨by rw [hother [] (fun e => h0 e.symm)]; exact hG.root, fun q n u hu => ?_, fun q u hu => hG.ok q u (hin q u hu).2⟩
 obtain ⟨b, hb⟩ := hG.par q n u (hin _ _ hu).2
 have hq : q ≠ N := fun e => by subst e; have := (hin _ _ hu).2; rw [he n] at this; cases this
 exact ⟨b, by rw [hother q hq]; exact hb⟩
theorem GI.moved (hG : GI g) (ha0 : a ≠ []) (hc0 : c ≠ []) (hd : ∃ b, g c.dropLast = some (true, b)) (hnu : ¬ a.isPrefixOf c = true) (hfit : fitsG g a c) : GI (moveG g a c) := by
 have hno : ∀ q, ¬ c.isPrefixOf q = true → ¬ a.isPrefixOf q = true → moveG g a c q = g q := fun q h1 h2 => by unfold moveG; rw [if_neg h1, if_neg h2]
 have hin : ∀ r, moveG g a c (c ++ r) = g (a ++ r) := fun r => by unfold moveG; rw [if_pos (ipf_app c r), List.drop_left]
 have hout : ∀ q u, moveG g a c q = some u → (∃ r, q = c ++ r ∧ g (a ++ r) = some u) ∨ (¬ c.isPrefixOf q = true ∧ ¬ a.isPrefixOf q = true ∧ g q = some u) := fun q u hu => by
  by_cases h1 : c.isPrefixOf q = true
  ·obtain ⟨r, rfl⟩ := ipf.1 h1
   exact .inl ⟨r, rfl, by rw [← hin]; exact hu⟩
  ·by_cases h2 : a.isPrefixOf q = true
   ·unfold moveG at hu; rw [if_neg h1, if_pos h2] at hu; cases hu
   ·exact .inr ⟨h1, h2, by rw [← hno q h1 h2]; exact hu⟩
 refine ⟨?_, fun q n u hu => ?_, fun q u hu => ?_⟩
 ·rw [hno [] (fun e => by obtain ⟨t, ht⟩ := ipf.1 e; exact hc0 (by cases c with | nil => rfl | cons _ _ => cases ht)) (fun e => by obtain ⟨t, ht⟩ := ipf.1 e; exact ha0 (by cases a with | nil => rfl | cons _ _ => cases ht))]
  exact hG.root
 ·rcases hout _ _ hu with ⟨r, h1, h2⟩ | ⟨h1, h2, h3⟩
  ·rcases List.eq_nil_or_concat r with rfl | ⟨r', m, rfl⟩
   ·rw [List.append_nil] at h1
    obtain ⟨b, hb⟩ := hd
    have e2 : c.dropLast = q := by rw [← h1]; simp
    rw [e2] at hb
    refine ⟨b, ?_⟩
    rw [hno q (fun e => ?_) (fun e => ?_)]
    ·exact hb
    ·obtain ⟨t, ht⟩ := ipf.1 e
     have := congrArg List.length h1
     rw [ht] at this
     simp at this
    ·obtain ⟨t, ht⟩ := ipf.1 e
     exact hnu (ipf.2 ⟨t ++ [n], by rw [← h1, ht]; simp⟩)
   ·rw [List.concat_eq_append, ← List.append_assoc] at h1 h2
    have e1 := List.append_inj' h1 rfl
    obtain ⟨b, hb⟩ := hG.par _ _ _ h2
    rw [e1.1]
    exact ⟨b, by rw [hin]; exact hb⟩
  ·obtain ⟨b, hb⟩ := hG.par q n u h3
   refine ⟨b, ?_⟩
   rw [hno q (fun e => h1 ?_) (fun e => h2 ?_)]
   ·exact hb
   ·obtain ⟨t, ht⟩ := ipf.1 e; exact ipf.2 ⟨t ++ [n], by rw [ht]; simp⟩
   ·obtain ⟨t, ht⟩ := ipf.1 e; exact ipf.2 ⟨t ++ [n], by rw [ht]; simp⟩
 ·rcases hout _ _ hu with ⟨r, rfl, h2⟩ | ⟨h1, h2, h3⟩
  ·exact ⟨hfit r (by rw [h2]; simp), (hG.ok _ _ h2).2⟩
  ·exact hG.ok q u h3
end
/-- Rows that are a tree of files. -/
def TreeL (l : List Raw) : Prop := ∃ g, GI g ∧ Rel g l
section
variable {l : List Raw} {p x y b d : List UInt8} {z : Raw}
theorem TreeL.names (h : TreeL l) : (l.map (·.1)).Nodup := let ⟨_, _, h2⟩ := h; srt_names h2.srt
theorem TreeL.row (h : TreeL l) (hz : z ∈ l) : splitE z.1 = 0 ∧ z.1 ≠ [] ∧ z.1.length ≤ 120 ∧ z.2.2.length ≤ 65536 ∧ (z.2.1 = true → z.2.2 = []) := by
 obtain ⟨g, hG, hR⟩ := h
 obtain ⟨h1, h2, h3, h4⟩ := hR.name (fun q v hv => (hG.ok q v hv).1) hz
 obtain ⟨g1, g2, g3⟩ := hG.ok _ _ h3
 exact ⟨h1, h4, by have := g1.2.2; rwa [joinS_splitN h1] at this, g2, g3⟩
theorem TreeL.found (h : TreeL l) (hz : z ∈ l) : findL l z.1 = (z, 0) := by
 obtain ⟨g, hG, hR⟩ := h
 obtain ⟨h1, h2, h3, h4⟩ := hR.name (fun q v hv => (hG.ok q v hv).1) hz
 have hf : findG g z.1 = 0 := by rw [findG_ok h1]; exact come_some hG (q := []) h3
 rw [hR.findL hG]
 unfold findV
 rw [if_pos hf, hf, h3]
 rfl
theorem TreeL.find (h : TreeL l) (h0 : (findL l p).2 = 0) (hp : p ≠ []) : (findL l p).1 ∈ l ∧ (findL l p).1.1 = p := by
 obtain ⟨z, hz, rfl⟩ := findL_mem h0 hp
 rw [h.found hz]
 exact ⟨hz, rfl⟩
theorem TreeL.absent (h : TreeL l) (h9 : (findL l p).2 = 9) : ∀ y ∈ l, y.1 ≠ p := fun y hy e => by
 rw [← e, h.found hy] at h9; cases h9
theorem TreeL.mkdir (h : TreeL l) (p : List UInt8) : TreeL (mkdirL l p).1 := by
 obtain ⟨g, hG, hR⟩ := h
 refine ⟨_, ?_, (hR.mkdir hG p).2⟩
 unfold mkdirG
 split
 ·rename_i h1
  split
  ·exact hG
  ·rename_i h2
   split
   ·exact hG
   ·obtain ⟨g1, g2, g3⟩ := home_ok (by decide) h1
    have hn : g (splitN p) = none := by simpa using h2
    exact hG.put (POK_split g1) g2 (home_dir hG (by decide) h1) (fun v hv => by rw [hn] at hv; cases hv) (by simp) (fun _ => ⟨rfl, hn⟩)
 ·exact hG
theorem TreeL.put (h : TreeL l) (p b : List UInt8) : TreeL (putL l p b).1 := by
 obtain ⟨g, hG, hR⟩ := h
 refine ⟨_, ?_, (hR.put hG p b).2⟩
 unfold putG
 split
 ·rename_i h1
  split
  ·exact hG
  ·rename_i h2
   split
   ·exact hG
   ·rename_i h3
    split
    ·exact hG
    ·obtain ⟨g1, g2, g3⟩ := home_ok (by decide) h1
     refine hG.put (POK_split g1) g2 (home_dir hG (by decide) h1) (fun v hv => ?_) (by simp only; omega) (fun h => by cases h)
     rw [hv] at h2
     simpa using h2
 ·exact hG
theorem TreeL.remove (h : TreeL l) (p : List UInt8) : TreeL (removeL l p).1 := by
 obtain ⟨g, hG, hR⟩ := h
 refine ⟨_, ?_, (hR.remove hG p).2⟩
 unfold removeG
 split
 ·rename_i h1
  split
  ·exact hG
  ·rename_i h2
   have hp : splitE p = 0 := Classical.byContradiction fun hp => by rw [findG_bad hp] at h1; exact hp h1
   exact hG.gone (fun e => h2 (.inl ((sN_nil hp).1 e))) (Classical.byContradiction fun he => h2 (.inr he))
 ·exact hG
theorem TreeL.rename (h : TreeL l) (x y : List UInt8) : TreeL (renameL l x y).1 := by
 obtain ⟨g, hG, hR⟩ := h
 refine ⟨_, ?_, (hR.rename hG x y).2⟩
 unfold renameG
 split
 ·rename_i h1
  split
  ·exact hG
  ·rename_i h2
   split
   ·rename_i h3
    split
    ·exact hG
    ·split
     ·exact hG
     ·rename_i h5
      split
      ·exact hG
      ·split
       ·exact hG
       ·rename_i h7
        have hx : splitE x = 0 := Classical.byContradiction fun hp => by rw [findG_bad hp] at h1; exact hp h1
        obtain ⟨g1, g2, g3⟩ := home_ok (by decide) h3
        exact hG.moved (fun e => h2 ((sN_nil hx).1 e)) g2 (home_dir hG (by decide) h3) (not_under hx g1 (by simpa using h5)) (Classical.not_not.1 h7)
   ·exact hG
 ·exact hG
theorem setD_srt (h : l.Pairwise ltR) : (setD l p b).Pairwise ltR := by
 unfold setD
 rw [List.pairwise_map]
 refine h.imp fun {u v} huv => ?_
 unfold ltR at huv ⊢
 have e : ∀ w : Raw, (if w.1 = p then (w.1, w.2.1, b) else w).1 = w.1 := fun w => by split <;> rfl
 rw [e u, e v]; exact huv
/-- A file is put anew. -/
theorem TreeL.putD (h : TreeL l) (hp : (p, false, d) ∈ l) (hb : b.length ≤ 65536) : putL l p b = (setD l p b, 0) := by
 have hn := h.names
 obtain ⟨h1, h2, _⟩ := h.row hp
 have hh : homeL l p 16 = 0 := by
  obtain ⟨g, hG, hR⟩ := h
  obtain ⟨g1, g2, g3, g4⟩ := hR.name (fun q v hv => (hG.ok q v hv).1) hp
  rw [hR.home hG]
  exact home_of hG g1 g2 g3
 have hf : l.find? (fun x => decide (x.1 = p)) = some (p, false, d) := find_nd hn hp
 have h3 : (putL l p b).1 = withR (l.eraseIdx (atR l p).toNat) (p, false, b) ∧ (putL l p b).2 = 0 := by
  unfold putL
  rw [if_pos hh, hf]
  simp only
  rw [if_neg (by simp), if_neg (by omega)]
  exact ⟨rfl, rfl⟩
 have h4 : withR (l.eraseIdx (atR l p).toNat) (p, false, b) = setD l p b := by
  obtain ⟨j, hj, hat⟩ := row_of hp hn
  simp only at hat
  rw [hat, Int.toNat_natCast]
  obtain ⟨g, hG, hR⟩ := h
  have hs := hR.srt
  refine srt_ext (withR_srt (hs.sublist (List.eraseIdx_sublist l j)) (fun y hy => ?_)) (setD_srt hs) (fun z => ?_)
  ·exact ((mem_erase hn hj).1 hy).2
  ·rw [withR_mem, mem_setD, mem_erase hn hj]
   constructor
   ·rintro (rfl | ⟨g1, g2⟩)
    ·exact .inr ⟨rfl, rfl, _, hp, rfl, rfl⟩
    ·exact .inl ⟨g1, g2⟩
   ·rintro (⟨g1, g2⟩ | ⟨g1, g2, y, g3, g4, g5⟩)
    ·exact .inr ⟨g1, g2⟩
    ·left
     have := names_inj hn g3 hp g4
     subst this
     obtain ⟨z1, z2, z3⟩ := z
     simp only at g1 g2 g5
     rw [g1, g2, ← g5]
 exact Prod.ext (h3.1.trans h4) h3.2
end
end Go.Proofs.YtigfbpbnohkokaaGreat

namespace Go.Proofs.YtigfbpbnohkokaaGreat
open Go Go.Fw Go.RowKit
set_option linter.unusedVariables false
set_option linter.unusedSimpArgs false

/-- An open handle: whose, its number, its file's path; to write, too? -/
abbrev Opn := Int × Int × List UInt8 × Bool
def oR (x : Opn) : List Value := [.int .i64 x.1, .int .i64 x.2.1, strV x.2.2.1, .bool x.2.2.2]
def oCs (hl : List Opn) : List Value := hl.flatMap oR
def isO (who n : Int) (x : Opn) : Bool := decide (x.1 = who ∧ x.2.1 = n)
def hfL (hl : List Opn) : HF := fun a n => (hl.find? (isO a n)).map fun x => (x.2.2.1, x.2.2.2)
def atO (hl : List Opn) (who n : Int) : Int := idxI hl (isO who n)
abbrev OpnAt (w : World) (v : Value) (hl : List Opn) : Prop := Sg w v 4 hl.length (oCs hl)
theorem oCs_len (hl : List Opn) : (oCs hl).length = hl.length * 4 := flat_len (e1 := oR) (fun _ _ => rfl)
theorem oCs_one (hl : List Opn) : ∀ u ∈ oCs hl, u.oneCell' = true := by
 intro u hu
 obtain ⟨x, _, hu⟩ := List.mem_flatMap.1 hu
 unfold oR at hu
 simp only [List.mem_cons, List.not_mem_nil, or_false] at hu
 rcases hu with rfl | rfl | rfl | rfl <;> rfl
theorem oCs_app (a b : List Opn) : oCs (a ++ b) = oCs a ++ oCs b := List.flatMap_append
section
variable {w w1 : World} {v : Value} {hl : List Opn} {p : Option Addr} {b off len cap j : Nat} {x : Opn} {who n : Int}
theorem OpnAt.blk (h : OpnAt w (.slice p len cap) hl) (hj : j < hl.length) : ∃ b off, p = some ⟨b, off, none⟩ ∧ len = hl.length := Sg.blk (j := j) h hj
theorem OpnAt.row (h : OpnAt w (.slice (some ⟨b, off, none⟩) len cap) hl) (hx : hl[j]? = some x) : RowAt w b (off + j * 4) (oR x) := by
 have hj : j < hl.length := (List.getElem?_eq_some_iff.1 hx).1
 obtain ⟨b', off', h6, h7⟩ := OpnAt.blk h hj
 cases h6; subst h7
 exact (Sg.sl h (by omega)).row (j := j) (l := oR x) rfl (flat_drop (m := 4) (e1 := oR) (by decide) (fun _ _ => rfl) hx) (by simp [oR])
theorem atO_at (hx : hl[j]? = some x) (hno : ∀ y ∈ hl.take j, isO who n y = false) (h : isO who n x = true) : atO hl who n = (j : Int) := idxI_at hx hno h
theorem atO_no (hno : ∀ y ∈ hl, isO who n y = false) : atO hl who n = -1 := idxI_no hno
theorem atO_cases (hl : List Opn) (who n : Int) : (∃ j x, hl[j]? = some x ∧ isO who n x = true ∧ atO hl who n = (j : Nat) ∧ (∀ y ∈ hl.take j, isO who n y = false) ∧ hfL hl who n = some (x.2.2.1, x.2.2.2)) ∨ ((∀ y ∈ hl, isO who n y = false) ∧ atO hl who n = -1 ∧ hfL hl who n = none) := by
 unfold atO idxI hfL
 cases h : hl.findIdx? (isO who n) with
 | none =>
  right
  have h2 := List.findIdx?_eq_none_iff.1 h
  refine ⟨fun y hy => by simpa using h2 y hy, rfl, ?_⟩
  rw [List.find?_eq_none.2 (fun y hy => by rw [h2 y hy]; simp)]; rfl
 | some j =>
  left
  obtain ⟨h1, h2, h3⟩ := List.findIdx?_eq_some_iff_getElem.1 h
  have hno : ∀ y ∈ hl.take j, isO who n y = false := fun y hy => by
   obtain ⟨i, hi, rfl⟩ := List.mem_take_iff_getElem.1 hy
   have := h3 i (by omega)
   simpa using this
  refine ⟨j, hl[j], List.getElem?_eq_getElem h1, h2, rfl, hno, ?_⟩
  have : hl.find? (isO who n) = some hl[j] := by
   rw [List.find?_eq_some_iff_getElem]
   exact ⟨h2, j, h1, rfl, fun i hi => by rw [hno _ (List.mem_take_iff_getElem.2 ⟨i, by omega, rfl⟩)]; rfl⟩
  rw [this]; rfl
theorem atO_some : (0 ≤ atO hl who n) ↔ (hfL hl who n).isSome = true := by
 rcases atO_cases hl who n with ⟨j, x, _, _, h1, _, h2⟩ | ⟨_, h1, h2⟩
 ·rw [h1, h2]; simp
 ·rw [h1, h2]; simp
end
theorem used_takeL (l : List Raw) (j : Nat) : usedL (l.take j) ≤ usedL l := by
 conv => rhs; rw [← List.take_append_drop j l]
 rw [usedL_app]; omega
theorem used_snoc {l : List Raw} {j : Nat} {x : Raw} (hx : l[j]? = some x) : usedL (l.take (j + 1)) = usedL (l.take j) + x.2.2.length := by
 rw [take_snoc hx, usedL_app, usedL_cons]; simp [usedL]
end Go.Proofs.YtigfbpbnohkokaaGreat

namespace Go.Proofs.YtigfbpbnohkokaaGreat
open Go Go.Fw Go.RowKit
set_option linter.unusedVariables false
set_option linter.unusedSimpArgs false

section
variable {b d : List UInt8} {o : OpS} {a : Nat}

theorem over_zero (s : List UInt8) : overB s (d.take 0) a = s := by unfold overB; simp
theorem over_step {s : List UInt8} {q : Nat} {c : UInt8} (hq : d[q]? = some c) (h : a + d.length ≤ s.length) : overB s (d.take (q + 1)) a = (overB s (d.take q) a).set (a + q) c := by
 have hl : q < d.length := (List.getElem?_eq_some_iff.1 hq).1
 unfold overB
 rw [take_snoc hq]
 have e1 : (d.take q).length = q := by rw [List.length_take]; omega
 have e2 : (s.take a).length = a := by rw [List.length_take]; omega
 rw [List.length_append, e1]
 rw [List.set_append_right _ _ (by rw [List.length_append, e1, e2]; exact Nat.le_refl _), List.length_append, e1, e2, Nat.sub_self]
 have e3 : s.drop (a + q) = s[a + q]'(by omega) :: s.drop (a + q + 1) := List.drop_eq_getElem_cons (by omega)
 rw [e3]
 simp [List.append_assoc, Nat.add_assoc]
end
theorem bytes_sub2 {w : World} {v : Value} {b : List UInt8} {j k : Nat} (h : Sg w v 1 k (((byteCs b).drop (j * 1)).take (k * 1))) : BytesAt w v ((b.drop j).take k) := by
 have hl := h.len
 have e : ((byteCs b).drop (j * 1)).take (k * 1) = byteCs ((b.drop j).take k) := by rw [Nat.mul_one, Nat.mul_one]; unfold byteCs; rw [List.map_take, List.map_drop]
 rw [e] at h hl
 rw [byteCs_len] at hl
 unfold BytesAt
 rw [hl, Nat.mul_one]
 exact h
/-- A byte of bytes of one's own is another one. -/
theorem bytes_set {L : List (Nat × Obj)} {v : Value} {n : Nat} {s : List UInt8} {j : Nat} {c : UInt8} (h : OwL L v 1 n (byteCs s)) (hj : j < s.length) : ∃ blk cap rest T, v = .slice (some ⟨blk, 0, none⟩) n cap ∧ L = [(blk, .cells (byteCs s ++ rest).toArray T (0, 0))] ∧
  OwL [(blk, .cells ((byteCs s ++ rest).take (0 + j * 1) ++ [byteV c] ++ (byteCs s ++ rest).drop (0 + j * 1 + 1)).toArray T (0, 0))] v 1 n (byteCs (s.set j c)) := by
 rcases h with ⟨_, rfl, h2, _⟩ | ⟨blk, cap, rest, T, rfl, rfl, h3, h4⟩
 ·have := congrArg List.length h2
  rw [byteCs_len] at this
  simp only [List.length_nil] at this
  omega
 ·refine ⟨blk, cap, rest, T, rfl, rfl, .inr ⟨blk, cap, rest, T, rfl, ?_, by rw [byteCs_len, List.length_set, ← byteCs_len]; exact h3, by rw [List.length_append, byteCs_len, List.length_set, ← byteCs_len, ← List.length_append]; exact h4⟩⟩
  have hl : j < (byteCs s).length := by rw [byteCs_len]; exact hj
  rw [Nat.zero_add, Nat.mul_one, List.take_append_of_le_length (by omega), List.drop_append_of_le_length (by omega)]
  congr 4
  have e : byteCs (s.set j c) = (byteCs s).set j (byteV c) := by unfold byteCs; rw [List.map_set]
  rw [e, List.set_eq_take_append_cons_drop, if_pos hl]
  simp
end Go.Proofs.YtigfbpbnohkokaaGreat

namespace Go.Proofs.YtigfbpbnohkokaaGreat
open Go Go.Fw Go.RowKit Go.Proofs
set_option linter.unusedVariables false
set_option linter.unusedSimpArgs false
set_option maxRecDepth 100000
set_option maxHeartbeats 4000000

theorem RowAt.tl {w : World} {b off : Nat} {x : Value} {l : List Value} (h : RowAt w b off (x :: l)) : RowAt w b (off + 1) l := by
 obtain ⟨cs, T, fr, hb, he⟩ := h
 refine ⟨cs, T, fr, hb, ?_⟩
 have := congrArg List.tail he
 rw [← List.drop_drop]
 cases hd : cs.toList.drop off with
 | nil => rw [hd] at he; simp at he
 | cons y r => rw [hd] at he; simp only [List.length_cons, List.take_succ_cons, List.cons.injEq] at he; simpa using he.2



end Go.Proofs.YtigfbpbnohkokaaGreat

namespace Go.Proofs.YtigfbpbnohkokaaGreat
open Go Go.Fw Go.RowKit Go.Proofs
set_option linter.unusedVariables false
set_option linter.unusedSimpArgs false
set_option maxRecDepth 100000
set_option maxHeartbeats 4000000


end Go.Proofs.YtigfbpbnohkokaaGreat

namespace Go.Proofs.YtigfbpbnohkokaaGreat
open Go Go.Fw Go.RowKit Go.Proofs
set_option linter.unusedVariables false
set_option linter.unusedSimpArgs false
set_option maxRecDepth 100000
set_option maxHeartbeats 4000000


end Go.Proofs.YtigfbpbnohkokaaGreat

namespace Go.Proofs.YtigfbpbnohkokaaGreat
open Go Go.Fw Go.RowKit Go.Proofs
set_option linter.unusedVariables false
set_option linter.unusedSimpArgs false
set_option maxRecDepth 100000
set_option maxHeartbeats 4000000
theorem Sg_of_sl {w : World} {v : Value} {m n : Nat} {cs : List Value} (h : Sl w v m n cs) : Sg w v m n cs := .inr h

end Go.Proofs.YtigfbpbnohkokaaGreat

namespace Go.Proofs.YtigfbpbnohkokaaGreat
open Go Go.Fw Go.RowKit
set_option linter.unusedVariables false
set_option linter.unusedSimpArgs false

section
variable {h : Nat → Nat} {n i : Nat}
def eQ (sum : Nat) (s : Int) : Int := if s < 0 then 2 else if 65536 < s then 3 else if 262144 < (sum : Int) + s then 7 else 0
def hQ (sum : Nat) (s : Int) : Nat := if eQ sum s = 0 then s.toNat else 0
end
/-- The sizes, in memory. -/
def hC (h : Nat → Nat) : List Value := (List.range 12).map fun k => .int .i64 ((h k : Nat) : Int)
/-- Whole numbers that are given. -/
def zCs (l : List Int) : List Value := l.map fun z => .int .i64 z
abbrev ZsAt (w : World) (v : Value) (l : List Int) : Prop := Sg w v 1 l.length (zCs l)
theorem ZsAt.cell {w : World} {b off n cap j : Nat} {l : List Int} {z : Int} (h : ZsAt w (.slice (some ⟨b, off, none⟩) n cap) l) (hz : l[j]? = some z) : w.cell? ⟨b, off + j * 1, none⟩ = some (.int .i64 z) := by
 have hj : j < l.length := (List.getElem?_eq_some_iff.1 hz).1
 have h1 := Sg.sl h (by omega)
 obtain ⟨b', off', h6, h7⟩ := Sl.blk h1 hj
 cases h6; subst h7
 exact Sl.cell1 h1 (by unfold zCs; rw [List.getElem?_map, hz]; rfl)
end Go.Proofs.YtigfbpbnohkokaaGreat

namespace Go.Proofs.YtigfbpbnohkokaaGreat
open Go Go.Fw Go.RowKit Go.Proofs
set_option linter.unusedVariables false
set_option linter.unusedSimpArgs false
set_option maxRecDepth 100000
set_option maxHeartbeats 4000000


end Go.Proofs.YtigfbpbnohkokaaGreat

namespace Go.Proofs.YtigfbpbnohkokaaGreat
open Go Go.Fw Go.RowKit
set_option linter.unusedVariables false
set_option linter.unusedSimpArgs false

theorem rs_no {a b : RsS} (h : a.e ≠ b.e ∨ a.h ≠ b.h ∨ a.n ≠ b.n ∨ a.d ≠ b.d) : decide (a = b) = false := by
 apply decide_eq_false
 rintro rfl
 rcases h with h | h | h | h <;> exact h rfl
theorem rs_yes {a b : RsS} (h1 : a.e = b.e) (h2 : a.h = b.h) (h3 : a.n = b.n) (h4 : a.d = b.d) : decide (a = b) = decide (a.l = b.l) := by
 obtain ⟨e, h, n, d, l⟩ := a
 obtain ⟨e', h', n', d', l'⟩ := b
 simp only at h1 h2 h3 h4
 subst h1 h2 h3 h4
 simp

section
variable {j off : Nat} {h : Hd}
end
end Go.Proofs.YtigfbpbnohkokaaGreat

namespace Go.Proofs.YtigfbpbnohkokaaGreat
open Go Go.Fw Go.RowKit Go.Proofs
set_option linter.unusedVariables false
set_option linter.unusedSimpArgs false
set_option maxRecDepth 100000
set_option maxHeartbeats 4000000

-- valise/valiseref19.Same
theorem rsame_c {w0 : World} {dv lv dv2 lv2 : Value} {a b : RsS} (hd : BytesAt w0 dv a.d) (hs : StrsAt w0 lv a.l) (hd2 : BytesAt w0 dv2 b.d) (hs2 : StrsAt w0 lv2 b.l) (hla : a.l.length ≤ 1099511627776) : Ret Tryz.prog 26 #[rsV a dv lv, rsV b dv2 lv2] w0 fun r w' => r = .bool (decide (a = b)) ∧ New w0 w' := by
 have M : Sep w0 [] w0 := St.nil w0
 obtain ⟨p1, c1, rfl⟩ := hd.shape
 obtain ⟨p2, c2, rfl⟩ := Sg.shape hs
 obtain ⟨p3, c3, rfl⟩ := hd2.shape
 obtain ⟨p4, c4, rfl⟩ := Sg.shape hs2
 refine Ret.of_W Tryz.func26 rfl Tryz.ntmps26 rfl ?_
 refine go 1 ?_
 intro _ _ M
 refine go 1 ?_
 intro _ _ M
 refine go 0 ?_
 refine W.reg [(0, false), (1, false), (2, false), (3, false), (4, false), (5, false), (6, false), (7, false), (8, false), (9, false), (10, false), (11, false), (12, false), (13, false), (14, false), (15, false), (16, false), (17, false), (18, false), (19, false), (20, false), (21, false), (22, false), (23, false), (24, false), (25, false), (26, false), (27, false), (28, false), (29, false), (30, false), (31, false), (32, false), (33, true), (34, false), (35, false)] (by kernel_rfl) ?_
 intro K hK
 refine spl 3 10 ?_ ?_
 ·intro hsp1
  refine spl 3 17 ?_ ?_
  ·intro hsp2
   refine spl 3 24 ?_ ?_
   ·intro hsp3
    refine go 1 ?_
    refine x_cvbs _ rfl rfl rfl Tryz.underlying27 Tryz.underlying5 Tryz.underlying9 rfl (strOf_bytes (hd.new M.frm)) ?_
    refine go 1 ?_
    refine x_cvbs _ rfl rfl rfl Tryz.underlying27 Tryz.underlying5 Tryz.underlying9 rfl (strOf_bytes (hd2.new M.frm)) ?_
    refine spl 1 33 ?_ ?_
    ·intro hsp4
     refine go 2 ?_
     refine x_call rfl rfl rfl rfl rfl en54 (same_c (hs.new M.frm) (hs2.new M.frm) hla) ?_
     rintro r_ w1 ⟨rfl, hn1⟩
     have M := M.new hn1
     refine ⟨trivial, ?_⟩
     refine go 1 ?_
     exact ⟨by rw [rs_yes hsp1 hsp2 hsp3 hsp4], M.frm⟩
    ·intro hsp4
     refine go 1 ?_
     exact ⟨by rw [rs_no (.inr (.inr (.inr hsp4)))], M.frm⟩
   ·intro hsp3
    refine go 1 ?_
    exact ⟨by rw [rs_no (.inr (.inr (.inl hsp3)))], M.frm⟩
  ·intro hsp2
   refine go 1 ?_
   exact ⟨by rw [rs_no (.inr (.inl hsp2))], M.frm⟩
 ·intro hsp1
  refine go 1 ?_
  exact ⟨by rw [rs_no (.inl hsp1)], M.frm⟩

end Go.Proofs.YtigfbpbnohkokaaGreat

namespace Go.Proofs.YtigfbpbnohkokaaGreat
open Go Go.Fw Go.RowKit Go.Proofs
set_option linter.unusedVariables false
set_option linter.unusedSimpArgs false
set_option maxRecDepth 100000
set_option maxHeartbeats 4000000













end Go.Proofs.YtigfbpbnohkokaaGreat

namespace Go.Proofs.YtigfbpbnohkokaaGreat
open Go Go.Fw Go.RowKit Go.Proofs
set_option linter.unusedVariables false
set_option linter.unusedSimpArgs false
set_option maxRecDepth 100000
set_option maxHeartbeats 4000000


end Go.Proofs.YtigfbpbnohkokaaGreat

namespace Go.Proofs.YtigfbpbnohkokaaGreat
open Go Go.Fw Go.RowKit
set_option linter.unusedVariables false
set_option linter.unusedSimpArgs false

section
variable {ml : List Mt} {m : Mt} {j : Nat}
end
end Go.Proofs.YtigfbpbnohkokaaGreat

namespace Go.Proofs.YtigfbpbnohkokaaGreat
open Go Go.Fw Go.RowKit Go.Proofs
set_option linter.unusedVariables false
set_option linter.unusedSimpArgs false
set_option maxRecDepth 100000
set_option maxHeartbeats 4000000


end Go.Proofs.YtigfbpbnohkokaaGreat

namespace Go.Proofs.YtigfbpbnohkokaaGreat
open Go Go.Fw Go.RowKit Go.Proofs
set_option linter.unusedVariables false
set_option linter.unusedSimpArgs false
set_option maxRecDepth 100000
set_option maxHeartbeats 4000000

-- (valise/valiseref19.FS).at
theorem rat_c {w0 : World} {u hv : Value} {hl : List Opn} {who n : Int} (h : OpnAt w0 hv hl) (hlen : hl.length ≤ 100000) : Ret Tryz.prog 55 #[.agg #[u, hv], .int .i64 who, .int .i64 n] w0 fun r w' => r = .int .i64 (atO hl who n) ∧ New w0 w' := by
 have M : Sep w0 [] w0 := St.nil w0
 obtain ⟨ph, chh, rfl⟩ := Sg.shape h
 refine Ret.of_W Tryz.func55 rfl Tryz.ntmps55 rfl ?_
 refine go 1 ?_
 intro bbx1 _ M
 refine go 0 ?_
 refine W.loop (σ := Nat) (fun j => [(1, _), (2, _), (3, _), (7, .int .i64 ((j : Nat) : Int))]) (fun j w => j ≤ hl.length ∧ (∀ y ∈ hl.take j, isO who n y = false) ∧ Sep w0 [(bbx1, .cells [u, .slice ph hl.length chh].toArray 70 (0, 0))] w) (fun j => hl.length - j) 0 ⟨rfl, rfl, rfl, rfl, trivial⟩ ⟨Nat.zero_le _, by simp, M⟩ ?_
 rintro j w ⟨hj, hno, M⟩
 refine cnd 3 ?_ ?_
 ·intro hco1
  obtain ⟨x, hx⟩ := get_lt (l := hl) (q := j) (by omega)
  obtain ⟨bb, off, rfl, _⟩ := OpnAt.blk (h.new M.frm) (j := j) (by omega)
  have hrow := OpnAt.row (h.new M.frm) hx
  refine go 1 ?_
  refine x_ia j rfl rfl rfl Tryz.underlying68 sz123 rfl rfl rfl (by omega) ?_
  refine go 0 ?_
  refine x_ld rfl rfl rfl Tryz.underlying3 rfl rfl (RowAt.cell hrow (j := 0) rfl) ?_
  refine spl 1 23 ?_ ?_
  ·intro hsp1
   refine go 1 ?_
   refine x_ia j rfl rfl rfl Tryz.underlying68 sz123 rfl rfl rfl (by omega) ?_
   refine go 0 ?_
   refine x_ld rfl rfl rfl Tryz.underlying3 rfl rfl (RowAt.cell hrow (j := 1) rfl) ?_
   refine cnd 1 ?_ ?_
   ·intro hco2
    refine go 1 ?_
    exact ⟨by rw [atO_at hx hno (by unfold isO; exact decide_eq_true ⟨hsp1, hco2⟩)], M.frm⟩
   ·intro hco2
    refine go 0 ?_
    refine x_add _ rfl rfl rfl rfl rfl (wadd (by omega) (by omega)) ?_
    refine go 0 ?_
    exact At.back (j + 1) ⟨rfl, rfl, rfl, rfl, trivial⟩ ⟨by omega, mem_take_snoc hx hno (by unfold isO; exact decide_eq_false (fun e => hco2 e.2)), M⟩ (by first | omega | (simp only; omega) | (simp; done) | (simp; omega))
  ·intro hsp1
   refine go 0 ?_
   refine x_add _ rfl rfl rfl rfl rfl (wadd (by omega) (by omega)) ?_
   refine go 0 ?_
   exact At.back (j + 1) ⟨rfl, rfl, rfl, rfl, trivial⟩ ⟨by omega, mem_take_snoc hx hno (by unfold isO; exact decide_eq_false (fun e => hsp1 e.1)), M⟩ (by first | omega | (simp only; omega) | (simp; done) | (simp; omega))
 ·intro hco1
  refine go 1 ?_
  have hj2 : j = hl.length := by omega
  subst hj2
  rw [List.take_length] at hno
  exact ⟨by rw [atO_no hno], M.frm⟩

-- (valise/valiseref19.FS).Used
theorem rused_c {w0 : World} {u hv : Value} {l : List Raw} (h : FilesAt w0 u l) (hlen : l.length ≤ 100000) (hul : usedL l ≤ 1099511627776) : Ret Tryz.prog 27 #[.agg #[u, hv]] w0 fun r w' => r = .int .i64 (usedL l : Int) ∧ New w0 w' := by
 have M : Sep w0 [] w0 := St.nil w0
 obtain ⟨ph, chh, rfl⟩ := h.shape
 refine Ret.of_W Tryz.func27 rfl Tryz.ntmps27 rfl ?_
 refine go 1 ?_
 intro bbx1 _ M
 refine go 0 ?_
 refine W.loop (σ := Nat) (fun j => [(1, _), (3, .int .i64 ((usedL (l.take j) : Nat) : Int)), (4, .int .i64 ((j : Nat) : Int))]) (fun j w => j ≤ l.length ∧ Sep w0 [(bbx1, .cells [.slice ph l.length chh, hv].toArray 70 (0, 0))] w) (fun j => l.length - j) 0 ⟨rfl, rfl, rfl, trivial⟩ ⟨Nat.zero_le _, M⟩ ?_
 rintro j w ⟨hj, M⟩
 have hut := used_takeL l j
 refine cnd 3 ?_ ?_
 ·intro hco1
  obtain ⟨x, hx⟩ := get_lt (l := l) (q := j) (by omega)
  obtain ⟨bb, off, rfl, _⟩ := (h.new M.frm).blk (j := j) (by omega)
  obtain ⟨px, cx, hrow, _⟩ := (h.new M.frm).row hx
  have hut2 := used_takeL l (j + 1)
  have hus := used_snoc hx
  refine go 1 ?_
  refine x_ia j rfl rfl rfl Tryz.underlying24 sz29 rfl rfl rfl (by omega) ?_
  refine go 0 ?_
  refine x_ld rfl rfl rfl Tryz.underlying27 rfl rfl (RowAt.cell hrow (j := 2) rfl) ?_
  refine go 1 ?_
  refine x_add ((usedL (l.take (j + 1)) : Nat) : Int) rfl rfl rfl rfl rfl (by rw [wadd (by omega) (by omega), hus]; omega) ?_
  refine go 0 ?_
  refine x_add _ rfl rfl rfl rfl rfl (wadd (by omega) (by omega)) ?_
  refine go 0 ?_
  exact At.back (j + 1) ⟨rfl, rfl, rfl, trivial⟩ ⟨by omega, M⟩ (by first | omega | (simp only; omega) | (simp; done) | (simp; omega))
 ·intro hco1
  refine go 1 ?_
  have hj2 : j = l.length := by omega
  subst hj2
  rw [List.take_length]
  exact ⟨rfl, M.frm⟩

-- (valise/valiseref19.FS).Handles
theorem rhdls_c {w0 : World} {u hv : Value} {hl : List Opn} {who : Int} (h : OpnAt w0 hv hl) (hlen : hl.length ≤ 100000) : Ret Tryz.prog 29 #[.agg #[u, hv], .int .i64 who] w0 fun r w' => ∃ Lr, IntsO Lr r (openL (hfL hl) who) ∧ Sep w0 Lr w' := by
 have M : Sep w0 [] w0 := St.nil w0
 obtain ⟨ph, chh, rfl⟩ := Sg.shape h
 refine Ret.of_W Tryz.func29 rfl Tryz.ntmps29 rfl ?_
 refine go 1 ?_
 intro bbx1 _ M
 refine go 0 ?_
 refine W.loop (σ := Nat × Value × List (Nat × Obj)) (fun q => [(1, _), (2, _), (5, q.2.1), (6, .int .i64 (((q.1 + 1 : Nat)) : Int))]) (fun q w => q.1 ≤ 16 ∧ IntsO q.2.2 q.2.1 (openN (hfL hl) who q.1) ∧ Sep w0 (q.2.2 ++ [(bbx1, .cells [u, .slice ph hl.length chh].toArray 70 (0, 0))]) w) (fun q => 16 - q.1) (0, .slice none 0 0, []) ⟨rfl, rfl, rfl, rfl, trivial⟩ ⟨by omega, OwL.nil, M⟩ ?_
 rintro ⟨i, v, Lo⟩ w ⟨hi16, ho, M⟩
 simp only at hi16 ho M
 have hlen2 := openN_len (hfL hl) who i
 obtain ⟨pv, cv, rfl⟩ := ho.shape
 refine cnd 1 ?_ ?_
 ·intro hco1
  refine go 0 ?_
  refine x_ldA [_, _] rfl rfl rfl Tryz.underlying70 rfl sz70 rfl rfl ⟨_, _, _, M.get (b := bbx1) (o := (bbx1, .cells [u, .slice ph hl.length chh].toArray 70 (0, 0)).2) (by simp), rfl⟩ ?_
  refine go 0 ?_
  refine x_call rfl rfl rfl rfl rfl en55 (rat_c (h.new M.frm) hlen) ?_
  rintro r_ wcall1 ⟨rfl, hncall1⟩
  have M := M.new hncall1
  have hat := atO_some (hl := hl) (who := who) (n := ((i + 1 : Nat) : Int))
  refine ⟨trivial, ?_⟩
  refine cnd 1 ?_ ?_
  ·intro hco2
   have hsome : (hfL hl who ((i : Int) + 1)).isSome = true := by have := hat.1 (by omega); simpa using this
   refine go 0 ?_
   refine x_bs1 (cs := [_]) rfl rfl rfl Tryz.underlying61 sz3 ze3 (Z := [_]) rfl rfl (by decide) (by decide) rfl rfl rfl ?_
   intro bbs1 wbs1 hbbs1 hwbs1
   have M0 := M.acons hbbs1 hwbs1
   have hslbs1 : Sl wbs1 (.slice (some ⟨bbs1, 0, none⟩) 1 1) 1 1 [.int .i64 ((i + 1 : Nat) : Int)] := .inr ⟨bbs1, 0, 1, _, _, _, rfl, by omega, M0.at_ 0 rfl, rfl, rfl⟩
   have M := M0.tail
   refine ⟨trivial, ?_⟩
   refine x_apL rfl rfl rfl rfl Tryz.underlying61 sz3 ze3 rfl by3 rfl rfl ho M (intCs_one _) (hslbs1.src Tryz.underlying61 (by simp [Value.oneCell'])) (by omega) (by decide) (by omega) ?_
   intro Lo2 v6 w6 how M
   refine ⟨trivial, ?_⟩
   refine go 0 ?_
   refine x_add ((i + 1 + 1 : Nat) : Int) rfl rfl rfl rfl rfl (by simp only; rw [wadd (by omega) (by omega)]; omega) ?_
   refine go 0 ?_
   exact At.back ((i + 1, v6, Lo2)) ⟨rfl, rfl, rfl, rfl, trivial⟩ ⟨by simp only; omega, by simp only; rw [openN_yes hsome]; exact intsO_snoc how, M⟩ (by first | omega | (simp only; omega) | (simp; done) | (simp; omega))
  ·intro hco2
   have hsome : (hfL hl who ((i : Int) + 1)).isSome = false := by
    cases hq : (hfL hl who ((i : Int) + 1)).isSome with
    | false => rfl
    | true => have := hat.2 (by simpa using hq); omega
   refine go 0 ?_
   refine x_add ((i + 1 + 1 : Nat) : Int) rfl rfl rfl rfl rfl (by simp only; rw [wadd (by omega) (by omega)]; omega) ?_
   refine go 0 ?_
   exact At.back ((i + 1, _, Lo)) ⟨rfl, rfl, rfl, rfl, trivial⟩ ⟨by simp only; omega, by simp only; rw [openN_no hsome]; exact ho, M⟩ (by first | omega | (simp only; omega) | (simp; done) | (simp; omega))
 ·intro hco1
  refine go 1 ?_
  have hi2 : i = 16 := by omega
  subst hi2
  exact ⟨Lo, ho, M.dropR⟩

-- (valise/valiseref19.FS).File
theorem rffile_c {w0 : World} {u hv : Value} {hl : List Opn} {who n : Int} (h : OpnAt w0 hv hl) (hlen : hl.length ≤ 100000) : Ret Tryz.prog 30 #[.agg #[u, hv], .int .i64 who, .int .i64 n] w0 fun r w' => r = strV (fileH (hfL hl) who n) ∧ New w0 w' := by
 have M : Sep w0 [] w0 := St.nil w0
 obtain ⟨ph, chh, rfl⟩ := Sg.shape h
 refine Ret.of_W Tryz.func30 rfl Tryz.ntmps30 rfl ?_
 refine go 1 ?_
 intro _ _ M
 refine go 1 ?_
 refine x_call rfl rfl rfl rfl rfl en55 (rat_c (h.new M.frm) hlen) ?_
 rintro r_ wcall1 ⟨rfl, hncall1⟩
 have M := M.new hncall1
 have hat := atO_cases hl who n
 refine ⟨trivial, ?_⟩
 refine cnd 1 ?_ ?_
 ·intro hco1
  rcases hat with ⟨j, x, _, _, h1, _⟩ | ⟨_, _, h2⟩
  ·omega
  refine go 1 ?_
  exact ⟨by unfold fileH; rw [h2]; rfl, M.frm⟩
 ·intro hco1
  rcases hat with ⟨j, x, hx, _, h1, _, h2⟩ | ⟨_, h1, _⟩
  rotate_left
  ·omega
  rw [h1]
  have hj := (List.getElem?_eq_some_iff.1 hx).1
  obtain ⟨bb, off, rfl, _⟩ := OpnAt.blk (h.new M.frm) (j := j) (by omega)
  have hrow := OpnAt.row (h.new M.frm) hx
  refine go 1 ?_
  refine x_ia j rfl rfl rfl Tryz.underlying68 sz123 rfl rfl rfl (by omega) ?_
  refine go 0 ?_
  refine x_ld rfl rfl rfl Tryz.underlying9 rfl rfl (RowAt.cell hrow (j := 2) rfl) ?_
  refine go 1 ?_
  exact ⟨by unfold fileH; rw [h2], M.frm⟩

-- valise/valiseref19.bad
theorem rbad_c {w0 : World} {e : Int}  : Ret Tryz.prog 50 #[.int .i64 e] w0 fun r w' => r = rsV (badS e) (.slice none 0 0) (.slice none 0 0) ∧ New w0 w' := by
 have M : Sep w0 [] w0 := St.nil w0
 refine Ret.of_W Tryz.func50 rfl Tryz.ntmps50 rfl ?_
 refine go 1 ?_
 intro _ _ M
 refine go 2 ?_
 intro _ M
 refine go 1 ?_
 exact ⟨rfl, M.frm⟩

end Go.Proofs.YtigfbpbnohkokaaGreat

namespace Go.Proofs.YtigfbpbnohkokaaGreat
open Go Go.Fw Go.RowKit Go.Proofs
set_option linter.unusedVariables false
set_option linter.unusedSimpArgs false
set_option maxRecDepth 100000
set_option maxHeartbeats 4000000

-- (valise/valiseref16.Tree).Find
theorem rfindK_c {w00 w0 : World} {L X : List (Nat × Obj)} {u : Value} {l : List Raw} {p : List UInt8} (M0 : Sep w00 (L ++ X) w0) (hF : FilesK w00 L u l) (hl : l.length ≤ 1000) : Ret Tryz.prog 85 #[.agg #[u], strV p] w0 fun r w' => ∃ dv, r = .tuple #[.agg #[strV (findL l p).1.1, .bool (findL l p).1.2.1, dv], .int .i64 (findL l p).2] ∧ SgK w00 L dv 1 (findL l p).1.2.2.length (byteCs (findL l p).1.2.2) ∧ New w0 w' := by
 have M : Sep w0 [] w0 := St.nil w0
 have h := hF.at_ M0 (fun y hy => by simp [hy])
 obtain ⟨pv, cv, rfl⟩ := h.shape
 refine Ret.of_W Tryz.func85 rfl Tryz.ntmps85 rfl ?_
 refine go 1 ?_
 intro bbx1 _ M
 refine go 1 ?_
 intro bal1 _ M
 refine go 0 ?_
 refine x_call rfl rfl rfl rfl rfl en31 (rsplit_c) ?_
 rintro r_ w1 ⟨v1, L1, rfl, M1, hs1⟩
 have M := M.grow M1
 obtain ⟨p1, c1, rfl, hcap1⟩ := hs1.shape2 (by decide)
 have hsl := splitN_len p
 refine ⟨trivial, ?_⟩
 refine cnd 1 ?_ ?_
 ·intro hco1
  refine go 2 ?_
  intro _ M
  refine go 1 ?_
  have hF : findL l p = (fileZ, 8) := by unfold findL; rw [if_neg hco1]
  rw [hF]; exact ⟨_, rfl, SgK.own (L' := []) OwL.nil (by decide) (by simp), M.frm⟩
 ·intro hco1
  have hF : findL l p = findF l [] (splitN p) ([], true, []) := by unfold findL; rw [if_pos hco1]
  have hPK := POK_split hco1
  refine go 2 ?_
  intro bal2 _ M
  refine go 1 ?_
  intro _ M
  refine go 0 ?_
  refine W.loop (σ := Nat × Raw × Value) (fun q => [(2, _), (4, _), (6, _), (8, _), (9, .int .i64 ((q.1 : Nat) : Int))]) (fun q w => q.1 ≤ (splitN p).length ∧ findL l p = findF l ((splitN p).take q.1) ((splitN p).drop q.1) q.2.1 ∧ SgK w00 L q.2.2 1 q.2.1.2.2.length (byteCs q.2.1.2.2) ∧ Sep w0 ([(bal2, .cells [strV q.2.1.1, .bool q.2.1.2.1, q.2.2].toArray 29 (0, 0)), (bal1, .cells [.string ByteArray.empty, .bool false, .slice none 0 0].toArray 29 (0, 0)), (bbx1, .cells [.slice pv l.length cv].toArray 31 (0, 0))] ++ L1) w) (fun q => (splitN p).length - q.1) (0, ([], true, []), .slice none 0 0) ⟨rfl, rfl, rfl, rfl, rfl, trivial⟩ ⟨Nat.zero_le _, hF, SgK.own (L' := []) OwL.nil (by decide) (by simp), M⟩ ?_
  rintro ⟨j, f, dv⟩ w ⟨hj, hfj, hb, M⟩
  simp only at hj hfj hb M
  obtain ⟨pd, cd, rfl⟩ := (hb _ _ M0 (fun y hy => by simp [hy])).shape
  refine cnd 2 ?_ ?_
  ·intro hco2
   obtain ⟨n, hn⟩ := get_lt (l := splitN p) (q := j) (by omega)
   rw [findF_at hn] at hfj
   refine cnd 2 ?_ ?_
   ·intro hco3
    refine go 2 ?_
    intro _ M
    refine go 1 ?_
    rw [if_neg (by simp [hco3])] at hfj
    rw [hfj]; exact ⟨_, rfl, SgK.own (L' := []) OwL.nil (by decide) (by simp), M.frm⟩
   ·intro hco3
    rw [if_pos hco3] at hfj
    have hac := atR_cases l (joinS ((splitN p).take (j + 1)))
    refine go 0 ?_
    refine W.regD (by kernel_rfl) #[0, 0, 0, 4, 14, 30, 63, 127] [(0, false), (1, false), (2, false), (3, false), (4, false), (5, true), (6, true), (7, false)] (by kernel_rfl) ?_
    intro K wD1 hK hwD1
    have M := M.drew hwD1
    refine go 1 ?_
    refine x_add _ rfl rfl rfl rfl rfl (wadd (by omega) (by omega)) ?_
    refine x_slh (j + 1) rfl rfl rfl Tryz.underlying47 sz9 rfl rfl (by omega) (by omega) ?_
    refine x_call rfl rfl rfl rfl rfl en35 (rtext_c (strsO_at (strsO_take hs1 (j := j + 1) (by omega)) M (fun y hy => by simp [hy])) (by simp; omega) (fun y hy => by have := allOK_len hPK.2.1 y (List.mem_of_mem_take hy); omega)) ?_
    rintro r_ w2 ⟨rfl, hn2⟩
    have M := M.new hn2
    refine pnd ?_
    refine x_call rfl rfl rfl rfl rfl en32 (at_c (h.new M.frm) (by omega)) ?_
    rintro r wcall3 ⟨rfl, hncall3⟩
    have M := M.new hncall3
    refine pnd ?_
    refine cnd 1 ?_ ?_
    ·intro hco4
     refine go 2 ?_
     intro _ M
     refine go 1 ?_
     have hno : ∀ y ∈ l, y.1 ≠ joinS ((splitN p).take (j + 1)) := by
      rcases hac with ⟨i, x, _, _, h3, _⟩ | ⟨h1, _⟩
      ·omega
      ·exact h1
     rw [at_find0 hno] at hfj
     rw [hfj]; exact ⟨_, rfl, SgK.own (L' := []) OwL.nil (by decide) (by simp), M.frm⟩
    ·intro hco4
     obtain ⟨i, x, hx, hxp, hat, hno⟩ := hac.resolve_right (fun h => by have := h.2; omega)
     rw [at_find hx hxp hno] at hfj
     obtain ⟨b2, o2, rfl, _⟩ := h.blk (j := i) (by have := (List.getElem?_eq_some_iff.1 hx).1; omega)
     obtain ⟨px, cx, hbx, hrow0⟩ := hF.get hx M0 (fun y hy => by simp [hy])
     have hrow := RowAt.new hrow0 M.frm
     have hil := (List.getElem?_eq_some_iff.1 hx).1
     refine go 1 ?_
     refine x_ia i rfl rfl rfl Tryz.underlying24 sz29 rfl rfl hat (by omega) ?_
     refine x_ldA [_, _, _] rfl rfl rfl Tryz.underlying29 rfl sz29 rfl rfl hrow ?_
     refine go 1 ?_
     intro _ M
     refine go 0 ?_
     refine x_add _ rfl rfl rfl rfl rfl (wadd (by omega) (by omega)) ?_
     refine go 0 ?_
     exact At.back ((j + 1, x, .slice px x.2.2.length cx)) ⟨rfl, rfl, rfl, rfl, rfl, trivial⟩ ⟨by omega, hfj, hbx, M⟩ (by first | omega | (simp only; omega) | (simp; done) | (simp; omega))
  ·intro hco2
   refine go 2 ?_
   intro _ M
   refine go 1 ?_
   obtain rfl : j = (splitN p).length := by omega
   rw [List.drop_length] at hfj
   have hfj : findL l p = (f, 0) := hfj
   rw [hfj]; exact ⟨_, rfl, hb, M.frm⟩

-- (valise/valiseref19.FS).data
theorem rdata_c {w00 w0 : World} {L X : List (Nat × Obj)} {u hv : Value} {l : List Raw} {p : List UInt8} (M0 : Sep w00 (L ++ X) w0) (hF : FilesK w00 L u l) (hl : l.length ≤ 1000) : Ret Tryz.prog 118 #[.agg #[u, hv], strV p] w0 fun r w' => SgK w00 L r 1 (findL l p).1.2.2.length (byteCs (findL l p).1.2.2) ∧ New w0 w' := by
 have M : Sep w0 [] w0 := St.nil w0
 refine Ret.of_W Tryz.func118 rfl Tryz.ntmps118 rfl ?_
 refine go 1 ?_
 intro bbx1 _ M
 refine go 1 ?_
 refine x_call rfl rfl rfl rfl rfl en85 (rfindK_c (w00 := w00) (L := L) (X := X ++ [(bbx1, .cells [u, hv].toArray 70 (0, 0))]) (by have h1 := (St.grow (M0) M); rw [List.append_assoc] at h1; exact h1) hF hl) ?_
 rintro r_ w1 ⟨dv, rfl, hb1, hn1⟩
 obtain ⟨pd, cd, rfl⟩ := (hb1 _ _ M0 (fun y hy => by simp [hy])).shape
 have M := M.new hn1
 refine ⟨trivial, ?_⟩
 refine go 1 ?_
 intro _ _ M
 refine go 1 ?_
 intro _ M
 refine go 2 ?_
 exact ⟨hb1, M.frm⟩

end Go.Proofs.YtigfbpbnohkokaaGreat

namespace Go.Proofs.YtigfbpbnohkokaaGreat
open Go Go.Fw Go.RowKit Go.Proofs
set_option linter.unusedVariables false
set_option linter.unusedSimpArgs false
set_option maxRecDepth 100000
set_option maxHeartbeats 4000000

-- (valise/valiseref16.Tree).Without
theorem without_c {w00 w0 : World} {L X : List (Nat × Obj)} {v : Value} {l : List Raw} {j : Nat} (M : Sep w00 (L ++ X) w0) (h : FilesK w00 L v l) (hl : l.length ≤ 1000) (hj : j < l.length) : Ret Tryz.prog 117 #[.agg #[v], .int .i64 ((j : Nat) : Int)] w0 fun r w' => ∃ u L', r = .agg #[u] ∧ FilesK w00 (L ++ L') u (l.eraseIdx j) ∧ Sep w00 ((L ++ L') ++ X) w' := by
 have hFK := h
 obtain ⟨fs, hfm, hfs, hfd⟩ := h
 have hfl : fs.length = l.length := by rw [← hfm]; simp
 rw [hfl] at hfs
 obtain ⟨pv, cv, rfl⟩ := (hfs _ _ M (fun y hy => by simp [hy])).shape
 have hcap := Sg.capLe (hfs _ _ M (fun y hy => by simp [hy]))
 have hone : ∀ f ∈ fs, f.2.oneCell' = true := fun f hf => (hfd f hf).2
 refine Ret.of_W Tryz.func117 rfl Tryz.ntmps117 rfl ?_
 refine go 1 ?_
 intro _ _ M
 refine go 1 ?_
 intro _ _ M
 refine go 0 ?_
 refine W.regD (by kernel_rfl) #[0, 0, 2, 0, 14, 31, 0, 64, 0, 256, 960, 2047, 4095, 8191] [(1, false), (2, false), (3, false), (4, false), (6, false), (7, false), (8, false), (9, false), (10, false), (0, true), (5, true), (11, true), (12, false), (13, true)] (by kernel_rfl) ?_
 intro K wD1 hK hwD1
 have M := M.drew hwD1
 refine go 1 ?_
 refine x_slh j rfl rfl rfl Tryz.underlying24 sz29 rfl rfl rfl (by omega) ?_
 refine go 1 ?_
 refine x_add _ rfl rfl rfl rfl rfl (wadd (by omega) (by omega)) ?_
 refine x_sll (j + 1) rfl rfl rfl Tryz.underlying24 sz29 rfl rfl (by omega) (by omega) ?_
 refine x_bs0 rfl rfl rfl Tryz.underlying24 sz29 ?_
 intro bb wb hbb hwb
 have M := M.acons hbb hwb
 refine pnd ?_
 refine x_apL (L := [_]) (cs := []) (nn := 0) rfl rfl rfl rfl Tryz.underlying24 sz29 ze29 rfl by29 rfl rfl (.inr ⟨bb, 0, [], _, rfl, rfl, rfl, rfl⟩) M (by simp) ((Sg.take (hfs _ _ M (fun y hy => by simp [hy])) (j := j) (by omega)).src Tryz.underlying24 (fun u hu => fCs_one hone u (List.mem_of_mem_take hu))) (by omega) (by decide) (by omega) ?_
 intro Lo v6 wv6 how M
 rw [Nat.zero_add, List.nil_append] at how
 have M := M.perm List.perm_append_comm
 rw [fCs_take (by omega)] at how
 have ho1 : ∀ f ∈ fs.take j, f.2.oneCell' = true := fun f hf => hone f (List.mem_of_mem_take hf)
 obtain ⟨p6, c6, rfl⟩ := how.shape
 refine pnd ?_
 refine x_apL rfl rfl rfl rfl Tryz.underlying24 sz29 ze29 rfl by29 rfl rfl how (M.perm List.perm_append_comm) (fCs_one ho1) ((Sg.drop (hfs _ _ M (fun y hy => by simp [hy])) (j := j + 1) (by omega)).src Tryz.underlying24 (fun u hu => fCs_one hone u (List.mem_of_mem_drop hu))) (by omega) (by decide) (by omega) ?_
 intro Lo v7 wv7 how M
 have M := M.perm List.perm_append_comm
 obtain ⟨p7, c7, rfl⟩ := how.shape
 refine pnd ?_
 refine go 1 ?_
 refine x_st [_] _ rfl rfl rfl sz31 rfl rfl rfl rfl (by first | exact M.at_ 0 rfl | exact M.at_ 1 rfl | exact M.at_ 2 rfl | exact M.at_ 3 rfl | exact M.at_ 4 rfl | exact M.at_ 5 rfl | exact M.at_ 6 rfl | exact M.at_ 7 rfl) rfl rfl rfl ?_
 intro wst1 hwst1
 have M := by first | exact M.put 0 rfl hwst1 | exact M.put 1 rfl hwst1 | exact M.put 2 rfl hwst1 | exact M.put 3 rfl hwst1 | exact M.put 4 rfl hwst1 | exact M.put 5 rfl hwst1 | exact M.put 6 rfl hwst1 | exact M.put 7 rfl hwst1
 refine pnd ?_
 refine go 1 ?_
 refine ⟨_, Lo, rfl, ?_, ?_⟩
 ·rw [List.eraseIdx_eq_take_drop_succ]
  refine ⟨fs.take j ++ fs.drop (j + 1), by rw [List.map_append, List.map_take, List.map_drop, hfm], ?_, ?_⟩
  ·have e1 : (fs.take j ++ fs.drop (j + 1)).length = j + (l.length - (j + 1)) := by simp; omega
   have e2 : fCs (fs.take j ++ fs.drop (j + 1)) = fCs (fs.take j) ++ (fCs fs).drop ((j + 1) * 3) := by rw [fCs_drop (by omega), fCs_app]
   rw [e1, e2]
   exact SgK.own how (by decide) (fun y hy => List.mem_append_right _ hy)
  ·intro f hf
   rcases List.mem_append.1 hf with hf | hf
   ·exact ⟨(hfd f (List.mem_of_mem_take hf)).1.mono (fun y hy => List.mem_append_left _ hy), hone f (List.mem_of_mem_take hf)⟩
   ·exact ⟨(hfd f (List.mem_of_mem_drop hf)).1.mono (fun y hy => List.mem_append_left _ hy), hone f (List.mem_of_mem_drop hf)⟩
 ·have M2 : Sep w00 ((L ++ X) ++ Lo) _ := St.tail (St.tail M)
  exact M2.perm (by rw [List.append_assoc, List.append_assoc]; exact List.Perm.append_left _ List.perm_append_comm)

-- (valise/valiseref16.Tree).Find
theorem rfind_c {w0 : World} {v : Value} {l : List Raw} {p : List UInt8} (h : FilesAt w0 v l) (hl : l.length ≤ 1000) : Ret Tryz.prog 85 #[.agg #[v], strV p] w0 fun r w' => ∃ dv, r = .tuple #[.agg #[strV (findL l p).1.1, .bool (findL l p).1.2.1, dv], .int .i64 (findL l p).2] ∧ BytesAt w0 dv (findL l p).1.2.2 ∧ New w0 w' := by
 have M : Sep w0 [] w0 := St.nil w0
 obtain ⟨pv, cv, rfl⟩ := h.shape
 refine Ret.of_W Tryz.func85 rfl Tryz.ntmps85 rfl ?_
 refine go 1 ?_
 intro bbx1 _ M
 refine go 1 ?_
 intro bal1 _ M
 refine go 0 ?_
 refine x_call rfl rfl rfl rfl rfl en31 (rsplit_c) ?_
 rintro r_ w1 ⟨v1, L1, rfl, M1, hs1⟩
 have M := M.grow M1
 obtain ⟨p1, c1, rfl, hcap1⟩ := hs1.shape2 (by decide)
 have hsl := splitN_len p
 refine ⟨trivial, ?_⟩
 refine cnd 1 ?_ ?_
 ·intro hco1
  refine go 2 ?_
  intro _ M
  refine go 1 ?_
  have hF : findL l p = (fileZ, 8) := by unfold findL; rw [if_neg hco1]
  rw [hF]; exact ⟨_, rfl, .inr (.inl ⟨rfl, rfl, rfl⟩), M.frm⟩
 ·intro hco1
  have hF : findL l p = findF l [] (splitN p) ([], true, []) := by unfold findL; rw [if_pos hco1]
  have hPK := POK_split hco1
  refine go 2 ?_
  intro bal2 _ M
  refine go 1 ?_
  intro _ M
  refine go 0 ?_
  refine W.loop (σ := Nat × Raw × Value) (fun q => [(2, _), (4, _), (6, _), (8, _), (9, .int .i64 ((q.1 : Nat) : Int))]) (fun q w => q.1 ≤ (splitN p).length ∧ findL l p = findF l ((splitN p).take q.1) ((splitN p).drop q.1) q.2.1 ∧ BytesAt w0 q.2.2 q.2.1.2.2 ∧ Sep w0 ([(bal2, .cells [strV q.2.1.1, .bool q.2.1.2.1, q.2.2].toArray 29 (0, 0)), (bal1, .cells [.string ByteArray.empty, .bool false, .slice none 0 0].toArray 29 (0, 0)), (bbx1, .cells [.slice pv l.length cv].toArray 31 (0, 0))] ++ L1) w) (fun q => (splitN p).length - q.1) (0, ([], true, []), .slice none 0 0) ⟨rfl, rfl, rfl, rfl, rfl, trivial⟩ ⟨Nat.zero_le _, hF, .inr (.inl ⟨rfl, rfl, rfl⟩), M⟩ ?_
  rintro ⟨j, f, dv⟩ w ⟨hj, hfj, hb, M⟩
  simp only at hj hfj hb M
  obtain ⟨pd, cd, rfl⟩ := hb.shape
  refine cnd 2 ?_ ?_
  ·intro hco2
   obtain ⟨n, hn⟩ := get_lt (l := splitN p) (q := j) (by omega)
   rw [findF_at hn] at hfj
   refine cnd 2 ?_ ?_
   ·intro hco3
    refine go 2 ?_
    intro _ M
    refine go 1 ?_
    rw [if_neg (by simp [hco3])] at hfj
    rw [hfj]; exact ⟨_, rfl, .inr (.inl ⟨rfl, rfl, rfl⟩), M.frm⟩
   ·intro hco3
    rw [if_pos hco3] at hfj
    have hac := atR_cases l (joinS ((splitN p).take (j + 1)))
    refine go 0 ?_
    refine W.regD (by kernel_rfl) #[0, 0, 0, 4, 14, 30, 63, 127] [(0, false), (1, false), (2, false), (3, false), (4, false), (5, true), (6, true), (7, false)] (by kernel_rfl) ?_
    intro K wD1 hK hwD1
    have M := M.drew hwD1
    refine go 1 ?_
    refine x_add _ rfl rfl rfl rfl rfl (wadd (by omega) (by omega)) ?_
    refine x_slh (j + 1) rfl rfl rfl Tryz.underlying47 sz9 rfl rfl (by omega) (by omega) ?_
    refine x_call rfl rfl rfl rfl rfl en35 (rtext_c (strsO_at (strsO_take hs1 (j := j + 1) (by omega)) M (fun y hy => by simp [hy])) (by simp; omega) (fun y hy => by have := allOK_len hPK.2.1 y (List.mem_of_mem_take hy); omega)) ?_
    rintro r_ w2 ⟨rfl, hn2⟩
    have M := M.new hn2
    refine pnd ?_
    refine x_call rfl rfl rfl rfl rfl en32 (at_c (h.new M.frm) (by omega)) ?_
    rintro r wcall3 ⟨rfl, hncall3⟩
    have M := M.new hncall3
    refine pnd ?_
    refine cnd 1 ?_ ?_
    ·intro hco4
     refine go 2 ?_
     intro _ M
     refine go 1 ?_
     have hno : ∀ y ∈ l, y.1 ≠ joinS ((splitN p).take (j + 1)) := by
      rcases hac with ⟨i, x, _, _, h3, _⟩ | ⟨h1, _⟩
      ·omega
      ·exact h1
     rw [at_find0 hno] at hfj
     rw [hfj]; exact ⟨_, rfl, .inr (.inl ⟨rfl, rfl, rfl⟩), M.frm⟩
    ·intro hco4
     obtain ⟨i, x, hx, hxp, hat, hno⟩ := hac.resolve_right (fun h => by have := h.2; omega)
     rw [at_find hx hxp hno] at hfj
     obtain ⟨b2, o2, rfl, _⟩ := h.blk (j := i) (by have := (List.getElem?_eq_some_iff.1 hx).1; omega)
     obtain ⟨px, cx, hrow0, hbx⟩ := h.row hx
     have hrow := RowAt.new hrow0 M.frm
     have hil := (List.getElem?_eq_some_iff.1 hx).1
     refine go 1 ?_
     refine x_ia i rfl rfl rfl Tryz.underlying24 sz29 rfl rfl hat (by omega) ?_
     refine x_ldA [_, _, _] rfl rfl rfl Tryz.underlying29 rfl sz29 rfl rfl hrow ?_
     refine go 1 ?_
     intro _ M
     refine go 0 ?_
     refine x_add _ rfl rfl rfl rfl rfl (wadd (by omega) (by omega)) ?_
     refine go 0 ?_
     exact At.back ((j + 1, x, .slice px x.2.2.length cx)) ⟨rfl, rfl, rfl, rfl, rfl, trivial⟩ ⟨by omega, hfj, hbx, M⟩ (by first | omega | (simp only; omega) | (simp; done) | (simp; omega))
  ·intro hco2
   refine go 2 ?_
   intro _ M
   refine go 1 ?_
   obtain rfl : j = (splitN p).length := by omega
   rw [List.drop_length] at hfj
   have hfj : findL l p = (f, 0) := hfj
   rw [hfj]; exact ⟨_, rfl, hb, M.frm⟩

end Go.Proofs.YtigfbpbnohkokaaGreat

namespace Go.Proofs.YtigfbpbnohkokaaGreat
open Go Go.Fw Go.RowKit Go.Proofs
set_option linter.unusedVariables false
set_option linter.unusedSimpArgs false
set_option maxRecDepth 100000
set_option maxHeartbeats 4000000

-- (valise/valiseref16.Tree).List
theorem rlist_c16 {w0 : World} {v : Value} {l : List Raw} {p : List UInt8} (h : FilesAt w0 v l) (hl : l.length ≤ 1000) : Ret Tryz.prog 93 #[.agg #[v], strV p] w0 fun r w' => ∃ u Lr, r = .tuple #[u, .int .i64 (listL l p).2] ∧ StrsO Lr u (listL l p).1 ∧ Sep w0 Lr w' := by
 have M : Sep w0 [] w0 := St.nil w0
 obtain ⟨pv, cv, rfl⟩ := h.shape
 refine Ret.of_W Tryz.func93 rfl Tryz.ntmps93 rfl ?_
 refine go 1 ?_
 intro bbx1 _ M
 refine go 1 ?_
 refine x_call rfl rfl rfl rfl rfl en85 (rfind_c (h.new M.frm) (by omega)) ?_
 rintro r_ wcall1 ⟨dv, rfl, hb, hncall1⟩
 have M := M.new hncall1
 obtain ⟨pd, cd, rfl⟩ := hb.shape
 refine ⟨trivial, ?_⟩
 refine go 1 ?_
 intro bal1 _ M
 refine go 1 ?_
 intro _ M
 refine cnd 1 ?_ ?_
 ·intro hco1
  refine go 1 ?_
  have hF : listL l p = ([], (findL l p).2) := by unfold listL; rw [if_neg hco1]
  rw [hF]; exact ⟨_, [], rfl, OwL.nil, M.frm⟩
 ·intro hco1
  refine cnd 2 ?_ ?_
  ·intro hco2
   refine go 1 ?_
   have hF : listL l p = ([], 17) := by unfold listL; rw [if_pos hco1, if_neg (by simp [hco2])]
   rw [hF]; exact ⟨_, [], rfl, OwL.nil, M.frm⟩
  ·intro hco2
   refine go 0 ?_
   refine W.loop (σ := Nat × Value × List (Nat × Obj)) (fun q => [(1, _), (2, _), (8, q.2.1), (9, .int .i64 ((q.1 : Nat) : Int))]) (fun q w => q.1 ≤ l.length ∧ StrsO q.2.2 q.2.1 (namesL (l.take q.1) p) ∧ Sep w0 ([(bal1, .cells [strV (findL l p).1.1, .bool (findL l p).1.2.1, .slice pd (findL l p).1.2.2.length cd].toArray 29 (0, 0)), (bbx1, .cells [.slice pv l.length cv].toArray 31 (0, 0))] ++ q.2.2) w) (fun q => l.length - q.1) (0, .slice none 0 0, []) ⟨rfl, rfl, rfl, rfl, trivial⟩ ⟨Nat.zero_le _, OwL.nil, M⟩ ?_
   rintro ⟨j, ov, Lo⟩ w ⟨hj, how, M⟩
   simp only at hj how M
   refine cnd 3 ?_ ?_
   ·intro hco3
    obtain ⟨x, hx⟩ := get_lt (l := l) (q := j) (by omega)
    obtain ⟨bb, off, rfl, _⟩ := (h.new M.frm).blk (j := j) (by omega)
    obtain ⟨px, cx, hrow, _⟩ := (h.new M.frm).row hx
    have hnl := namesL_len (l.take j) p
    rw [List.length_take] at hnl
    refine go 1 ?_
    refine x_ia j rfl rfl rfl Tryz.underlying24 sz29 rfl rfl rfl (by omega) ?_
    refine go 0 ?_
    refine x_ld rfl rfl rfl Tryz.underlying9 rfl rfl (RowAt.cell hrow (j := 0) rfl) ?_
    refine x_call rfl rfl rfl rfl rfl en123 (rparent_c) ?_
    rintro r wcall2 ⟨rfl, hncall2⟩
    have M := M.new hncall2
    refine ⟨trivial, ?_⟩
    refine cnd 1 ?_ ?_
    ·intro hco4
     refine go 0 ?_
     refine x_bs1 (cs := [strV (parentP x.1).2.1]) rfl rfl rfl Tryz.underlying47 sz9 ze9 (Z := [_]) rfl rfl (by decide) (by decide) rfl rfl rfl ?_
     intro bbs1 wbs1 hbbs1 hwbs1
     have M0 := M.acons hbbs1 hwbs1
     have hslbs1 : Sl wbs1 (.slice (some ⟨bbs1, 0, none⟩) 1 1) 1 1 [strV (parentP x.1).2.1] := .inr ⟨bbs1, 0, 1, _, _, _, rfl, by omega, M0.at_ 0 rfl, rfl, rfl⟩
     have M := M0.tail
     refine ⟨trivial, ?_⟩
     refine x_apL rfl rfl rfl rfl Tryz.underlying47 sz9 ze9 rfl by9 rfl rfl how (M.perm List.perm_append_comm) (strCs_one _) (hslbs1.src Tryz.underlying47 (by intro u hu; simp at hu; subst hu; rfl)) (by omega) (by decide) (by omega) ?_
     intro Lo v6 w6 how M
     have M := M.perm List.perm_append_comm
     have how := strsO_snoc how
     refine ⟨trivial, ?_⟩
     refine go 0 ?_
     refine x_add _ rfl rfl rfl rfl rfl (wadd (by omega) (by omega)) ?_
     refine go 0 ?_
     exact At.back ((j + 1, v6, Lo)) ⟨rfl, rfl, rfl, rfl, trivial⟩ ⟨by omega, by rw [namesL_step hx, if_pos hco4]; exact how, M⟩ (by first | omega | (simp only; omega) | (simp; done) | (simp; omega))
    ·intro hco4
     refine go 0 ?_
     refine x_add _ rfl rfl rfl rfl rfl (wadd (by omega) (by omega)) ?_
     refine go 0 ?_
     exact At.back ((j + 1, ov, Lo)) ⟨rfl, rfl, rfl, rfl, trivial⟩ ⟨by omega, by rw [namesL_step hx, if_neg hco4, List.append_nil]; exact how, M⟩ (by first | omega | (simp only; omega) | (simp; done) | (simp; omega))
   ·intro hco3
    refine go 1 ?_
    have hj2 : j = l.length := by omega
    subst hj2
    rw [List.take_length] at how
    have hF : listL l p = (namesL l p, 0) := by unfold listL; rw [if_pos hco1, if_pos hco2]
    rw [hF]; exact ⟨_, Lo, rfl, how, M.dropL (L' := [_, _])⟩

end Go.Proofs.YtigfbpbnohkokaaGreat

namespace Go.Proofs.YtigfbpbnohkokaaGreat
open Go Go.Fw Go.RowKit Go.Proofs
set_option linter.unusedVariables false
set_option linter.unusedSimpArgs false
set_option maxRecDepth 100000
set_option maxHeartbeats 4000000

-- (valise/valiseref16.Tree).Remove
theorem rremove_c {w00 w0 : World} {L X : List (Nat × Obj)} {v : Value} {l : List Raw} {p : List UInt8} (M : Sep w00 (L ++ X) w0) (h : FilesK w00 L v l) (hl : l.length ≤ 1000) : Ret Tryz.prog 121 #[.agg #[v], strV p] w0 fun r w' => ∃ u L', r = .tuple #[.agg #[u], .int .i64 (removeL l p).2] ∧ FilesK w00 (L ++ L') u (removeL l p).1 ∧ Sep w00 ((L ++ L') ++ X) w' := by
 have hFK := h
 obtain ⟨pv, cv, rfl⟩ := (h.at_ M (fun y hy => by simp [hy])).shape
 refine Ret.of_W Tryz.func121 rfl Tryz.ntmps121 rfl ?_
 refine go 1 ?_
 intro bbx1 _ M
 refine go 1 ?_
 intro bal1 _ M
 refine go 1 ?_
 refine x_call rfl rfl rfl rfl rfl en85 (rfind_c (hFK.at_ M (fun y hy => by simp [hy])) (by omega)) ?_
 rintro r_ w1 ⟨dv, rfl, hb, hn1⟩
 have M := M.new hn1
 obtain ⟨pd, cd, rfl⟩ := hb.shape
 refine ⟨trivial, ?_⟩
 refine go 1 ?_
 intro bal2 _ M
 refine go 1 ?_
 intro _ M
 refine cnd 1 ?_ ?_
 ·intro hco1
  refine go 2 ?_
  intro _ M
  refine go 1 ?_
  have hR : removeL l p = (l, (findL l p).2) := by unfold removeL; rw [if_neg hco1]
  rw [hR]; exact ⟨_, [], rfl, hFK.mono (fun y hy => by simp [hy]), by simpa using (St.dropL (L' := [_, _, _]) M : Sep w00 (L ++ X) _)⟩
 ·intro hco1
  refine cnd 1 ?_ ?_
  ·intro hco2
   refine go 2 ?_
   intro _ M
   refine go 1 ?_
   have hR : removeL l p = (l, 18) := by unfold removeL; rw [if_pos hco1, if_pos hco2]
   rw [hR]; exact ⟨_, [], rfl, hFK.mono (fun y hy => by simp [hy]), by simpa using (St.dropL (L' := [_, _, _]) M : Sep w00 (L ++ X) _)⟩
  ·intro hco2
   refine go 0 ?_
   refine W.loop (σ := Nat) (fun j => [(1, _), (2, _), (4, _), (8, .int .i64 ((j : Nat) : Int))]) (fun j w => j ≤ l.length ∧ (∀ y ∈ l.take j, y.1 ≠ p → underP y.1 p = false) ∧ Sep w00 ([(bal2, .cells [strV (findL l p).1.1, .bool (findL l p).1.2.1, .slice pd (findL l p).1.2.2.length cd].toArray 29 (0, 0)), (bal1, .cells [.slice none 0 0].toArray 31 (0, 0)), (bbx1, .cells [.slice pv l.length cv].toArray 31 (0, 0))] ++ (L ++ X)) w) (fun j => l.length - j) 0 ⟨rfl, rfl, rfl, rfl, trivial⟩ ⟨Nat.zero_le _, by simp, M⟩ ?_
   rintro j w ⟨hj, hno, M⟩
   refine cnd 3 ?_ ?_
   ·intro hco3
    obtain ⟨x, hx⟩ := get_lt (l := l) (q := j) (by omega)
    have hfa := hFK.at_ M (fun y hy => by simp [hy])
    obtain ⟨bb, off, rfl, _⟩ := hfa.blk (j := j) (by omega)
    obtain ⟨px, cx, hrow, _⟩ := hfa.row hx
    refine go 1 ?_
    refine x_ia j rfl rfl rfl Tryz.underlying24 sz29 rfl rfl rfl (by omega) ?_
    refine go 0 ?_
    refine x_ld rfl rfl rfl Tryz.underlying9 rfl rfl (RowAt.cell hrow (j := 0) rfl) ?_
    refine spl 1 37 ?_ ?_
    ·intro hsp1
     refine go 1 ?_
     refine x_ia j rfl rfl rfl Tryz.underlying24 sz29 rfl rfl rfl (by omega) ?_
     refine go 0 ?_
     refine x_ld rfl rfl rfl Tryz.underlying9 rfl rfl (RowAt.cell hrow (j := 0) rfl) ?_
     refine go 0 ?_
     refine x_call rfl rfl rfl rfl rfl en34 (runder_c) ?_
     rintro r wcall2 ⟨rfl, hncall2⟩
     have M := M.new hncall2
     refine ⟨trivial, ?_⟩
     refine cnd 0 ?_ ?_
     ·intro hco4
      refine go 2 ?_
      intro _ M
      refine go 1 ?_
      have hR : removeL l p = (l, 18) := by
       have hb : busyL l p = true := by
        unfold busyL; rw [List.any_eq_true]
        exact ⟨x, List.mem_of_getElem? hx, by simp [hsp1, hco4]⟩
       unfold removeL; rw [if_pos hco1, if_neg hco2, if_pos hb]
      rw [hR]; exact ⟨_, [], rfl, hFK.mono (fun y hy => by simp [hy]), by simpa using (St.dropL (L' := [_, _, _]) M : Sep w00 (L ++ X) _)⟩
     ·intro hco4
      refine go 0 ?_
      refine x_add _ rfl rfl rfl rfl rfl (wadd (by omega) (by omega)) ?_
      refine go 0 ?_
      exact At.back (j + 1) ⟨rfl, rfl, rfl, rfl, trivial⟩ ⟨by omega, fun z hz h0 => by
       rw [take_mem hx] at hz
       rcases List.mem_append.1 hz with hz | hz
       ·exact hno z hz h0
       ·rw [List.mem_singleton.1 hz]; exact hco4, M⟩ (by first | omega | (simp only; omega) | (simp; done) | (simp; omega))
    ·intro hsp1
     refine go 0 ?_
     refine x_add _ rfl rfl rfl rfl rfl (wadd (by omega) (by omega)) ?_
     refine go 0 ?_
     exact At.back (j + 1) ⟨rfl, rfl, rfl, rfl, trivial⟩ ⟨by omega, fun z hz h0 => by
      rw [take_mem hx] at hz
      rcases List.mem_append.1 hz with hz | hz
      ·exact hno z hz h0
      ·rw [List.mem_singleton.1 hz] at h0; exact absurd hsp1 h0, M⟩ (by first | omega | (simp only; omega) | (simp; done) | (simp; omega))
   ·intro hco3
    have hj2 : j = l.length := by omega
    subst hj2
    rw [List.take_length] at hno
    have hb : busyL l p = false := by
     unfold busyL
     rw [List.any_eq_false]
     intro y hy
     by_cases h0 : y.1 = p
     ·simp [h0]
     ·simp [hno y hy h0]
    obtain ⟨x, hxm, hxp⟩ := findL_mem hco1 hco2
    obtain ⟨i, y, hy, _, hat, _⟩ := (atR_cases l p).resolve_right (fun h => h.1 x hxm hxp)
    have hil := (List.getElem?_eq_some_iff.1 hy).1
    have hR : removeL l p = (l.eraseIdx i, 0) := by unfold removeL; rw [if_pos hco1, if_neg hco2, hb, if_neg (by simp), hat]; rfl
    rw [hR]
    refine go 0 ?_
    refine W.regD (by kernel_rfl) #[0, 0, 0, 6, 15, 31, 63] [(0, false), (1, false), (2, false), (3, true), (4, true), (5, true), (6, false)] (by kernel_rfl) ?_
    intro K wD1 hK hwD1
    have M := M.drew hwD1
    refine go 2 ?_
    refine x_call rfl rfl rfl rfl rfl en32 (at_c (hFK.at_ M (fun y hy => by simp [hy])) (by omega)) ?_
    rintro r_ w3 ⟨rfl, hn3⟩
    have M := M.new hn3
    rw [hat]
    refine pnd ?_
    refine x_call rfl rfl rfl rfl rfl en117 (without_c (St.inn2 (F := [_, _, _]) M) hFK hl hil) ?_
    rintro r_ w4 ⟨u, L', rfl, hu, M⟩
    have M := M.out2 [_, _, _]
    obtain ⟨pu, cu, rfl⟩ := (hu.at_ M (fun y hy => by rcases List.mem_append.1 hy with hy | hy <;> simp [hy])).shape
    refine pnd ?_
    refine x_st [_] _ rfl rfl rfl sz31 rfl rfl rfl rfl (by first | exact M.at_ 0 rfl | exact M.at_ 1 rfl | exact M.at_ 2 rfl | exact M.at_ 3 rfl | exact M.at_ 4 rfl | exact M.at_ 5 rfl | exact M.at_ 6 rfl | exact M.at_ 7 rfl) rfl rfl rfl ?_
    intro wst5 hwst5
    have M := by first | exact M.put 0 rfl hwst5 | exact M.put 1 rfl hwst5 | exact M.put 2 rfl hwst5 | exact M.put 3 rfl hwst5 | exact M.put 4 rfl hwst5 | exact M.put 5 rfl hwst5 | exact M.put 6 rfl hwst5 | exact M.put 7 rfl hwst5
    refine pnd ?_
    refine go 1 ?_
    exact ⟨_, L', rfl, hu, St.dropL (L' := [_, _, _]) M⟩

end Go.Proofs.YtigfbpbnohkokaaGreat

namespace Go.Proofs.YtigfbpbnohkokaaGreat
open Go Go.Fw Go.RowKit Go.Proofs
set_option linter.unusedVariables false
set_option linter.unusedSimpArgs false
set_option maxRecDepth 100000
set_option maxHeartbeats 4000000

-- (valise/valiseref16.Tree).home
theorem rhome_c {w0 : World} {v : Value} {l : List Raw} {p : List UInt8} {root : Int} (h : FilesAt w0 v l) (hl : l.length ≤ 1000) : Ret Tryz.prog 116 #[.agg #[v], strV p, .int .i64 root] w0 fun r w' => r = .int .i64 (homeL l p root) ∧ New w0 w' := by
 have M : Sep w0 [] w0 := St.nil w0
 obtain ⟨pv, cv, rfl⟩ := h.shape
 refine Ret.of_W Tryz.func116 rfl Tryz.ntmps116 rfl ?_
 refine go 1 ?_
 intro bbx1 _ M
 refine go 0 ?_
 refine x_call rfl rfl rfl rfl rfl en31 (rsplit_c) ?_
 rintro r_ w1 ⟨v1, L1, rfl, M1, hs1⟩
 have M := M.grow M1
 obtain ⟨p1, c1, rfl, hcap1⟩ := hs1.shape2 (by decide)
 have hsl := splitN_len p
 refine ⟨trivial, ?_⟩
 refine cnd 1 ?_ ?_
 ·intro hco1
  refine go 1 ?_
  exact ⟨by unfold homeL; rw [if_neg hco1], M.frm⟩
 ·intro hco1
  have hPK := POK_split hco1
  refine cnd 2 ?_ ?_
  ·intro hco2
   refine go 1 ?_
   exact ⟨by unfold homeL; rw [if_pos hco1, if_pos (List.length_eq_zero_iff.1 (by omega))], M.frm⟩
  ·intro hco2
   have hn0 : splitN p ≠ [] := fun e => hco2 (by rw [e]; rfl)
   have hln := List.length_pos_iff.2 hn0
   refine go 0 ?_
   refine W.regT (by kernel_rfl) #[0, 0, 0, 4, 12, 30, 62, 127, 255, 511, 511, 0, 3071, 8191] (.par [(0, false), (1, false), (2, false), (3, false), (4, false), (5, false)] 6 (.two [] 7 [(8, false), (9, false), (10, false), (11, true)] 11 [(7, true), (8, false), (9, false), (10, false)] (.leaf [(12, true), (13, false)])) 11 (.leaf [(6, true), (7, true), (8, false), (9, false), (10, false), (12, true), (13, false)])) (by kernel_rfl) ?_
   intro K wD1 hK hwD1
   have M := M.drew hwD1
   refine ExT.par ?_
   refine go 2 ?_
   refine x_sub _ rfl rfl rfl rfl rfl (wsub (by omega) (by omega)) ?_
   refine x_slh ((splitN p).length - 1) rfl rfl rfl Tryz.underlying47 sz9 rfl rfl (by omega) (by omega) ?_
   refine Ex.fork ?_
   refine ⟨?_, ?_⟩
   ·refine x_call rfl rfl rfl rfl rfl en35 (rtext_c (strsO_at (strsO_take hs1 (j := (splitN p).length - 1) (by omega)) M (fun y hy => by simp [hy])) (by simp; omega) (fun y hy => by have := allOK_len hPK.2.1 y (List.mem_of_mem_take hy); omega)) ?_
    rintro r_ w2 ⟨rfl, hn2⟩
    have M := M.new hn2
    refine pnd ?_
    refine Ex.fork ?_
    refine ExT.two ?_
    refine Ex.fork ?_
    refine Ex.join (fun F' T' w' => ∃ bx pd cd R1, T' = [(0, R1)] ∧ F' = [(9, ptr bx), (31, .agg #[strV (findL l (joinS ((splitN p).take ((splitN p).length - 1)))).1.1, .bool (findL l (joinS ((splitN p).take ((splitN p).length - 1)))).1.2.1, .slice pd (findL l (joinS ((splitN p).take ((splitN p).length - 1)))).1.2.2.length cd]), (32, .int .i64 (findL l (joinS ((splitN p).take ((splitN p).length - 1)))).2)] ∧ Sep w0 ([(bx, .cells [.string ByteArray.empty, .bool false, .slice none 0 0].toArray 29 (0, 0)), (bbx1, .cells [.slice pv l.length cv].toArray 31 (0, 0))] ++ L1) w') ?_ ?_ ?_
    ·refine x_call rfl rfl rfl rfl rfl en85 (rfind_c (h.new M.frm) (by omega)) ?_
     rintro r_ wcall3 ⟨dv, rfl, hb, hncall3⟩
     have M := M.new hncall3
     obtain ⟨pd, cd, rfl⟩ := hb.shape
     refine pnd ?_
     refine go 0 ?_
     refine x_alloc [_, _, _] rfl rfl rfl ze29 rfl ?_
     intro bal1 wal1 hbal1 hwal1
     have M := M.acons hbal1 hwal1
     refine pnd ?_
     refine Ex.forkS [(9, _), (31, _), (32, _)] ⟨rfl, rfl, rfl, trivial⟩ ?_
     exact ⟨bal1, pd, cd, _, rfl, rfl, M⟩
    ·refine x_alloc [_, _, _] rfl rfl rfl ze29 rfl ?_
     intro bal2 wal2 hbal2 hwal2
     have M := M.acons hbal2 hwal2
     refine pnd ?_
     refine x_call rfl rfl rfl rfl rfl en85 (rfind_c (h.new M.frm) (by omega)) ?_
     rintro r_ wcall4 ⟨dv, rfl, hb, hncall4⟩
     have M := M.new hncall4
     obtain ⟨pd, cd, rfl⟩ := hb.shape
     refine pnd ?_
     refine go 0 ?_
     refine Ex.forkS [(9, _), (31, _), (32, _)] ⟨rfl, rfl, rfl, trivial⟩ ?_
     exact ⟨bal2, pd, cd, _, rfl, rfl, M⟩
    rintro F1 T1 w4 ⟨bx, pd, cd, R1, rfl, rfl, M⟩
    refine ExT.leaf ?_
    refine x_st [_, _, _] _ rfl rfl rfl sz29 rfl rfl rfl rfl (by first | exact M.at_ 0 rfl | exact M.at_ 1 rfl | exact M.at_ 2 rfl | exact M.at_ 3 rfl | exact M.at_ 4 rfl | exact M.at_ 5 rfl | exact M.at_ 6 rfl | exact M.at_ 7 rfl) rfl rfl rfl ?_
    intro wst1 hwst1
    have M := by first | exact M.put 0 rfl hwst1 | exact M.put 1 rfl hwst1 | exact M.put 2 rfl hwst1 | exact M.put 3 rfl hwst1 | exact M.put 4 rfl hwst1 | exact M.put 5 rfl hwst1 | exact M.put 6 rfl hwst1 | exact M.put 7 rfl hwst1
    refine pnd ?_
    refine cnd 1 ?_ ?_
    ·intro hco3
     refine go 1 ?_
     exact ⟨by unfold homeL; rw [if_pos hco1, if_neg hn0, if_neg hco3]; try rfl, M.frm⟩
    ·intro hco3
     refine cnd 2 ?_ ?_
     ·intro hco4
      refine go 1 ?_
      exact ⟨by unfold homeL; rw [if_pos hco1, if_neg hn0, if_pos hco3, if_neg (by simp [hco4])]; try rfl, M.frm⟩
     ·intro hco4
      refine go 1 ?_
      exact ⟨by unfold homeL; rw [if_pos hco1, if_neg hn0, if_pos hco3, if_pos hco4]; try rfl, M.frm⟩
   ·refine x_alloc [_, _, _] rfl rfl rfl ze29 rfl ?_
    intro bal3 wal3 hbal3 hwal3
    have M := M.acons hbal3 hwal3
    refine pnd ?_
    refine Ex.fork ?_
    refine ExT.leaf ?_
    refine x_call rfl rfl rfl rfl rfl en35 (rtext_c (strsO_at (strsO_take hs1 (j := (splitN p).length - 1) (by omega)) M (fun y hy => by simp [hy])) (by simp; omega) (fun y hy => by have := allOK_len hPK.2.1 y (List.mem_of_mem_take hy); omega)) ?_
    rintro r_ w2 ⟨rfl, hn2⟩
    have M := M.new hn2
    refine pnd ?_
    refine x_call rfl rfl rfl rfl rfl en85 (rfind_c (h.new M.frm) (by omega)) ?_
    rintro r_ wcall6 ⟨dv, rfl, hb, hncall6⟩
    have M := M.new hncall6
    obtain ⟨pd, cd, rfl⟩ := hb.shape
    refine pnd ?_
    refine go 0 ?_
    refine x_st [_, _, _] _ rfl rfl rfl sz29 rfl rfl rfl rfl (by first | exact M.at_ 0 rfl | exact M.at_ 1 rfl | exact M.at_ 2 rfl | exact M.at_ 3 rfl | exact M.at_ 4 rfl | exact M.at_ 5 rfl | exact M.at_ 6 rfl | exact M.at_ 7 rfl) rfl rfl rfl ?_
    intro wst2 hwst2
    have M := by first | exact M.put 0 rfl hwst2 | exact M.put 1 rfl hwst2 | exact M.put 2 rfl hwst2 | exact M.put 3 rfl hwst2 | exact M.put 4 rfl hwst2 | exact M.put 5 rfl hwst2 | exact M.put 6 rfl hwst2 | exact M.put 7 rfl hwst2
    refine pnd ?_
    refine cnd 1 ?_ ?_
    ·intro hco5
     refine go 1 ?_
     exact ⟨by unfold homeL; rw [if_pos hco1, if_neg hn0, if_neg hco5]; try rfl, M.frm⟩
    ·intro hco5
     refine cnd 2 ?_ ?_
     ·intro hco6
      refine go 1 ?_
      exact ⟨by unfold homeL; rw [if_pos hco1, if_neg hn0, if_pos hco5, if_neg (by simp [hco6])]; try rfl, M.frm⟩
     ·intro hco6
      refine go 1 ?_
      exact ⟨by unfold homeL; rw [if_pos hco1, if_neg hn0, if_pos hco5, if_pos hco6]; try rfl, M.frm⟩

end Go.Proofs.YtigfbpbnohkokaaGreat

namespace Go.Proofs.YtigfbpbnohkokaaGreat
open Go Go.Fw Go.RowKit Go.Proofs
set_option linter.unusedVariables false
set_option linter.unusedSimpArgs false
set_option maxRecDepth 100000
set_option maxHeartbeats 4000000

-- (valise/valiseref16.Tree).Mkdir
theorem rmkdir_c {w00 w0 : World} {L X : List (Nat × Obj)} {v : Value} {l : List Raw} {p : List UInt8} (M : Sep w00 (L ++ X) w0) (h : FilesK w00 L v l) (hl : l.length ≤ 999) (hnm : ∀ y ∈ l, y.1.length ≤ 2000) (hp : p.length ≤ 2000) : Ret Tryz.prog 90 #[.agg #[v], strV p] w0 fun r w' => ∃ u L', r = .tuple #[.agg #[u], .int .i64 (mkdirL l p).2] ∧ FilesK w00 (L ++ L') u (mkdirL l p).1 ∧ Sep w00 ((L ++ L') ++ X) w' := by
 have hFK := h
 obtain ⟨pv, cv, rfl⟩ := (h.at_ M (fun y hy => by simp [hy])).shape
 refine Ret.of_W Tryz.func90 rfl Tryz.ntmps90 rfl ?_
 refine go 1 ?_
 intro _ _ M
 refine go 1 ?_
 intro _ _ M
 refine go 1 ?_
 refine x_call rfl rfl rfl rfl rfl en116 (rhome_c (hFK.at_ M (fun y hy => by simp [hy])) (by omega)) ?_
 rintro r_ w1 ⟨rfl, hn1⟩
 have M := M.new hn1
 refine ⟨trivial, ?_⟩
 refine cnd 1 ?_ ?_
 ·intro hco1
  refine go 2 ?_
  intro _ M
  refine go 1 ?_
  have hR : mkdirL l p = (l, homeL l p 10) := by unfold mkdirL; rw [if_neg hco1]
  rw [hR]; exact ⟨_, [], rfl, hFK.mono (fun y hy => by simp [hy]), by simpa using (St.dropL (L' := [_, _]) M : Sep w00 (L ++ X) _)⟩
 ·intro hco1
  refine go 1 ?_
  refine x_call rfl rfl rfl rfl rfl en32 (at_c (hFK.at_ M (fun y hy => by simp [hy])) (by omega)) ?_
  rintro r_ w2 ⟨rfl, hn2⟩
  have M := M.new hn2
  refine ⟨trivial, ?_⟩
  refine cnd 1 ?_ ?_
  ·intro hco2
   refine go 2 ?_
   intro _ M
   refine go 1 ?_
   have hR : mkdirL l p = (l, 10) := by unfold mkdirL; rw [if_pos hco1, if_pos hco2]
   rw [hR]; exact ⟨_, [], rfl, hFK.mono (fun y hy => by simp [hy]), by simpa using (St.dropL (L' := [_, _]) M : Sep w00 (L ++ X) _)⟩
  ·intro hco2
   refine cnd 3 ?_ ?_
   ·intro hco3
    refine go 2 ?_
    intro _ M
    refine go 1 ?_
    have hR : mkdirL l p = (l, 7) := by unfold mkdirL; rw [if_pos hco1, if_neg hco2, if_pos (by omega)]
    rw [hR]; exact ⟨_, [], rfl, hFK.mono (fun y hy => by simp [hy]), by simpa using (St.dropL (L' := [_, _]) M : Sep w00 (L ++ X) _)⟩
   ·intro hco3
    refine go 2 ?_
    refine x_call rfl rfl rfl rfl rfl en33 (with_c (x := (p, true, [])) (St.inn2 (F := [_, _]) M) hFK (SgK.own (L' := []) OwL.nil (by decide) (by simp)) (by omega) hnm hp) ?_
    rintro r_ w3 ⟨u, L', rfl, hu, M⟩
    have M := M.out2 [_, _]
    obtain ⟨pu, cu, rfl⟩ := (hu.at_ M (fun y hy => by rcases List.mem_append.1 hy with hy | hy <;> simp [hy])).shape
    refine ⟨trivial, ?_⟩
    refine go 1 ?_
    intro _ M
    refine go 1 ?_
    have hR : mkdirL l p = (withR l (p, true, []), 0) := by unfold mkdirL; rw [if_pos hco1, if_neg hco2, if_neg (by omega)]
    rw [hR]; exact ⟨_, L', rfl, hu, St.dropL (L' := [_, _]) M⟩

end Go.Proofs.YtigfbpbnohkokaaGreat

namespace Go.Proofs.YtigfbpbnohkokaaGreat
open Go Go.Fw Go.RowKit Go.Proofs
set_option linter.unusedVariables false
set_option linter.unusedSimpArgs false
set_option maxRecDepth 100000
set_option maxHeartbeats 4000000

-- (valise/valiseref16.Tree).Put
theorem rput_c {w00 w0 : World} {L X : List (Nat × Obj)} {v : Value} {l : List Raw} {p b : List UInt8} {bv : Value} (M : Sep w00 (L ++ X) w0) (h : FilesK w00 L v l) (hl : l.length ≤ 999) (hnm : ∀ y ∈ l, y.1.length ≤ 2000) (hp : p.length ≤ 2000) (hb : SgK w00 L bv 1 b.length (byteCs b)) : Ret Tryz.prog 86 #[.agg #[v], strV p, bv] w0 fun r w' => ∃ u L', r = .tuple #[.agg #[u], .int .i64 (putL l p b).2] ∧ FilesK w00 (L ++ L') u (putL l p b).1 ∧ Sep w00 ((L ++ L') ++ X) w' := by
 have hFK := h
 obtain ⟨pv, cv, rfl⟩ := (h.at_ M (fun y hy => by simp [hy])).shape
 obtain ⟨pb, cb, rfl⟩ := (hb _ _ M (fun y hy => by simp [hy])).shape
 refine Ret.of_W Tryz.func86 rfl Tryz.ntmps86 rfl ?_
 refine go 1 ?_
 intro _ _ M
 refine go 1 ?_
 intro _ _ M
 refine go 1 ?_
 refine x_call rfl rfl rfl rfl rfl en116 (rhome_c (hFK.at_ M (fun y hy => by simp [hy])) (by omega)) ?_
 rintro r_ w1 ⟨rfl, hn1⟩
 have M := M.new hn1
 refine ⟨trivial, ?_⟩
 refine cnd 1 ?_ ?_
 ·intro hco1
  refine go 2 ?_
  intro _ M
  refine go 1 ?_
  have hR : putL l p b = (l, homeL l p 16) := by unfold putL; rw [if_neg hco1]
  rw [hR]; exact ⟨_, [], rfl, hFK.mono (fun y hy => by simp [hy]), by simpa using (St.dropL (L' := [_, _]) M : Sep w00 (L ++ X) _)⟩
 ·intro hco1
  refine go 1 ?_
  refine x_call rfl rfl rfl rfl rfl en32 (at_c (hFK.at_ M (fun y hy => by simp [hy])) (by omega)) ?_
  rintro r_ w2 ⟨rfl, hn2⟩
  have M := M.new hn2
  have hac := atR_cases l p
  refine ⟨trivial, ?_⟩
  refine spl 1 22 ?_ ?_
  ·intro hsp1
   obtain ⟨i, x, hx, hxp, hat, hno⟩ := hac.resolve_right (fun h => by have := h.2; omega)
   have hfa := hFK.at_ M (fun y hy => by simp [hy])
   have hil := (List.getElem?_eq_some_iff.1 hx).1
   obtain ⟨bb, off, rfl, _⟩ := hfa.blk (j := i) hil
   obtain ⟨px, cx, hrow, _⟩ := hfa.row hx
   have hfd := at_find hx hxp hno
   rw [hat]
   refine go 1 ?_
   refine x_ia i rfl rfl rfl Tryz.underlying24 sz29 rfl rfl rfl (by omega) ?_
   refine go 0 ?_
   refine x_ld rfl rfl rfl Tryz.underlying4 rfl rfl (RowAt.cell hrow (j := 1) rfl) ?_
   refine cnd 0 ?_ ?_
   ·intro hco2
    refine go 2 ?_
    intro _ M
    refine go 1 ?_
    have hR : putL l p b = (l, 16) := by unfold putL; rw [if_pos hco1, hfd]; simp only [if_pos hco2]
    rw [hR]; exact ⟨_, [], rfl, hFK.mono (fun y hy => by simp [hy]), by simpa using (St.dropL (L' := [_, _]) M : Sep w00 (L ++ X) _)⟩
   ·intro hco2
    refine cnd 2 ?_ ?_
    ·intro hco3
     refine go 2 ?_
     intro _ M
     refine go 1 ?_
     have hR : putL l p b = (l, 3) := by unfold putL; rw [if_pos hco1, hfd]; simp only [hco2, Bool.false_eq_true, if_false]; rw [if_pos (by omega)]
     rw [hR]; exact ⟨_, [], rfl, hFK.mono (fun y hy => by simp [hy]), by simpa using (St.dropL (L' := [_, _]) M : Sep w00 (L ++ X) _)⟩
    ·intro hco3
     refine go 0 ?_
     refine x_lss false rfl rfl rfl rfl rfl (decide_eq_false (by omega)) ?_
     refine go 0 ?_
     refine x_geq true rfl rfl rfl rfl rfl (decide_eq_true (by omega)) ?_
     refine go 1 ?_
     refine x_call rfl rfl rfl rfl rfl en117 (without_c (St.inn2 (F := [_, _]) M) hFK (by omega) hil) ?_
     rintro r_ w3 ⟨u, L', rfl, hu, M⟩
     have M := M.out2 [_, _]
     obtain ⟨pu, cu, rfl⟩ := (hu.at_ M (fun y hy => by rcases List.mem_append.1 hy with hy | hy <;> simp [hy])).shape
     refine ⟨trivial, ?_⟩
     refine go 1 ?_
     intro _ M
     refine go 0 ?_
     refine W.regD (by kernel_rfl) #[0, 0, 0, 0, 12, 30, 63, 127, 255] [(0, false), (1, false), (3, false), (2, true), (4, true), (5, false), (6, true), (7, true), (8, false)] (by kernel_rfl) ?_
     intro K wD1 hK hwD1
     have M := M.drew hwD1
     refine go 1 ?_
     refine x_bs0 rfl rfl rfl Tryz.underlying27 sz5 ?_
     intro bq wb hbq hwb
     have M := M.acons hbq hwb
     refine pnd ?_
     refine x_apL (L := [_]) (cs := []) (nn := 0) rfl rfl rfl rfl Tryz.underlying27 sz5 ze5 rfl by5 rfl rfl (.inr ⟨bq, 0, [], _, rfl, rfl, rfl, rfl⟩) M (by simp) ((hb _ _ M (fun y hy => by simp [hy])).src Tryz.underlying27 (byteCs_one _)) (by omega) (by decide) (by omega) ?_
     intro Lo v6 w6 how M
     rw [Nat.zero_add, List.nil_append] at how
     have M := M.perm List.perm_append_comm
     obtain ⟨p6, c6, rfl⟩ := how.shape
     refine pnd ?_
     refine go 1 ?_
     refine x_call rfl rfl rfl rfl rfl en33 (with_c (x := (p, false, b)) (St.mix (F := [_, _]) M) (hu.mono (fun y hy => by rcases List.mem_append.1 hy with hy | hy <;> simp [hy])) (SgK.own how (by decide) (fun y hy => by simp [hy])) (by rw [List.length_eraseIdx]; split <;> omega) (fun y hy => hnm y (List.mem_of_mem_eraseIdx hy)) hp) ?_
     rintro r_ w4 ⟨u2, L2, rfl, hu2, M⟩
     have M := M.out2 [_, _]
     obtain ⟨pu2, cu2, rfl⟩ := (hu2.at_ M (fun y hy => List.mem_append_right _ (List.mem_append_left _ hy))).shape
     refine pnd ?_
     refine x_st [_] _ rfl rfl rfl sz31 rfl rfl rfl rfl (by first | exact M.at_ 0 rfl | exact M.at_ 1 rfl | exact M.at_ 2 rfl | exact M.at_ 3 rfl | exact M.at_ 4 rfl | exact M.at_ 5 rfl | exact M.at_ 6 rfl | exact M.at_ 7 rfl) rfl rfl rfl ?_
     intro wst5 hwst5
     have M := by first | exact M.put 0 rfl hwst5 | exact M.put 1 rfl hwst5 | exact M.put 2 rfl hwst5 | exact M.put 3 rfl hwst5 | exact M.put 4 rfl hwst5 | exact M.put 5 rfl hwst5 | exact M.put 6 rfl hwst5 | exact M.put 7 rfl hwst5
     refine pnd ?_
     refine go 1 ?_
     have hR : putL l p b = (withR (l.eraseIdx i) (p, false, b), 0) := by unfold putL; rw [if_pos hco1, hfd]; simp only [hco2, Bool.false_eq_true, if_false]; rw [if_neg (by omega), hat]; rfl
     rw [hR]; exact ⟨_, (L' ++ Lo) ++ L2, rfl, by simpa only [List.append_assoc] using hu2, by simpa only [List.append_assoc] using St.dropL (L' := [_, _]) M⟩
  ·intro hsp1
   have hnone := (hac.resolve_left (fun ⟨i, x, _, _, h, _⟩ => by omega)).1
   have hfd := at_find0 hnone
   refine cnd 2 ?_ ?_
   ·intro hco7
    refine go 2 ?_
    intro _ M
    refine go 1 ?_
    have hR : putL l p b = (l, 3) := by unfold putL; rw [if_pos hco1, hfd]; simp only []; rw [if_pos (by omega)]
    rw [hR]; exact ⟨_, [], rfl, hFK.mono (fun y hy => by simp [hy]), by simpa using (St.dropL (L' := [_, _]) M : Sep w00 (L ++ X) _)⟩
   ·intro hco7
    refine go 0 ?_
    refine x_lss true rfl rfl rfl rfl rfl (decide_eq_true (by omega)) ?_
    refine cnd 3 ?_ ?_
    ·intro hco8
     refine go 2 ?_
     intro _ M
     refine go 1 ?_
     have hR : putL l p b = (l, 7) := by unfold putL; rw [if_pos hco1, hfd]; simp only []; rw [if_neg (by omega), if_pos (by omega)]
     rw [hR]; exact ⟨_, [], rfl, hFK.mono (fun y hy => by simp [hy]), by simpa using (St.dropL (L' := [_, _]) M : Sep w00 (L ++ X) _)⟩
    ·intro hco8
     refine go 0 ?_
     refine x_geq false rfl rfl rfl rfl rfl (decide_eq_false (by omega)) ?_
     refine go 0 ?_
     refine W.regD (by kernel_rfl) #[0, 0, 0, 0, 12, 30, 63, 127, 255] [(0, false), (1, false), (3, false), (2, true), (4, true), (5, false), (6, true), (7, true), (8, false)] (by kernel_rfl) ?_
     intro K wD2 hK hwD2
     have M := M.drew hwD2
     refine go 1 ?_
     refine x_bs0 rfl rfl rfl Tryz.underlying27 sz5 ?_
     intro bb wb hbb hwb
     have M := M.acons hbb hwb
     refine pnd ?_
     refine x_apL (L := [_]) (cs := []) (nn := 0) rfl rfl rfl rfl Tryz.underlying27 sz5 ze5 rfl by5 rfl rfl (.inr ⟨bb, 0, [], _, rfl, rfl, rfl, rfl⟩) M (by simp) ((hb _ _ M (fun y hy => by simp [hy])).src Tryz.underlying27 (byteCs_one _)) (by omega) (by decide) (by omega) ?_
     intro Lo v6 w6 how M
     rw [Nat.zero_add, List.nil_append] at how
     have M := M.perm List.perm_append_comm
     obtain ⟨p6, c6, rfl⟩ := how.shape
     refine pnd ?_
     refine go 1 ?_
     refine x_call rfl rfl rfl rfl rfl en33 (with_c (x := (p, false, b)) (St.mix0 (F := [_, _]) M) (hFK.mono (fun y hy => by simp [hy])) (SgK.own how (by decide) (fun y hy => by simp [hy])) (by omega) hnm hp) ?_
     rintro r_ w5 ⟨u2, L2, rfl, hu2, M⟩
     have M := M.out2 [_, _]
     obtain ⟨pu2, cu2, rfl⟩ := (hu2.at_ M (fun y hy => List.mem_append_right _ (List.mem_append_left _ hy))).shape
     refine pnd ?_
     refine x_st [_] _ rfl rfl rfl sz31 rfl rfl rfl rfl (by first | exact M.at_ 0 rfl | exact M.at_ 1 rfl | exact M.at_ 2 rfl | exact M.at_ 3 rfl | exact M.at_ 4 rfl | exact M.at_ 5 rfl | exact M.at_ 6 rfl | exact M.at_ 7 rfl) rfl rfl rfl ?_
     intro wst8 hwst8
     have M := by first | exact M.put 0 rfl hwst8 | exact M.put 1 rfl hwst8 | exact M.put 2 rfl hwst8 | exact M.put 3 rfl hwst8 | exact M.put 4 rfl hwst8 | exact M.put 5 rfl hwst8 | exact M.put 6 rfl hwst8 | exact M.put 7 rfl hwst8
     refine pnd ?_
     refine go 1 ?_
     have hR : putL l p b = (withR l (p, false, b), 0) := by unfold putL; rw [if_pos hco1, hfd]; simp only []; rw [if_neg (by omega), if_neg (by omega)]
     rw [hR]; exact ⟨_, Lo ++ L2, rfl, by simpa only [List.append_assoc] using hu2, by simpa only [List.append_assoc] using St.dropL (L' := [_, _]) M⟩

end Go.Proofs.YtigfbpbnohkokaaGreat

namespace Go.Proofs.YtigfbpbnohkokaaGreat
open Go Go.Fw Go.RowKit Go.Proofs
set_option linter.unusedVariables false
set_option linter.unusedSimpArgs false
set_option maxRecDepth 100000
set_option maxHeartbeats 4000000

-- (valise/valiseref16.Tree).Rename
theorem rrename_c {w00 w0 : World} {L X : List (Nat × Obj)} {v : Value} {l : List Raw} {x y : List UInt8} (M : Sep w00 (L ++ X) w0) (h : FilesK w00 L v l) (hl : l.length ≤ 900) (hnm : ∀ f ∈ l, f.1.length ≤ 1000) (hyl : y.length ≤ 1000) : Ret Tryz.prog 122 #[.agg #[v], strV x, strV y] w0 fun r w' => ∃ u L', r = .tuple #[.agg #[u], .int .i64 (renameL l x y).2] ∧ FilesK w00 (L ++ L') u (renameL l x y).1 ∧ Sep w00 ((L ++ L') ++ X) w' := by
 have hFK := h
 obtain ⟨pv, cv, rfl⟩ := (h.at_ M (fun y hy => by simp [hy])).shape
 refine Ret.of_W Tryz.func122 rfl Tryz.ntmps122 rfl ?_
 refine go 1 ?_
 intro bbx1 _ M
 refine go 1 ?_
 intro bal1 _ M
 refine go 1 ?_
 refine x_call rfl rfl rfl rfl rfl en85 (rfind_c (hFK.at_ M (fun y hy => by simp [hy])) (by omega)) ?_
 rintro r_ w1 ⟨dv, rfl, hb, hn1⟩
 have M := M.new hn1
 obtain ⟨pd, cd, rfl⟩ := hb.shape
 refine ⟨trivial, ?_⟩
 refine go 1 ?_
 intro bal2 _ M
 refine go 1 ?_
 intro _ M
 refine cnd 1 ?_ ?_
 ·intro hco1
  refine go 2 ?_
  intro _ M
  refine go 1 ?_
  have hR : renameL l x y = (l, (findL l x).2) := by unfold renameL; rw [if_neg hco1]
  rw [hR]; exact ⟨_, [], rfl, hFK.mono (fun y hy => by simp [hy]), by simpa using (St.dropL (L' := [_, _, _]) M : Sep w00 (L ++ X) _)⟩
 ·intro hco1
  refine cnd 1 ?_ ?_
  ·intro hco2
   refine go 2 ?_
   intro _ M
   refine go 1 ?_
   have hR : renameL l x y = (l, 18) := by unfold renameL; rw [if_pos hco1, if_pos hco2]
   rw [hR]; exact ⟨_, [], rfl, hFK.mono (fun y hy => by simp [hy]), by simpa using (St.dropL (L' := [_, _, _]) M : Sep w00 (L ++ X) _)⟩
  ·intro hco2
   refine go 1 ?_
   refine x_call rfl rfl rfl rfl rfl en116 (rhome_c (hFK.at_ M (fun y hy => by simp [hy])) (by omega)) ?_
   rintro r_ w2 ⟨rfl, hn2⟩
   have M := M.new hn2
   refine ⟨trivial, ?_⟩
   refine cnd 1 ?_ ?_
   ·intro hco3
    refine go 2 ?_
    intro _ M
    refine go 1 ?_
    have hR : renameL l x y = (l, homeL l y 10) := by unfold renameL; rw [if_pos hco1, if_neg hco2, if_neg hco3]
    rw [hR]; exact ⟨_, [], rfl, hFK.mono (fun y hy => by simp [hy]), by simpa using (St.dropL (L' := [_, _, _]) M : Sep w00 (L ++ X) _)⟩
   ·intro hco3
    refine cnd 1 ?_ ?_
    ·intro hco4
     refine go 2 ?_
     intro _ M
     refine go 1 ?_
     have hR : renameL l x y = (l, 0) := by unfold renameL; rw [if_pos hco1, if_neg hco2, if_pos hco3, if_pos hco4]
     rw [hR]; exact ⟨_, [], rfl, hFK.mono (fun y hy => by simp [hy]), by simpa using (St.dropL (L' := [_, _, _]) M : Sep w00 (L ++ X) _)⟩
    ·intro hco4
     refine go 0 ?_
     refine x_call rfl rfl rfl rfl rfl en34 (runder_c) ?_
     rintro r wcall3 ⟨rfl, hncall3⟩
     have M := M.new hncall3
     refine ⟨trivial, ?_⟩
     refine cnd 0 ?_ ?_
     ·intro hco5
      refine go 2 ?_
      intro _ M
      refine go 1 ?_
      have hR : renameL l x y = (l, 18) := by unfold renameL; rw [if_pos hco1, if_neg hco2, if_pos hco3, if_neg hco4, if_pos hco5]
      rw [hR]; exact ⟨_, [], rfl, hFK.mono (fun y hy => by simp [hy]), by simpa using (St.dropL (L' := [_, _, _]) M : Sep w00 (L ++ X) _)⟩
     ·intro hco5
      refine go 1 ?_
      refine x_call rfl rfl rfl rfl rfl en32 (at_c (hFK.at_ M (fun y hy => by simp [hy])) (by omega)) ?_
      rintro r_ w4 ⟨rfl, hn4⟩
      have M := M.new hn4
      refine ⟨trivial, ?_⟩
      refine cnd 1 ?_ ?_
      ·intro hco6
       refine go 2 ?_
       intro _ M
       refine go 1 ?_
       have hR : renameL l x y = (l, 10) := by unfold renameL; rw [if_pos hco1, if_neg hco2, if_pos hco3, if_neg hco4, if_neg (by simp [hco5]), if_pos hco6]
       rw [hR]; exact ⟨_, [], rfl, hFK.mono (fun y hy => by simp [hy]), by simpa using (St.dropL (L' := [_, _, _]) M : Sep w00 (L ++ X) _)⟩
      ·intro hco6
       have hRR : renameL l x y = if l.any (badN x y) = true then (l, 8) else (movL x y l, 0) := by unfold renameL; rw [if_pos hco1, if_neg hco2, if_pos hco3, if_neg hco4, if_neg (by simp [hco5]), if_neg hco6]
       refine go 2 ?_
       intro bal3 _ M
       refine go 1 ?_
       intro _ M
       refine go 0 ?_
       refine W.loop (σ := Nat × Value × List (Nat × Obj)) (fun q => [(1, _), (2, _), (3, _), (6, _), (11, _), (12, .int .i64 ((q.1 : Nat) : Int))]) (fun q w => q.1 ≤ l.length ∧ FilesK w00 (L ++ q.2.2) q.2.1 (movL x y (l.take q.1)) ∧ (∀ f ∈ l.take q.1, badN x y f = false) ∧ Sep w00 ([(bal3, .cells [q.2.1].toArray 31 (0, 0)), (bal2, .cells [strV (findL l x).1.1, .bool (findL l x).1.2.1, .slice pd (findL l x).1.2.2.length cd].toArray 29 (0, 0)), (bal1, .cells [.slice none 0 0].toArray 31 (0, 0)), (bbx1, .cells [.slice pv l.length cv].toArray 31 (0, 0))] ++ ((L ++ q.2.2) ++ X)) w) (fun q => l.length - q.1) (0, .slice none 0 0, []) ⟨rfl, rfl, rfl, rfl, rfl, rfl, trivial⟩ ⟨Nat.zero_le _, (FilesK.own (L := []) ⟨[], [], [], rfl, rfl, OwL.nil, by simp⟩).mono (by simp), by simp, by simpa using M⟩ ?_
       rintro ⟨j, u, L3⟩ w ⟨hj, hu, hno, M⟩
       simp only at hj hu hno M
       obtain ⟨pu, cu, rfl⟩ := (hu.at_ M (fun y hy => List.mem_append_right _ (List.mem_append_left _ hy))).shape
       have hmlen : (movL x y (l.take j)).length = j := by unfold movL; rw [foldW_len, List.length_take]; simp; omega
       have hmnm : ∀ z ∈ movL x y (l.take j), z.1.length ≤ 2000 := fun z hz => by
        rcases foldW_mem.1 hz with hz | ⟨f, hf, rfl⟩
        ·cases hz
        ·exact mvN_len (hnm f (List.mem_of_mem_take hf)) hyl
       refine cnd 3 ?_ ?_
       ·intro hco7
        obtain ⟨f, hf⟩ := get_lt (l := l) (q := j) (by omega)
        have hfl := hnm f (List.mem_of_getElem? hf)
        have hfa := hFK.at_ M (fun y hy => by simp [hy])
        obtain ⟨bb, off, rfl, _⟩ := hfa.blk (j := j) (by omega)
        obtain ⟨pf, cf, hfk, hrow⟩ := hFK.get hf M (fun y hy => by simp [hy])
        have hst := movL_step (x := x) (y := y) hf
        refine go 1 ?_
        refine x_ia j rfl rfl rfl Tryz.underlying24 sz29 rfl rfl rfl (by omega) ?_
        refine x_ldA [_, _, _] rfl rfl rfl Tryz.underlying29 rfl sz29 rfl rfl hrow ?_
        refine go 1 ?_
        intro _ _ M
        refine go 1 ?_
        intro _ M
        refine go 1 ?_
        refine x_call rfl rfl rfl rfl rfl en34 (runder_c) ?_
        rintro r wcall5 ⟨rfl, hncall5⟩
        have M := M.new hncall5
        refine ⟨trivial, ?_⟩
        refine cnd 0 ?_ ?_
        ·intro hco8
         have hmv : mvN x y f = (y ++ f.1.drop x.length, f.2) := by unfold mvN; rw [if_pos hco8]
         refine go 2 ?_
         refine x_sslS x.length rfl rfl rfl Tryz.underlying9 rfl rfl rfl (by have := under_len hco8; simp; omega) ?_
         refine x_catS rfl rfl rfl rfl rfl (by simp; omega) ?_
         refine go 1 ?_
         intro _ M
         refine go 1 ?_
         refine x_call rfl rfl rfl rfl rfl en31 (rsplit_c) ?_
         rintro r_ w6 ⟨v6, L6, rfl, M6, _⟩
         have M := M.grow M6
         refine ⟨trivial, ?_⟩
         refine cnd 1 ?_ ?_
         ·intro hco9
          refine go 2 ?_
          intro _ M
          refine go 1 ?_
          have hbd : l.any (badN x y) = true := by
           rw [List.any_eq_true]
           exact ⟨f, List.mem_of_getElem? hf, by unfold badN; rw [hmv]; simp [hco8, hco9]⟩
          rw [hRR, if_pos hbd]; exact ⟨_, L3, rfl, hFK.mono (fun y hy => by simp [hy]), (St.dropL (L' := [_, _, _, _, _]) M.dropR)⟩
         ·intro hco9
          have M := M.dropR
          refine go 2 ?_
          refine x_call rfl rfl rfl rfl rfl en33 (with_c (x := (y ++ f.1.drop x.length, f.2)) (St.inn2 (F := [_, _, _, _, _]) M) hu (hfk.mono (fun y hy => by simp [hy])) (by omega) hmnm (by simp; omega)) ?_
          rintro r_ w7 ⟨u2, L7, rfl, hu2, M⟩
          have M := M.out2 [_, _, _, _, _]
          rw [← hmv, ← hst] at hu2
          obtain ⟨pu2, cu2, rfl⟩ := (hu2.at_ M (fun y hy => List.mem_append_right _ (List.mem_append_left _ hy))).shape
          refine ⟨trivial, ?_⟩
          refine go 1 ?_
          intro _ M
          refine go 0 ?_
          refine x_add _ rfl rfl rfl rfl rfl (wadd (by omega) (by omega)) ?_
          refine go 0 ?_
          exact At.back ((j + 1, _, L3 ++ L7)) ⟨rfl, rfl, rfl, rfl, rfl, rfl, trivial⟩ ⟨by omega, by simpa only [List.append_assoc] using hu2, fun z hz => by
           rw [take_mem hf] at hz
           rcases List.mem_append.1 hz with hz | hz
           ·exact hno z hz
           ·rw [List.mem_singleton.1 hz]; unfold badN; rw [hmv]; simp [hco9], by
           have M2 : Sep w00 ([(bal3, .cells [.slice pu2 (movL x y (l.take (j + 1))).length cu2].toArray 31 (0, 0)), (bal2, .cells [strV (findL l x).1.1, .bool (findL l x).1.2.1, .slice pd (findL l x).1.2.2.length cd].toArray 29 (0, 0)), (bal1, .cells [.slice none 0 0].toArray 31 (0, 0)), (bbx1, .cells [.slice (some ⟨bb, off, none⟩) l.length cv].toArray 31 (0, 0))] ++ (((L ++ L3) ++ L7) ++ X)) _ := M.tail
           simpa only [List.append_assoc] using M2⟩ (by first | omega | (simp only; omega) | (simp; done) | (simp; omega))
        ·intro hco8
         have hmv : mvN x y f = f := by unfold mvN; rw [if_neg (by simp [hco8])]
         refine go 2 ?_
         refine x_call rfl rfl rfl rfl rfl en33 (with_c (x := f) (St.inn2 (F := [_, _, _, _, _]) M) hu (hfk.mono (fun y hy => by simp [hy])) (by omega) hmnm (by omega)) ?_
         rintro r_ w8 ⟨u2, L7, rfl, hu2, M⟩
         have M := M.out2 [_, _, _, _, _]
         rw [← hmv, ← hst] at hu2
         obtain ⟨pu2, cu2, rfl⟩ := (hu2.at_ M (fun y hy => List.mem_append_right _ (List.mem_append_left _ hy))).shape
         refine ⟨trivial, ?_⟩
         refine go 1 ?_
         intro _ M
         refine go 0 ?_
         refine x_add _ rfl rfl rfl rfl rfl (wadd (by omega) (by omega)) ?_
         refine go 0 ?_
         exact At.back ((j + 1, _, L3 ++ L7)) ⟨rfl, rfl, rfl, rfl, rfl, rfl, trivial⟩ ⟨by omega, by simpa only [List.append_assoc] using hu2, fun z hz => by
          rw [take_mem hf] at hz
          rcases List.mem_append.1 hz with hz | hz
          ·exact hno z hz
          ·rw [List.mem_singleton.1 hz]; unfold badN; simp [hco8], by
          have M2 : Sep w00 ([(bal3, .cells [.slice pu2 (movL x y (l.take (j + 1))).length cu2].toArray 31 (0, 0)), (bal2, .cells [strV (findL l x).1.1, .bool (findL l x).1.2.1, .slice pd (findL l x).1.2.2.length cd].toArray 29 (0, 0)), (bal1, .cells [.slice none 0 0].toArray 31 (0, 0)), (bbx1, .cells [.slice (some ⟨bb, off, none⟩) l.length cv].toArray 31 (0, 0))] ++ (((L ++ L3) ++ L7) ++ X)) _ := M.tail
          simpa only [List.append_assoc] using M2⟩ (by first | omega | (simp only; omega) | (simp; done) | (simp; omega))
       ·intro hco7
        refine go 2 ?_
        intro _ M
        refine go 1 ?_
        have hj2 : j = l.length := by omega
        subst hj2
        simp only [List.take_length] at hu hno M ⊢
        have hbd : l.any (badN x y) = false := by rw [List.any_eq_false]; exact fun f hf => by simp [hno f hf]
        rw [hRR, if_neg (by rw [hbd]; simp)]; exact ⟨_, L3, rfl, hu, St.dropL (L' := [_, _, _, _]) M⟩

end Go.Proofs.YtigfbpbnohkokaaGreat

namespace Go.Proofs.YtigfbpbnohkokaaGreat
open Go Go.Fw Go.RowKit
set_option linter.unusedVariables false
set_option linter.unusedSimpArgs false

abbrev OpnK (w00 : World) (L : List (Nat × Obj)) (v : Value) (hl : List Opn) : Prop := SgK w00 L v 4 hl.length (oCs hl)
abbrev BytesK (w00 : World) (L : List (Nat × Obj)) (v : Value) (b : List UInt8) : Prop := SgK w00 L v 1 b.length (byteCs b)
def RsK (w00 : World) (L : List (Nat × Obj)) (v : Value) (rs : RsS) : Prop := ∃ p1 c1 p2 c2, v = rsV rs (.slice p1 rs.d.length c1) (.slice p2 rs.l.length c2) ∧ BytesK w00 L (.slice p1 rs.d.length c1) rs.d ∧ SgK w00 L (.slice p2 rs.l.length c2) 1 rs.l.length (strCs rs.l)
section
variable {w00 w : World} {L L' X A B : List (Nat × Obj)} {v : Value} {rs : RsS}
theorem nilS {m : Nat} (hm : 0 < m) : SgK w00 L (.slice none 0 0) m 0 [] := SgK.own (L' := []) OwL.nil hm (by simp)
theorem RsK.bad {e : Int} : RsK w00 L (rsV (badS e) (.slice none 0 0) (.slice none 0 0)) (badS e) := ⟨none, 0, none, 0, rfl, nilS (by decide), nilS (by decide)⟩
theorem RsK.mono (h : RsK w00 L v rs) (hs : ∀ x ∈ L, x ∈ L') : RsK w00 L' v rs := let ⟨p1, c1, p2, c2, h1, h2, h3⟩ := h; ⟨p1, c1, p2, c2, h1, h2.mono hs, h3.mono hs⟩
theorem St.sw (h : Sep w00 (A ++ B) w) : Sep w00 (B ++ A) w := h.perm List.perm_append_comm
theorem mL {x : Nat × Obj} (h : x ∈ L) : x ∈ L ++ L' := List.mem_append_left _ h
theorem mR {x : Nat × Obj} (h : x ∈ L') : x ∈ L ++ L' := List.mem_append_right _ h
/-- New blocks are laid to those that stay. -/
theorem St.keep {w1 : World} (h : Sep w00 (X ++ L) w) (hc : Sep w L' w1) : Sep w00 (X ++ (L ++ L')) w1 := by
 have := h.grow hc
 rwa [List.append_assoc] at this
theorem St.lay (h : Sep w00 (A ++ (X ++ L)) w) : Sep w00 (X ++ (L ++ A)) w := h.perm (perm_c fun p => by simp only [List.countP_append]; omega)
end
def putS (l : List Raw) (p b : List UInt8) : List Raw × Int := if 262144 + (fileB l p).length < usedL l + b.length then (l, 7) else (setD l p b, 0)
section
variable {w00 w0 : World} {X L : List (Nat × Obj)} {u : Value} {l : List Raw} {p b d y : List UInt8} {bv : Value}
theorem rput_x (M : Sep w00 (X ++ L) w0) (h : FilesK w00 L u l) (hl : l.length ≤ 999) (hnm : ∀ y ∈ l, y.1.length ≤ 2000) (hp : p.length ≤ 2000) (hb : BytesK w00 L bv b) : Ret Tryz.prog 86 #[.agg #[u], strV p, bv] w0 fun r w' => ∃ u' L', r = .tuple #[.agg #[u'], .int .i64 (putL l p b).2] ∧ FilesK w00 (L ++ L') u' (putL l p b).1 ∧ Sep w00 (X ++ (L ++ L')) w' :=
 (rput_c (St.sw M) h hl hnm hp hb).mono fun r w' ⟨u', L', h1, h2, M⟩ => ⟨u', L', h1, h2, St.sw M⟩
theorem rmkdir_x (M : Sep w00 (X ++ L) w0) (h : FilesK w00 L u l) (hl : l.length ≤ 999) (hnm : ∀ y ∈ l, y.1.length ≤ 2000) (hp : p.length ≤ 2000) : Ret Tryz.prog 90 #[.agg #[u], strV p] w0 fun r w' => ∃ u' L', r = .tuple #[.agg #[u'], .int .i64 (mkdirL l p).2] ∧ FilesK w00 (L ++ L') u' (mkdirL l p).1 ∧ Sep w00 (X ++ (L ++ L')) w' :=
 (rmkdir_c (St.sw M) h hl hnm hp).mono fun r w' ⟨u', L', h1, h2, M⟩ => ⟨u', L', h1, h2, St.sw M⟩
theorem rremove_x (M : Sep w00 (X ++ L) w0) (h : FilesK w00 L u l) (hl : l.length ≤ 1000) : Ret Tryz.prog 121 #[.agg #[u], strV p] w0 fun r w' => ∃ u' L', r = .tuple #[.agg #[u'], .int .i64 (removeL l p).2] ∧ FilesK w00 (L ++ L') u' (removeL l p).1 ∧ Sep w00 (X ++ (L ++ L')) w' :=
 (rremove_c (St.sw M) h hl).mono fun r w' ⟨u', L', h1, h2, M⟩ => ⟨u', L', h1, h2, St.sw M⟩
theorem rrename_x (M : Sep w00 (X ++ L) w0) (h : FilesK w00 L u l) (hl : l.length ≤ 900) (hnm : ∀ f ∈ l, f.1.length ≤ 1000) (hyl : y.length ≤ 1000) : Ret Tryz.prog 122 #[.agg #[u], strV p, strV y] w0 fun r w' => ∃ u' L', r = .tuple #[.agg #[u'], .int .i64 (renameL l p y).2] ∧ FilesK w00 (L ++ L') u' (renameL l p y).1 ∧ Sep w00 (X ++ (L ++ L')) w' :=
 (rrename_c (St.sw M) h hl hnm hyl).mono fun r w' ⟨u', L', h1, h2, M⟩ => ⟨u', L', h1, h2, St.sw M⟩
theorem rlist_x (M : Sep w00 (X ++ L) w0) (h : FilesK w00 L u l) (hl : l.length ≤ 1000) : Ret Tryz.prog 93 #[.agg #[u], strV p] w0 fun r w' => ∃ pv cv L', r = .tuple #[.slice pv (listL l p).1.length cv, .int .i64 (listL l p).2] ∧ SgK w00 (L ++ L') (.slice pv (listL l p).1.length cv) 1 (listL l p).1.length (strCs (listL l p).1) ∧ Sep w00 (X ++ (L ++ L')) w' :=
 (rlist_c16 (h.at_ M (fun y hy => mR hy)) hl).mono fun r w' ⟨u', L', h1, h2, M'⟩ => by
  obtain ⟨pv, cv, rfl⟩ := h2.shape
  exact ⟨pv, cv, L', h1, SgK.own h2 (by decide) (fun y hy => mR hy), St.keep M M'⟩
theorem rfind_x (M : Sep w00 (X ++ L) w0) (h : FilesK w00 L u l) (hl : l.length ≤ 1000) : Ret Tryz.prog 85 #[.agg #[u], strV p] w0 fun r w' => ∃ pv cv, r = .tuple #[.agg #[strV (findL l p).1.1, .bool (findL l p).1.2.1, .slice pv (findL l p).1.2.2.length cv], .int .i64 (findL l p).2] ∧ BytesK w00 L (.slice pv (findL l p).1.2.2.length cv) (findL l p).1.2.2 ∧ New w0 w' :=
 (rfindK_c (St.sw M) h hl).mono fun r w' ⟨dv, h1, h2, hn⟩ => by
  obtain ⟨pv, cv, rfl⟩ := (h2 _ _ M (fun y hy => mR hy)).shape
  exact ⟨pv, cv, h1, h2, hn⟩
theorem rdata_x {hv : Value} (M : Sep w00 (X ++ L) w0) (h : FilesK w00 L u l) (hl : l.length ≤ 1000) (hT : TreeL l) (hp : (p, false, d) ∈ l) : Ret Tryz.prog 118 #[.agg #[u, hv], strV p] w0 fun r w' => ∃ pv cv, r = .slice pv d.length cv ∧ BytesK w00 L (.slice pv d.length cv) d ∧ New w0 w' :=
 (rdata_c (St.sw M) h hl).mono fun r w' ⟨h2, hn⟩ => by
  rw [hT.found hp] at h2
  obtain ⟨pv, cv, rfl⟩ := (h2 _ _ M (fun y hy => mR hy)).shape
  exact ⟨pv, cv, rfl, h2, hn⟩
theorem putL_putS (hT : TreeL l) (hp : (p, false, d) ∈ l) (hb : b.length ≤ 65536) (hq : ¬ 262144 + d.length < usedL l + b.length) : putL l p b = putS l p b := by
 have e : fileB l p = d := by unfold fileB; rw [fileD_of hT.names hp]; rfl
 rw [hT.putD hp hb]
 unfold putS
 rw [e, if_neg hq]
theorem file_of (hT : TreeL l) (hp : (p, false, d) ∈ l) : fileB l p = d := by unfold fileB; rw [fileD_of hT.names hp]; rfl
end
theorem take_set {b : List UInt8} {n i : Nat} {c : UInt8} (hc : b[i]? = some c) (hn : i < n) : (b.take i ++ List.replicate (n - i) 0).set i c = b.take (i + 1) ++ List.replicate (n - (i + 1)) 0 := by
 have hl : i < b.length := (List.getElem?_eq_some_iff.1 hc).1
 rw [take_snoc hc, List.set_append_right _ _ (by rw [List.length_take]; omega), List.length_take, Nat.min_eq_left (by omega), Nat.sub_self]
 obtain ⟨k, hk⟩ : ∃ k, n - i = k + 1 := ⟨n - i - 1, by omega⟩
 rw [hk, List.replicate_succ, List.set_cons_zero, show n - (i + 1) = k by omega, List.append_assoc]
 rfl
theorem take_size {b : List UInt8} {n i : Nat} (h1 : i ≤ n) (h2 : i ≤ b.length) (h : n ≤ i ∨ b.length ≤ i) : b.take i ++ List.replicate (n - i) 0 = sizedB b n := by
 unfold sizedB
 rcases h with h | h
 ·have : i = n := by omega
  subst this
  congr 2; omega
 ·have : i = b.length := by omega
  subst this
  rw [List.take_of_length_le (Nat.le_refl _), List.take_of_length_le h1]
end Go.Proofs.YtigfbpbnohkokaaGreat

namespace Go.Proofs.YtigfbpbnohkokaaGreat
open Go Go.Fw Go.RowKit Go.Proofs
set_option linter.unusedVariables false
set_option linter.unusedSimpArgs false
set_option maxRecDepth 100000
set_option maxHeartbeats 4000000

-- valise/valiseref19.sized
theorem rsized_c {w0 : World} {v : Value} {b : List UInt8} {n : Nat} (h : BytesAt w0 v b) (hn : n ≤ 1099511627776) (hbl : b.length ≤ 1099511627776) : Ret Tryz.prog 119 #[v, .int .i64 (n : Int)] w0 fun r w' => ∃ Lr, BytesO Lr r (sizedB b n) ∧ Sep w0 Lr w' := by
 have M : Sep w0 [] w0 := St.nil w0
 obtain ⟨pv, cv, rfl⟩ := h.shape
 refine Ret.of_W Tryz.func119 rfl Tryz.ntmps119 rfl ?_
 refine go 0 ?_
 refine x_ms n n rfl rfl rfl Tryz.underlying27 sz5 ze5 rfl by5 rfl rfl (Nat.le_refl _) (by show 1 * n ≤ 281474976710656; omega) (by omega) ?_
 intro bms wms hbms hwms
 have M := M.acons hbms hwms
 have ho : OwL [(bms, .cells (List.replicate n (.int .u8 0)).toArray 5 (0, 0))] (.slice (some ⟨bms, 0, none⟩) n n) 1 n (byteCs (b.take 0 ++ List.replicate (n - 0) 0)) := .inr ⟨bms, n, [], 5, rfl, by simp [byteCs, byteV], by simp [byteCs], by simp [byteCs]⟩
 refine ⟨trivial, ?_⟩
 refine go 0 ?_
 refine W.loop (σ := Nat × List (Nat × Obj)) (fun q => [(0, _), (1, _), (5, .slice (some ⟨bms, 0, none⟩) n n), (6, .int .i64 ((q.1 : Nat) : Int))]) (fun q w => q.1 ≤ n ∧ q.1 ≤ b.length ∧ OwL q.2 (.slice (some ⟨bms, 0, none⟩) n n) 1 n (byteCs (b.take q.1 ++ List.replicate (n - q.1) 0)) ∧ Sep w0 q.2 w) (fun q => n - q.1) (0, _) ⟨rfl, rfl, rfl, rfl, trivial⟩ ⟨Nat.zero_le _, Nat.zero_le _, ho, M⟩ ?_
 rintro ⟨i, Lo⟩ w ⟨hi, hib, ho, M⟩
 simp only at hi hib ho M
 refine spl 1 12 ?_ ?_
 ·intro hsp1
  refine cnd 2 ?_ ?_
  ·intro hco1
   obtain ⟨c, hc⟩ := get_lt (l := b) (q := i) (by omega)
   obtain ⟨bb, off, rfl, _⟩ := h.blk (j := i) (by omega)
   obtain ⟨blk, cap, rest, T, hv, rfl, hset⟩ := bytes_set (j := i) (c := c) ho (by rw [List.length_append, List.length_take, List.length_replicate]; omega)
   cases hv
   rw [take_set hc (by omega)] at hset
   refine go 0 ?_
   refine x_ia i rfl rfl rfl Tryz.underlying27 sz5 rfl rfl rfl (by omega) ?_
   refine x_ld rfl rfl rfl Tryz.underlying5 rfl rfl (Sl.cell1 ((h.new M.frm).sl (by omega)) (byteCs_get hc)) ?_
   refine x_ia i rfl rfl rfl Tryz.underlying27 sz5 rfl rfl rfl (by omega) ?_
   refine x_st [_] _ rfl rfl rfl sz5 rfl rfl rfl rfl (M.at_ 0 rfl) rfl (Nat.ble_eq_true_of_le (by rw [List.length_append, byteCs_len, List.length_append, List.length_take, List.length_replicate]; simp only [List.length_cons, List.length_nil]; omega)) rfl ?_
   intro wst1 hwst1
   have M := M.put 0 rfl hwst1
   refine ⟨trivial, ?_⟩
   refine go 0 ?_
   refine x_add _ rfl rfl rfl rfl rfl (wadd (by omega) (by omega)) ?_
   refine go 0 ?_
   exact At.back ((i + 1, _)) ⟨rfl, rfl, rfl, rfl, trivial⟩ ⟨by simp only; omega, by simp only; omega, hset, M⟩ (by first | omega | (simp only; omega) | (simp; done) | (simp; omega))
  ·intro hco1
   rw [take_size hi hib (.inr (by omega))] at ho
   refine go 1 ?_
   exact ⟨Lo, by unfold BytesO; rw [sizedB_len]; exact ho, M⟩
 ·intro hsp1
  refine go 1 ?_
  rw [take_size hi hib (.inl (by omega))] at ho
  exact ⟨Lo, by unfold BytesO; rw [sizedB_len]; exact ho, M⟩

end Go.Proofs.YtigfbpbnohkokaaGreat

namespace Go.Proofs.YtigfbpbnohkokaaGreat
open Go Go.Fw Go.RowKit Go.Proofs
set_option linter.unusedVariables false
set_option linter.unusedSimpArgs false
set_option maxRecDepth 100000
set_option maxHeartbeats 4000000

-- (valise/valiseref19.FS).put
theorem fput_c {w00 w0 : World} {X L : List (Nat × Obj)} {u : Value} {ph : Option Addr} {nh ch : Nat} {l : List Raw} {p b d : List UInt8} {bv : Value} (M : Sep w00 (X ++ L) w0) (hF : FilesK w00 L u l) (hl : l.length ≤ 128) (hT : TreeL l) (hus : usedL l ≤ 262144) (hp : (p, false, d) ∈ l) (hb : BytesK w00 L bv b) (hbl : b.length ≤ 65536) : Ret Tryz.prog 120 #[.agg #[u, .slice ph nh ch], strV p, bv] w0 fun r w' => ∃ pu' cu' L', r = .tuple #[.agg #[.slice pu' (putS l p b).1.length cu', .slice ph nh ch], .int .i64 (putS l p b).2] ∧ FilesK w00 (L ++ L') (.slice pu' (putS l p b).1.length cu') (putS l p b).1 ∧ Sep w00 (X ++ (L ++ L')) w' := by
 obtain ⟨pu, cu, rfl⟩ := (hF.at_ M (fun y hy => mR hy)).shape
 obtain ⟨pb, cb, rfl⟩ := (hb _ _ M (fun y hy => mR hy)).shape
 have hrow := hT.row hp
 simp only at hrow
 have hdl := hrow.2.2.2.1
 have hdu : d.length ≤ usedL l := usedL_mem hp
 refine Ret.of_W Tryz.func120 rfl Tryz.ntmps120 rfl ?_
 refine go 1 ?_
 intro _ _ M
 refine go 1 ?_
 intro _ _ M
 refine go 0 ?_
 refine W.regD (by kernel_rfl) #[0, 1, 0, 0, 15, 31, 63, 0, 128, 511, 1023] [(0, false), (2, false), (3, false), (7, false), (8, false), (1, true), (4, true), (5, false), (6, false), (9, false), (10, false)] (by kernel_rfl) ?_
 intro K wD1 hK hwD1
 have M := M.drew hwD1
 refine go 3 ?_
 refine x_call rfl rfl rfl rfl rfl en27 (rused_c (hF.at_ M (fun y hy => by simp [hy])) (by omega) (by omega)) ?_
 rintro r_ w1 ⟨rfl, hn1⟩
 have M := M.new hn1
 refine pnd ?_
 refine x_call rfl rfl rfl rfl rfl en118 (rdata_x (X := _ :: _ :: X) M hF (by omega) hT hp) ?_
 rintro r_ w2 ⟨pd, cd, rfl, hd2, hn2⟩
 have M := M.new hn2
 refine pnd ?_
 refine go 1 ?_
 refine x_sub _ rfl rfl rfl rfl rfl (wsub (by omega) (by omega)) ?_
 refine x_add _ rfl rfl rfl rfl rfl (wadd (by omega) (by omega)) ?_
 refine cnd 1 ?_ ?_
 ·intro hco1
  have hPS : putS l p b = (l, 7) := by unfold putS; rw [file_of hT hp, if_pos (by omega)]
  refine go 2 ?_
  intro _ M
  refine go 1 ?_
  rw [hPS]
  exact ⟨_, _, [], rfl, by rw [List.append_nil]; exact hF, by rw [List.append_nil]; exact M.tail.tail⟩
 ·intro hco1
  have hPS := putL_putS (b := b) hT hp hbl (by omega)
  refine go 1 ?_
  refine x_call rfl rfl rfl rfl rfl en86 (rput_x (X := _ :: _ :: X) M hF (by omega) (fun y hy => by have := (hT.row hy).2.2.1; omega) (by omega) hb) ?_
  rintro r_ w3 ⟨u', L', rfl, hF', M⟩
  rw [hPS] at hF'
  rw [hPS]
  obtain ⟨pu', cu', rfl⟩ := (hF'.at_ M (fun y hy => mR hy)).shape
  refine ⟨trivial, ?_⟩
  refine go 1 ?_
  intro _ _ M
  refine go 1 ?_
  intro _ M
  refine go 4 ?_
  intro _ M
  refine go 1 ?_
  exact ⟨_, _, L', rfl, hF', M.tail.tail.tail⟩

end Go.Proofs.YtigfbpbnohkokaaGreat

namespace Go.Proofs.YtigfbpbnohkokaaGreat
open Go Go.Fw Go.RowKit Go.Proofs
set_option linter.unusedVariables false
set_option linter.unusedSimpArgs false
set_option maxRecDepth 100000
set_option maxHeartbeats 4000000

-- (valise/valiseref19.FS).read
theorem fread_c {w00 w0 : World} {X L : List (Nat × Obj)} {u : Value} {ph : Option Addr} {nh ch : Nat} {l : List Raw} {x : Opn} {o : OpS} {dv : Value} {d : List UInt8} (M : Sep w00 (X ++ L) w0) (hF : FilesK w00 L u l) (hl : l.length ≤ 128) (hT : TreeL l) (hus : usedL l ≤ 262144) (hp : (x.2.2.1, false, d) ∈ l) (hdv : dv.oneCell' = true) : Ret Tryz.prog 87 #[.agg #[u, .slice ph nh ch], .agg (oR x).toArray, .agg (opC o dv).toArray] w0 fun r w' => ∃ L', RsK w00 (L ++ L') r (readS l x.2.2.1 o) ∧ Sep w00 (X ++ (L ++ L')) w' := by
 obtain ⟨pu, cu, rfl⟩ := (hF.at_ M (fun y hy => mR hy)).shape
 have hdl := (hT.row hp).2.2.2.1
 simp only at hdl
 have hfo := file_of hT hp
 refine Ret.of_W Tryz.func87 rfl Tryz.ntmps87 rfl ?_
 refine go 1 ?_
 intro _ _ M
 refine go 1 ?_
 intro _ _ M
 refine go 1 ?_
 intro _ _ M
 refine go 1 ?_
 intro _ _ M
 refine spl 2 11 ?_ ?_
 ·intro hsp1
  refine go 0 ?_
  refine x_call rfl rfl rfl rfl rfl en50 (rbad_c) ?_
  rintro r_ wcall1 ⟨rfl, hncall1⟩
  have M := M.new hncall1
  refine ⟨trivial, ?_⟩
  refine go 1 ?_
  intro _ M
  refine go 1 ?_
  have hrs : readS l x.2.2.1 o = badS 2 := by unfold readS; rw [if_pos (.inl hsp1)]
  exact ⟨[], by rw [List.append_nil, hrs]; exact RsK.bad, by rw [List.append_nil]; exact M.tail.tail.tail.tail⟩
 ·intro hsp1
  refine cnd 2 ?_ ?_
  ·intro hco2
   refine go 0 ?_
   refine x_call rfl rfl rfl rfl rfl en50 (rbad_c) ?_
   rintro r_ wcall2 ⟨rfl, hncall2⟩
   have M := M.new hncall2
   refine ⟨trivial, ?_⟩
   refine go 1 ?_
   intro _ M
   refine go 1 ?_
   have hrs : readS l x.2.2.1 o = badS 2 := by unfold readS; rw [if_pos (.inr hco2)]
   exact ⟨[], by rw [List.append_nil, hrs]; exact RsK.bad, by rw [List.append_nil]; exact M.tail.tail.tail.tail⟩
  ·intro hco2
   have hrs : readS l x.2.2.1 o = ⟨0, 0, 0, (d.drop o.a.toNat).take o.n.toNat, []⟩ := by unfold readS; rw [if_neg (by omega), hfo]
   refine go 2 ?_
   refine x_call rfl rfl rfl rfl rfl en118 (rdata_x (X := _ :: _ :: _ :: _ :: X) M hF (by omega) hT hp) ?_
   rintro r_ w3 ⟨pd, cd, rfl, hd3, hn3⟩
   have M := M.new hn3
   refine ⟨trivial, ?_⟩
   refine cnd 3 ?_ ?_
   ·intro hco3
    refine go 2 ?_
    intro _ M
    refine go 1 ?_
    rw [show (d.drop o.a.toNat).take o.n.toNat = [] by rw [List.drop_of_length_le (by omega), List.take_nil]] at hrs
    exact ⟨[], by rw [List.append_nil, hrs]; exact ⟨none, 0, none, 0, rfl, nilS (by decide), nilS (by decide)⟩, by rw [List.append_nil]; exact M.tail.tail.tail.tail⟩
   ·intro hco3
    have hba := hd3 _ _ M (fun y hy => by simp [hy])
    have hw1 := Sg.drop hba (j := o.a.toNat) (by omega)
    have hcap := Sg.capLe hba
    refine go 1 ?_
    refine x_sll o.a.toNat rfl rfl rfl Tryz.underlying27 sz5 rfl rfl (by omega) (by omega) ?_
    refine go 0 ?_
    refine x_bs0 rfl rfl rfl Tryz.underlying27 sz5 ?_
    intro bb wb hbb hwb
    have M := M.acons hbb hwb
    refine ⟨trivial, ?_⟩
    refine go 2 ?_
    refine x_min ((min o.n.toNat (d.length - o.a.toNat) : Nat) : Int) rfl rfl rfl rfl rfl (by split <;> omega) ?_
    refine x_slh (min o.n.toNat (d.length - o.a.toNat)) rfl rfl rfl Tryz.underlying27 sz5 rfl rfl rfl (by omega) ?_
    have hba := hd3 _ _ M (fun y hy => by simp [hy])
    have hwant := Sg.take (Sg.drop hba (j := o.a.toNat) (by omega)) (j := (min o.n.toNat (d.length - o.a.toNat))) (by omega)
    have hwant : BytesAt wb _ ((d.drop o.a.toNat).take (min o.n.toNat (d.length - o.a.toNat))) := bytes_sub2 hwant
    have hwl : ((d.drop o.a.toNat).take (min o.n.toNat (d.length - o.a.toNat))).length = min o.n.toNat (d.length - o.a.toNat) := by rw [List.length_take, List.length_drop]; omega
    have hww : (d.drop o.a.toNat).take (min o.n.toNat (d.length - o.a.toNat)) = (d.drop o.a.toNat).take o.n.toNat := by
     rcases Nat.le_total o.n.toNat (d.length - o.a.toNat) with hle | hle
     ·rw [Nat.min_eq_left hle]
     ·rw [Nat.min_eq_right hle, List.take_of_length_le (by rw [List.length_drop]; exact Nat.le_refl _), List.take_of_length_le (by rw [List.length_drop]; exact hle)]
    unfold BytesAt at hwant
    rw [hwl] at hwant
    refine x_apL (L := [_]) (cs := []) (nn := 0) rfl rfl rfl rfl Tryz.underlying27 sz5 ze5 rfl by5 rfl rfl (.inr ⟨bb, 0, [], _, rfl, rfl, rfl, rfl⟩) M (by simp) (hwant.src Tryz.underlying27 (byteCs_one _)) (by omega) (by decide) (by omega) ?_
    intro Lo v6 w6 how M
    rw [Nat.zero_add, List.nil_append] at how
    have how : BytesO Lo v6 ((d.drop o.a.toNat).take (min o.n.toNat (d.length - o.a.toNat))) := by unfold BytesO; rw [hwl]; exact how
    rw [hww] at how
    obtain ⟨p6, c6, rfl⟩ := how.shape
    have M : Sep w00 ((_ :: _ :: _ :: _ :: X) ++ (L ++ Lo)) w6 := St.lay M
    refine ⟨trivial, ?_⟩
    refine go 2 ?_
    intro _ M
    refine go 1 ?_
    exact ⟨Lo, by rw [hrs]; exact ⟨_, _, _, _, rfl, SgK.own how (by decide) (fun y hy => mR hy), nilS (by decide)⟩, M.tail.tail.tail.tail⟩

end Go.Proofs.YtigfbpbnohkokaaGreat

namespace Go.Proofs.YtigfbpbnohkokaaGreat
open Go Go.Fw Go.RowKit Go.Proofs
set_option linter.unusedVariables false
set_option linter.unusedSimpArgs false
set_option maxRecDepth 100000
set_option maxHeartbeats 4000000

-- (valise/valiseref19.FS).write
theorem fwrite_c {w00 w0 : World} {X L : List (Nat × Obj)} {u : Value} {ph : Option Addr} {nh ch : Nat} {l : List Raw} {x : Opn} {o : OpS} {dv : Value} {d : List UInt8} (M : Sep w00 (X ++ L) w0) (hF : FilesK w00 L u l) (hl : l.length ≤ 128) (hT : TreeL l) (hus : usedL l ≤ 262144) (hp : (x.2.2.1, false, d) ∈ l) (hdv : BytesK w00 L dv o.d) (hod : o.d.length ≤ 131072) : Ret Tryz.prog 88 #[.agg #[u, .slice ph nh ch], .agg (oR x).toArray, .agg (opC o dv).toArray] w0 fun r w' => ∃ pu' cu' L' rv, r = .tuple #[.agg #[.slice pu' (writeS l x.2.2.1 x.2.2.2 o).2.length cu', .slice ph nh ch], rv] ∧ RsK w00 (L ++ L') rv (writeS l x.2.2.1 x.2.2.2 o).1 ∧ FilesK w00 (L ++ L') (.slice pu' (writeS l x.2.2.1 x.2.2.2 o).2.length cu') (writeS l x.2.2.1 x.2.2.2 o).2 ∧ Sep w00 (X ++ (L ++ L')) w' := by
 obtain ⟨pu, cu, rfl⟩ := (hF.at_ M (fun y hy => mR hy)).shape
 obtain ⟨pdv, cdv, rfl⟩ := (hdv _ _ M (fun y hy => mR hy)).shape
 have hdl := (hT.row hp).2.2.2.1
 simp only at hdl
 have hfo := file_of hT hp
 refine Ret.of_W Tryz.func88 rfl Tryz.ntmps88 rfl ?_
 refine go 1 ?_
 intro bbx1 _ M
 refine go 1 ?_
 intro bbx2 _ M
 refine go 1 ?_
 intro bbx3 _ M
 refine go 1 ?_
 intro bal1 _ M
 refine go 1 ?_
 intro bal2 _ M
 refine spl 2 16 ?_ ?_
 ·intro hsp1
  refine go 0 ?_
  refine W.regD (by kernel_rfl) #[0, 0, 3, 7] [(0, false), (1, true), (2, true), (3, true)] (by kernel_rfl) ?_
  intro K wD1 hK hwD1
  have M := M.drew hwD1
  refine go 1 ?_
  refine x_call rfl rfl rfl rfl rfl en50 (rbad_c) ?_
  rintro r_ wcall1 ⟨rfl, hncall1⟩
  have M := M.new hncall1
  refine pnd ?_
  refine x_st [_, _] _ rfl rfl rfl sz70 rfl rfl rfl rfl (by first | exact M.at_ 0 rfl | exact M.at_ 1 rfl | exact M.at_ 2 rfl | exact M.at_ 3 rfl | exact M.at_ 4 rfl | exact M.at_ 5 rfl | exact M.at_ 6 rfl | exact M.at_ 7 rfl) rfl rfl rfl ?_
  intro wst1 hwst1
  have M := by first | exact M.put 0 rfl hwst1 | exact M.put 1 rfl hwst1 | exact M.put 2 rfl hwst1 | exact M.put 3 rfl hwst1 | exact M.put 4 rfl hwst1 | exact M.put 5 rfl hwst1 | exact M.put 6 rfl hwst1 | exact M.put 7 rfl hwst1
  refine pnd ?_
  refine x_st [_, _, _, _, _] _ rfl rfl rfl sz49 rfl rfl rfl rfl (by first | exact M.at_ 0 rfl | exact M.at_ 1 rfl | exact M.at_ 2 rfl | exact M.at_ 3 rfl | exact M.at_ 4 rfl | exact M.at_ 5 rfl | exact M.at_ 6 rfl | exact M.at_ 7 rfl) rfl rfl rfl ?_
  intro wst2 hwst2
  have M := by first | exact M.put 0 rfl hwst2 | exact M.put 1 rfl hwst2 | exact M.put 2 rfl hwst2 | exact M.put 3 rfl hwst2 | exact M.put 4 rfl hwst2 | exact M.put 5 rfl hwst2 | exact M.put 6 rfl hwst2 | exact M.put 7 rfl hwst2
  refine pnd ?_
  refine go 1 ?_
  have hW : writeS l x.2.2.1 x.2.2.2 o = (badS 2, l) := by unfold writeS; rw [if_pos (.inl hsp1)]
  rw [hW]
  exact ⟨_, _, [], _, rfl, by rw [List.append_nil]; exact RsK.bad, by rw [List.append_nil]; exact hF, by rw [List.append_nil]; exact M.tail.tail.tail.tail.tail⟩
 ·intro hsp1
  refine cnd 2 ?_ ?_
  ·intro hco2
   refine go 0 ?_
   refine W.regD (by kernel_rfl) #[0, 0, 3, 7] [(0, false), (1, true), (2, true), (3, true)] (by kernel_rfl) ?_
   intro K wD2 hK hwD2
   have M := M.drew hwD2
   refine go 1 ?_
   refine x_call rfl rfl rfl rfl rfl en50 (rbad_c) ?_
   rintro r_ wcall2 ⟨rfl, hncall2⟩
   have M := M.new hncall2
   refine pnd ?_
   refine x_st [_, _] _ rfl rfl rfl sz70 rfl rfl rfl rfl (by first | exact M.at_ 0 rfl | exact M.at_ 1 rfl | exact M.at_ 2 rfl | exact M.at_ 3 rfl | exact M.at_ 4 rfl | exact M.at_ 5 rfl | exact M.at_ 6 rfl | exact M.at_ 7 rfl) rfl rfl rfl ?_
   intro wst3 hwst3
   have M := by first | exact M.put 0 rfl hwst3 | exact M.put 1 rfl hwst3 | exact M.put 2 rfl hwst3 | exact M.put 3 rfl hwst3 | exact M.put 4 rfl hwst3 | exact M.put 5 rfl hwst3 | exact M.put 6 rfl hwst3 | exact M.put 7 rfl hwst3
   refine pnd ?_
   refine x_st [_, _, _, _, _] _ rfl rfl rfl sz49 rfl rfl rfl rfl (by first | exact M.at_ 0 rfl | exact M.at_ 1 rfl | exact M.at_ 2 rfl | exact M.at_ 3 rfl | exact M.at_ 4 rfl | exact M.at_ 5 rfl | exact M.at_ 6 rfl | exact M.at_ 7 rfl) rfl rfl rfl ?_
   intro wst4 hwst4
   have M := by first | exact M.put 0 rfl hwst4 | exact M.put 1 rfl hwst4 | exact M.put 2 rfl hwst4 | exact M.put 3 rfl hwst4 | exact M.put 4 rfl hwst4 | exact M.put 5 rfl hwst4 | exact M.put 6 rfl hwst4 | exact M.put 7 rfl hwst4
   refine pnd ?_
   refine go 1 ?_
   have hW : writeS l x.2.2.1 x.2.2.2 o = (badS 2, l) := by unfold writeS; rw [if_pos (.inr hco2)]
   rw [hW]
   exact ⟨_, _, [], _, rfl, by rw [List.append_nil]; exact RsK.bad, by rw [List.append_nil]; exact hF, by rw [List.append_nil]; exact M.tail.tail.tail.tail.tail⟩
  ·intro hco2
   have hn1 : ¬ (x.2.2.2 = false ∨ o.a < 0) := by
    rintro (h | h)
    ·rw [hsp1] at h; cases h
    ·omega
   refine cnd 3 ?_ ?_
   ·intro hco3
    refine go 3 ?_
    intro _ M
    refine go 1 ?_
    intro _ M
    refine go 1 ?_
    have hW : writeS l x.2.2.1 x.2.2.2 o = (badS 0, l) := by unfold writeS; rw [if_neg hn1, if_pos (List.length_eq_zero_iff.1 (by omega))]
    rw [hW]
    exact ⟨_, _, [], _, rfl, by rw [List.append_nil]; exact RsK.bad, by rw [List.append_nil]; exact hF, by rw [List.append_nil]; exact M.tail.tail.tail.tail.tail⟩
   ·intro hco3
    have hn2 : ¬ o.d = [] := by intro e; rw [e] at hco3; exact hco3 rfl
    refine spl 3 33 ?_ ?_
    ·intro hsp2
     refine go 0 ?_
     refine W.regD (by kernel_rfl) #[0, 0, 3, 7] [(0, false), (1, true), (2, true), (3, true)] (by kernel_rfl) ?_
     intro K wD3 hK hwD3
     have M := M.drew hwD3
     refine go 1 ?_
     refine x_call rfl rfl rfl rfl rfl en50 (rbad_c) ?_
     rintro r_ wcall3 ⟨rfl, hncall3⟩
     have M := M.new hncall3
     refine pnd ?_
     refine x_st [_, _] _ rfl rfl rfl sz70 rfl rfl rfl rfl (by first | exact M.at_ 0 rfl | exact M.at_ 1 rfl | exact M.at_ 2 rfl | exact M.at_ 3 rfl | exact M.at_ 4 rfl | exact M.at_ 5 rfl | exact M.at_ 6 rfl | exact M.at_ 7 rfl) rfl rfl rfl ?_
     intro wst7 hwst7
     have M := by first | exact M.put 0 rfl hwst7 | exact M.put 1 rfl hwst7 | exact M.put 2 rfl hwst7 | exact M.put 3 rfl hwst7 | exact M.put 4 rfl hwst7 | exact M.put 5 rfl hwst7 | exact M.put 6 rfl hwst7 | exact M.put 7 rfl hwst7
     refine pnd ?_
     refine x_st [_, _, _, _, _] _ rfl rfl rfl sz49 rfl rfl rfl rfl (by first | exact M.at_ 0 rfl | exact M.at_ 1 rfl | exact M.at_ 2 rfl | exact M.at_ 3 rfl | exact M.at_ 4 rfl | exact M.at_ 5 rfl | exact M.at_ 6 rfl | exact M.at_ 7 rfl) rfl rfl rfl ?_
     intro wst8 hwst8
     have M := by first | exact M.put 0 rfl hwst8 | exact M.put 1 rfl hwst8 | exact M.put 2 rfl hwst8 | exact M.put 3 rfl hwst8 | exact M.put 4 rfl hwst8 | exact M.put 5 rfl hwst8 | exact M.put 6 rfl hwst8 | exact M.put 7 rfl hwst8
     refine pnd ?_
     refine go 1 ?_
     have hW : writeS l x.2.2.1 x.2.2.2 o = (badS 3, l) := by unfold writeS; rw [if_neg hn1, if_neg hn2, if_pos (.inl (by omega))]
     rw [hW]
     exact ⟨_, _, [], _, rfl, by rw [List.append_nil]; exact RsK.bad, by rw [List.append_nil]; exact hF, by rw [List.append_nil]; exact M.tail.tail.tail.tail.tail⟩
    ·intro hsp2
     refine go 3 ?_
     refine x_sub _ rfl rfl rfl rfl rfl (wsub (by omega) (by omega)) ?_
     refine cnd 1 ?_ ?_
     ·intro hco5
      refine go 0 ?_
      refine W.regD (by kernel_rfl) #[0, 0, 3, 7] [(0, false), (1, true), (2, true), (3, true)] (by kernel_rfl) ?_
      intro K wD4 hK hwD4
      have M := M.drew hwD4
      refine go 1 ?_
      refine x_call rfl rfl rfl rfl rfl en50 (rbad_c) ?_
      rintro r_ wcall4 ⟨rfl, hncall4⟩
      have M := M.new hncall4
      refine pnd ?_
      refine x_st [_, _] _ rfl rfl rfl sz70 rfl rfl rfl rfl (by first | exact M.at_ 0 rfl | exact M.at_ 1 rfl | exact M.at_ 2 rfl | exact M.at_ 3 rfl | exact M.at_ 4 rfl | exact M.at_ 5 rfl | exact M.at_ 6 rfl | exact M.at_ 7 rfl) rfl rfl rfl ?_
      intro wst9 hwst9
      have M := by first | exact M.put 0 rfl hwst9 | exact M.put 1 rfl hwst9 | exact M.put 2 rfl hwst9 | exact M.put 3 rfl hwst9 | exact M.put 4 rfl hwst9 | exact M.put 5 rfl hwst9 | exact M.put 6 rfl hwst9 | exact M.put 7 rfl hwst9
      refine pnd ?_
      refine x_st [_, _, _, _, _] _ rfl rfl rfl sz49 rfl rfl rfl rfl (by first | exact M.at_ 0 rfl | exact M.at_ 1 rfl | exact M.at_ 2 rfl | exact M.at_ 3 rfl | exact M.at_ 4 rfl | exact M.at_ 5 rfl | exact M.at_ 6 rfl | exact M.at_ 7 rfl) rfl rfl rfl ?_
      intro wst10 hwst10
      have M := by first | exact M.put 0 rfl hwst10 | exact M.put 1 rfl hwst10 | exact M.put 2 rfl hwst10 | exact M.put 3 rfl hwst10 | exact M.put 4 rfl hwst10 | exact M.put 5 rfl hwst10 | exact M.put 6 rfl hwst10 | exact M.put 7 rfl hwst10
      refine pnd ?_
      refine go 1 ?_
      have hW : writeS l x.2.2.1 x.2.2.2 o = (badS 3, l) := by unfold writeS; rw [if_neg hn1, if_neg hn2, if_pos (.inr (by omega))]
      rw [hW]
      exact ⟨_, _, [], _, rfl, by rw [List.append_nil]; exact RsK.bad, by rw [List.append_nil]; exact hF, by rw [List.append_nil]; exact M.tail.tail.tail.tail.tail⟩
     ·intro hco5
      have hn3 : ¬ (65536 < o.d.length ∨ 65536 - (o.d.length : Int) < o.a) := by omega
      have hW : writeS l x.2.2.1 x.2.2.2 o = sizeS l x.2.2.1 (writeB d o.d o.a.toNat) ⟨0, 0, o.d.length, [], []⟩ := by unfold writeS; rw [if_neg hn1, if_neg hn2, if_neg hn3, hfo]
      have hwl := writeB_len (b := d) (d := o.d) (a := o.a.toNat)
      refine go 2 ?_
      refine x_call rfl rfl rfl rfl rfl en118 (rdata_x (X := _ :: _ :: _ :: _ :: _ :: X) M hF (by omega) hT hp) ?_
      rintro r_ w5 ⟨pd, cd, rfl, hd5, hn5⟩
      have M := M.new hn5
      refine ⟨trivial, ?_⟩
      refine go 4 ?_
      refine x_add ((o.a.toNat + o.d.length : Nat) : Int) rfl rfl rfl rfl rfl (by rw [wadd (by omega) (by omega)]; omega) ?_
      refine x_max ((max d.length (o.a.toNat + o.d.length) : Nat) : Int) rfl rfl rfl rfl rfl (by split <;> omega) ?_
      refine x_call rfl rfl rfl rfl rfl en119 (rsized_c (hd5 _ _ M (fun y hy => by simp [hy])) (by omega) (by omega)) ?_
      rintro r_ w6 ⟨Lo, ho, M6⟩
      have M := M.grow' M6
      unfold BytesO at ho
      rw [sizedB_len] at ho
      obtain ⟨ps, cs, rfl⟩ := ho.shape
      refine ⟨trivial, ?_⟩
      refine go 0 ?_
      refine W.loop (σ := Nat × List (Nat × Obj)) (fun q => [(3, _), (4, _), (5, _), (6, _), (7, _), (9, _), (10, .int .i64 ((q.1 : Nat) : Int))]) (fun q w => q.1 ≤ o.d.length ∧ OwL q.2 (.slice ps (max d.length (o.a.toNat + o.d.length)) cs) 1 (max d.length (o.a.toNat + o.d.length)) (byteCs (overB (sizedB d (max d.length (o.a.toNat + o.d.length))) (o.d.take q.1) o.a.toNat)) ∧ Sep w00 (q.2 ++ ((bal2, .cells [.int .i64 0, .int .i64 0, .int .i64 0, .slice none 0 0, .slice none 0 0].toArray 49 (0, 0)) :: (bal1, .cells [.slice none 0 0, .slice none 0 0].toArray 70 (0, 0)) :: (bbx3, .cells (opC o (.slice pdv o.d.length cdv)).toArray 52 (0, 0)) :: (bbx2, .cells (oR x).toArray 123 (0, 0)) :: (bbx1, .cells [.slice pu l.length cu, .slice ph nh ch].toArray 70 (0, 0)) :: (X ++ L))) w) (fun q => o.d.length - q.1) (0, Lo) ⟨rfl, rfl, rfl, rfl, rfl, rfl, rfl, trivial⟩ ⟨Nat.zero_le _, by simp only; rw [over_zero]; exact ho, M⟩ ?_
      rintro ⟨q, Lo⟩ w ⟨hq, ho, M⟩
      simp only at hq ho M
      refine go 0 ?_
      refine x_ld rfl rfl rfl Tryz.underlying27 rfl rfl (cell_of (M.get (b := bbx3) (o := (bbx3, .cells (opC o (.slice pdv o.d.length cdv)).toArray 52 (0, 0)).2) (by simp)) rfl) ?_
      refine cnd 2 ?_ ?_
      ·intro hco6
       obtain ⟨c, hc⟩ := get_lt (l := o.d) (q := q) (by omega)
       obtain ⟨blk, cap, rest, T, hv, rfl, hset⟩ := bytes_set (j := o.a.toNat + q) (c := c) ho (by rw [overB_len (by rw [List.length_take, sizedB_len]; omega), sizedB_len]; omega)
       cases hv
       rw [← over_step hc (by rw [sizedB_len]; omega)] at hset
       have hdw := hdv _ _ M (fun y hy => by simp [hy])
       obtain ⟨bd, od, rfl, _⟩ := Sg.blk hdw (j := q) (by omega)
       refine go 0 ?_
       refine W.regD (by kernel_rfl) #[0, 0, 2, 0, 14, 0, 32, 0, 224, 480, 1023, 2047] [(0, false), (1, false), (2, false), (3, false), (4, false), (5, false), (6, false), (7, false), (8, false), (9, false), (10, false), (11, true)] (by kernel_rfl) ?_
       intro K wD5 hK hwD5
       have M := M.drew hwD5
       refine go 0 ?_
       refine x_ld rfl rfl rfl Tryz.underlying3 rfl rfl (cell_of (M.get (b := bbx3) (o := (bbx3, .cells (opC o (.slice (some ⟨bd, od, none⟩) o.d.length cdv)).toArray 52 (0, 0)).2) (by simp)) rfl) ?_
       refine go 0 ?_
       refine x_add ((o.a.toNat + q : Nat) : Int) rfl rfl rfl rfl rfl (by simp only; rw [wadd (by omega) (by omega)]; omega) ?_
       refine go 0 ?_
       refine x_ld rfl rfl rfl Tryz.underlying27 rfl rfl (cell_of (M.get (b := bbx3) (o := (bbx3, .cells (opC o (.slice (some ⟨bd, od, none⟩) o.d.length cdv)).toArray 52 (0, 0)).2) (by simp)) rfl) ?_
       refine go 0 ?_
       refine x_ia q rfl rfl rfl Tryz.underlying27 sz5 rfl rfl rfl (by omega) ?_
       refine x_ld rfl rfl rfl Tryz.underlying5 rfl rfl (Sl.cell1 ((hdv _ _ M (fun y hy => by simp [hy])).sl (by omega)) (byteCs_get hc)) ?_
       refine x_ia (o.a.toNat + q) rfl rfl rfl Tryz.underlying27 sz5 rfl rfl rfl (by omega) ?_
       refine x_st [_] _ rfl rfl rfl sz5 rfl rfl rfl rfl (M.at_ 0 rfl) rfl (Nat.ble_eq_true_of_le (by rw [List.length_append, byteCs_len, overB_len (by rw [List.length_take, sizedB_len]; omega), sizedB_len]; simp only [List.length_cons, List.length_nil]; omega)) rfl ?_
       intro wst11 hwst11
       have M := M.put 0 rfl hwst11
       refine pnd ?_
       refine go 0 ?_
       refine x_add _ rfl rfl rfl rfl rfl (wadd (by omega) (by omega)) ?_
       refine go 0 ?_
       exact At.back ((q + 1, _)) ⟨rfl, rfl, rfl, rfl, rfl, rfl, rfl, trivial⟩ ⟨by simp only; omega, hset, M⟩ (by first | omega | (simp only; omega) | (simp; done) | (simp; omega))
      ·intro hco6
       have hq2 : q = o.d.length := by omega
       rw [hq2, List.take_length] at ho
       have hoB : BytesO Lo (.slice ps (max d.length (o.a.toNat + o.d.length)) cs) (writeB d o.d o.a.toNat) := by unfold BytesO; rw [hwl]; exact ho
       have M : Sep w00 ((_ :: _ :: _ :: _ :: _ :: X) ++ (L ++ Lo)) _ := St.lay M
       have hF2 := hF.mono (L' := L ++ Lo) (fun y hy => mL hy)
       refine go 2 ?_
       refine x_call rfl rfl rfl rfl rfl en120 (fput_c (X := _ :: _ :: _ :: _ :: _ :: X) (L := L ++ Lo) M hF2 hl hT hus hp (SgK.own hoB (by decide) (fun y hy => mR hy)) (by omega)) ?_
       rintro r_ w7 ⟨pu', cu', L7, rfl, hF7, M⟩
       have hPS : putS l x.2.2.1 (writeB d o.d o.a.toNat) = if 262144 + d.length < usedL l + (writeB d o.d o.a.toNat).length then (l, 7) else (setD l x.2.2.1 (writeB d o.d o.a.toNat), 0) := by unfold putS; rw [hfo]
       unfold sizeS at hW
       rw [hfo] at hW
       refine ⟨trivial, ?_⟩
       refine go 1 ?_
       intro _ _ M
       refine go 1 ?_
       intro _ M
       refine cnd 1 ?_ ?_
       ·intro hco7
        have hq7 : 262144 + d.length < usedL l + (writeB d o.d o.a.toNat).length := by
         rw [hPS] at hco7
         split at hco7
         ·assumption
         ·exact absurd rfl hco7
        rw [if_pos hq7] at hPS hW
        rw [hPS]
        rw [hPS] at M hF7
        refine go 0 ?_
        refine W.regD (by kernel_rfl) #[0, 0, 2, 7, 15] [(0, false), (1, false), (2, true), (3, true), (4, true)] (by kernel_rfl) ?_
        intro K wD6 hK hwD6
        have M := M.drew hwD6
        refine go 1 ?_
        refine x_call rfl rfl rfl rfl rfl en50 (rbad_c) ?_
        rintro r_ wcall8 ⟨rfl, hncall8⟩
        have M := M.new hncall8
        refine pnd ?_
        refine x_st [_, _] _ rfl rfl rfl sz70 rfl rfl rfl rfl (by first | exact M.at_ 0 rfl | exact M.at_ 1 rfl | exact M.at_ 2 rfl | exact M.at_ 3 rfl | exact M.at_ 4 rfl | exact M.at_ 5 rfl | exact M.at_ 6 rfl | exact M.at_ 7 rfl) rfl rfl rfl ?_
        intro wst13 hwst13
        have M := by first | exact M.put 0 rfl hwst13 | exact M.put 1 rfl hwst13 | exact M.put 2 rfl hwst13 | exact M.put 3 rfl hwst13 | exact M.put 4 rfl hwst13 | exact M.put 5 rfl hwst13 | exact M.put 6 rfl hwst13 | exact M.put 7 rfl hwst13
        refine pnd ?_
        refine x_st [_, _, _, _, _] _ rfl rfl rfl sz49 rfl rfl rfl rfl (by first | exact M.at_ 0 rfl | exact M.at_ 1 rfl | exact M.at_ 2 rfl | exact M.at_ 3 rfl | exact M.at_ 4 rfl | exact M.at_ 5 rfl | exact M.at_ 6 rfl | exact M.at_ 7 rfl) rfl rfl rfl ?_
        intro wst14 hwst14
        have M := by first | exact M.put 0 rfl hwst14 | exact M.put 1 rfl hwst14 | exact M.put 2 rfl hwst14 | exact M.put 3 rfl hwst14 | exact M.put 4 rfl hwst14 | exact M.put 5 rfl hwst14 | exact M.put 6 rfl hwst14 | exact M.put 7 rfl hwst14
        refine pnd ?_
        refine go 1 ?_
        rw [hW]
        rw [List.append_assoc] at M
        exact ⟨_, _, Lo ++ L7, _, rfl, RsK.bad, hF.mono (fun y hy => mL hy), M.tail.tail.tail.tail.tail.tail⟩
       ·intro hco7
        have hq7 : ¬ 262144 + d.length < usedL l + (writeB d o.d o.a.toNat).length := by
         intro h
         rw [hPS, if_pos h] at hco7
         exact absurd hco7 (show ¬ (7 : Int) = 0 by decide)
        rw [if_neg hq7] at hPS hW
        rw [hPS]
        rw [hPS] at M hF7
        refine go 0 ?_
        refine W.regD (by kernel_rfl) #[0, 0, 2, 6, 14, 1, 63] [(0, false), (1, false), (2, false), (3, false), (4, false), (5, true), (6, true)] (by kernel_rfl) ?_
        intro K wD7 hK hwD7
        have M := M.drew hwD7
        refine go 4 ?_
        refine x_st [_, _] _ rfl rfl rfl sz70 rfl rfl rfl rfl (by first | exact M.at_ 0 rfl | exact M.at_ 1 rfl | exact M.at_ 2 rfl | exact M.at_ 3 rfl | exact M.at_ 4 rfl | exact M.at_ 5 rfl | exact M.at_ 6 rfl | exact M.at_ 7 rfl) rfl rfl rfl ?_
        intro wst15 hwst15
        have M := by first | exact M.put 0 rfl hwst15 | exact M.put 1 rfl hwst15 | exact M.put 2 rfl hwst15 | exact M.put 3 rfl hwst15 | exact M.put 4 rfl hwst15 | exact M.put 5 rfl hwst15 | exact M.put 6 rfl hwst15 | exact M.put 7 rfl hwst15
        refine pnd ?_
        refine x_st [_, _, _, _, _] _ rfl rfl rfl sz49 rfl rfl rfl rfl (by first | exact M.at_ 0 rfl | exact M.at_ 1 rfl | exact M.at_ 2 rfl | exact M.at_ 3 rfl | exact M.at_ 4 rfl | exact M.at_ 5 rfl | exact M.at_ 6 rfl | exact M.at_ 7 rfl) rfl rfl rfl ?_
        intro wst16 hwst16
        have M := by first | exact M.put 0 rfl hwst16 | exact M.put 1 rfl hwst16 | exact M.put 2 rfl hwst16 | exact M.put 3 rfl hwst16 | exact M.put 4 rfl hwst16 | exact M.put 5 rfl hwst16 | exact M.put 6 rfl hwst16 | exact M.put 7 rfl hwst16
        refine pnd ?_
        refine go 1 ?_
        rw [hW]
        rw [List.append_assoc] at M hF7
        exact ⟨_, _, Lo ++ L7, _, rfl, ⟨none, 0, none, 0, rfl, nilS (by decide), nilS (by decide)⟩, hF7, M.tail.tail.tail.tail.tail.tail⟩

end Go.Proofs.YtigfbpbnohkokaaGreat

namespace Go.Proofs.YtigfbpbnohkokaaGreat
open Go Go.Fw Go.RowKit Go.Proofs
set_option linter.unusedVariables false
set_option linter.unusedSimpArgs false
set_option maxRecDepth 100000
set_option maxHeartbeats 4000000

-- (valise/valiseref19.FS).truncate
theorem ftrunc_c {w00 w0 : World} {X L : List (Nat × Obj)} {u : Value} {ph : Option Addr} {nh ch : Nat} {l : List Raw} {x : Opn} {o : OpS} {dv : Value} {d : List UInt8} (M : Sep w00 (X ++ L) w0) (hF : FilesK w00 L u l) (hl : l.length ≤ 128) (hT : TreeL l) (hus : usedL l ≤ 262144) (hp : (x.2.2.1, false, d) ∈ l) (hdv : dv.oneCell' = true) : Ret Tryz.prog 89 #[.agg #[u, .slice ph nh ch], .agg (oR x).toArray, .agg (opC o dv).toArray] w0 fun r w' => ∃ pu' cu' L' rv, r = .tuple #[.agg #[.slice pu' (truncS l x.2.2.1 x.2.2.2 o).2.length cu', .slice ph nh ch], rv] ∧ RsK w00 (L ++ L') rv (truncS l x.2.2.1 x.2.2.2 o).1 ∧ FilesK w00 (L ++ L') (.slice pu' (truncS l x.2.2.1 x.2.2.2 o).2.length cu') (truncS l x.2.2.1 x.2.2.2 o).2 ∧ Sep w00 (X ++ (L ++ L')) w' := by
 obtain ⟨pu, cu, rfl⟩ := (hF.at_ M (fun y hy => mR hy)).shape
 have hdl := (hT.row hp).2.2.2.1
 simp only at hdl
 have hfo := file_of hT hp
 refine Ret.of_W Tryz.func89 rfl Tryz.ntmps89 rfl ?_
 refine go 1 ?_
 intro bbx1 _ M
 refine go 1 ?_
 intro bbx2 _ M
 refine go 1 ?_
 intro bbx3 _ M
 refine go 1 ?_
 intro bal1 _ M
 refine go 1 ?_
 intro bal2 _ M
 refine spl 2 13 ?_ ?_
 ·intro hsp1
  refine go 0 ?_
  refine W.regD (by kernel_rfl) #[0, 0, 3, 7] [(0, false), (1, true), (2, true), (3, true)] (by kernel_rfl) ?_
  intro K wD1 hK hwD1
  have M := M.drew hwD1
  refine go 1 ?_
  refine x_call rfl rfl rfl rfl rfl en50 (rbad_c) ?_
  rintro r_ wcall1 ⟨rfl, hncall1⟩
  have M := M.new hncall1
  refine pnd ?_
  refine x_st [_, _] _ rfl rfl rfl sz70 rfl rfl rfl rfl (by first | exact M.at_ 0 rfl | exact M.at_ 1 rfl | exact M.at_ 2 rfl | exact M.at_ 3 rfl | exact M.at_ 4 rfl | exact M.at_ 5 rfl | exact M.at_ 6 rfl | exact M.at_ 7 rfl) rfl rfl rfl ?_
  intro wst1 hwst1
  have M := by first | exact M.put 0 rfl hwst1 | exact M.put 1 rfl hwst1 | exact M.put 2 rfl hwst1 | exact M.put 3 rfl hwst1 | exact M.put 4 rfl hwst1 | exact M.put 5 rfl hwst1 | exact M.put 6 rfl hwst1 | exact M.put 7 rfl hwst1
  refine pnd ?_
  refine x_st [_, _, _, _, _] _ rfl rfl rfl sz49 rfl rfl rfl rfl (by first | exact M.at_ 0 rfl | exact M.at_ 1 rfl | exact M.at_ 2 rfl | exact M.at_ 3 rfl | exact M.at_ 4 rfl | exact M.at_ 5 rfl | exact M.at_ 6 rfl | exact M.at_ 7 rfl) rfl rfl rfl ?_
  intro wst2 hwst2
  have M := by first | exact M.put 0 rfl hwst2 | exact M.put 1 rfl hwst2 | exact M.put 2 rfl hwst2 | exact M.put 3 rfl hwst2 | exact M.put 4 rfl hwst2 | exact M.put 5 rfl hwst2 | exact M.put 6 rfl hwst2 | exact M.put 7 rfl hwst2
  refine pnd ?_
  refine go 1 ?_
  have hW : truncS l x.2.2.1 x.2.2.2 o = (badS 2, l) := by unfold truncS; rw [if_pos (.inl hsp1)]
  rw [hW]
  exact ⟨_, _, [], _, rfl, by rw [List.append_nil]; exact RsK.bad, by rw [List.append_nil]; exact hF, by rw [List.append_nil]; exact M.tail.tail.tail.tail.tail⟩
 ·intro hsp1
  refine cnd 2 ?_ ?_
  ·intro hco2
   refine go 0 ?_
   refine W.regD (by kernel_rfl) #[0, 0, 3, 7] [(0, false), (1, true), (2, true), (3, true)] (by kernel_rfl) ?_
   intro K wD2 hK hwD2
   have M := M.drew hwD2
   refine go 1 ?_
   refine x_call rfl rfl rfl rfl rfl en50 (rbad_c) ?_
   rintro r_ wcall2 ⟨rfl, hncall2⟩
   have M := M.new hncall2
   refine pnd ?_
   refine x_st [_, _] _ rfl rfl rfl sz70 rfl rfl rfl rfl (by first | exact M.at_ 0 rfl | exact M.at_ 1 rfl | exact M.at_ 2 rfl | exact M.at_ 3 rfl | exact M.at_ 4 rfl | exact M.at_ 5 rfl | exact M.at_ 6 rfl | exact M.at_ 7 rfl) rfl rfl rfl ?_
   intro wst3 hwst3
   have M := by first | exact M.put 0 rfl hwst3 | exact M.put 1 rfl hwst3 | exact M.put 2 rfl hwst3 | exact M.put 3 rfl hwst3 | exact M.put 4 rfl hwst3 | exact M.put 5 rfl hwst3 | exact M.put 6 rfl hwst3 | exact M.put 7 rfl hwst3
   refine pnd ?_
   refine x_st [_, _, _, _, _] _ rfl rfl rfl sz49 rfl rfl rfl rfl (by first | exact M.at_ 0 rfl | exact M.at_ 1 rfl | exact M.at_ 2 rfl | exact M.at_ 3 rfl | exact M.at_ 4 rfl | exact M.at_ 5 rfl | exact M.at_ 6 rfl | exact M.at_ 7 rfl) rfl rfl rfl ?_
   intro wst4 hwst4
   have M := by first | exact M.put 0 rfl hwst4 | exact M.put 1 rfl hwst4 | exact M.put 2 rfl hwst4 | exact M.put 3 rfl hwst4 | exact M.put 4 rfl hwst4 | exact M.put 5 rfl hwst4 | exact M.put 6 rfl hwst4 | exact M.put 7 rfl hwst4
   refine pnd ?_
   refine go 1 ?_
   have hW : truncS l x.2.2.1 x.2.2.2 o = (badS 2, l) := by unfold truncS; rw [if_pos (.inr hco2)]
   rw [hW]
   exact ⟨_, _, [], _, rfl, by rw [List.append_nil]; exact RsK.bad, by rw [List.append_nil]; exact hF, by rw [List.append_nil]; exact M.tail.tail.tail.tail.tail⟩
  ·intro hco2
   have hn1 : ¬ (x.2.2.2 = false ∨ o.n < 0) := by
    rintro (h | h)
    ·rw [hsp1] at h; cases h
    ·omega
   refine cnd 2 ?_ ?_
   ·intro hco3
    refine go 0 ?_
    refine W.regD (by kernel_rfl) #[0, 0, 3, 7] [(0, false), (1, true), (2, true), (3, true)] (by kernel_rfl) ?_
    intro K wD3 hK hwD3
    have M := M.drew hwD3
    refine go 1 ?_
    refine x_call rfl rfl rfl rfl rfl en50 (rbad_c) ?_
    rintro r_ wcall3 ⟨rfl, hncall3⟩
    have M := M.new hncall3
    refine pnd ?_
    refine x_st [_, _] _ rfl rfl rfl sz70 rfl rfl rfl rfl (by first | exact M.at_ 0 rfl | exact M.at_ 1 rfl | exact M.at_ 2 rfl | exact M.at_ 3 rfl | exact M.at_ 4 rfl | exact M.at_ 5 rfl | exact M.at_ 6 rfl | exact M.at_ 7 rfl) rfl rfl rfl ?_
    intro wst5 hwst5
    have M := by first | exact M.put 0 rfl hwst5 | exact M.put 1 rfl hwst5 | exact M.put 2 rfl hwst5 | exact M.put 3 rfl hwst5 | exact M.put 4 rfl hwst5 | exact M.put 5 rfl hwst5 | exact M.put 6 rfl hwst5 | exact M.put 7 rfl hwst5
    refine pnd ?_
    refine x_st [_, _, _, _, _] _ rfl rfl rfl sz49 rfl rfl rfl rfl (by first | exact M.at_ 0 rfl | exact M.at_ 1 rfl | exact M.at_ 2 rfl | exact M.at_ 3 rfl | exact M.at_ 4 rfl | exact M.at_ 5 rfl | exact M.at_ 6 rfl | exact M.at_ 7 rfl) rfl rfl rfl ?_
    intro wst6 hwst6
    have M := by first | exact M.put 0 rfl hwst6 | exact M.put 1 rfl hwst6 | exact M.put 2 rfl hwst6 | exact M.put 3 rfl hwst6 | exact M.put 4 rfl hwst6 | exact M.put 5 rfl hwst6 | exact M.put 6 rfl hwst6 | exact M.put 7 rfl hwst6
    refine pnd ?_
    refine go 1 ?_
    have hW : truncS l x.2.2.1 x.2.2.2 o = (badS 3, l) := by unfold truncS; rw [if_neg hn1, if_pos (by omega)]
    rw [hW]
    exact ⟨_, _, [], _, rfl, by rw [List.append_nil]; exact RsK.bad, by rw [List.append_nil]; exact hF, by rw [List.append_nil]; exact M.tail.tail.tail.tail.tail⟩
   ·intro hco3
    have hW : truncS l x.2.2.1 x.2.2.2 o = sizeS l x.2.2.1 (sizedB d o.n.toNat) (badS 0) := by unfold truncS; rw [if_neg hn1, if_neg (by omega), hfo]
    obtain ⟨nn, hnn⟩ : ∃ nn : Nat, o.n = (nn : Int) := ⟨o.n.toNat, by omega⟩
    refine gs 0 0 ?_
    refine W.seqC (fun F' w' => ∃ bx pu' cu' L', F' = [(6, ptr bal1), (7, ptr bal2), (8, ptr bx), (9, .int .i64 (putS l x.2.2.1 (sizedB d o.n.toNat)).2)] ∧ FilesK w00 (L ++ L') (.slice pu' (putS l x.2.2.1 (sizedB d o.n.toNat)).1.length cu') (putS l x.2.2.1 (sizedB d o.n.toNat)).1 ∧ Sep w00 (((bx, .cells [.slice pu' (putS l x.2.2.1 (sizedB d o.n.toNat)).1.length cu', .slice ph nh ch].toArray 70 (0, 0)) :: (bal2, .cells [.int .i64 0, .int .i64 0, .int .i64 0, .slice none 0 0, .slice none 0 0].toArray 49 (0, 0)) :: (bal1, .cells [.slice none 0 0, .slice none 0 0].toArray 70 (0, 0)) :: (bbx3, .cells (opC o dv).toArray 52 (0, 0)) :: (bbx2, .cells (oR x).toArray 123 (0, 0)) :: (bbx1, .cells [.slice pu l.length cu, .slice ph nh ch].toArray 70 (0, 0)) :: X) ++ (L ++ L')) w') ?_ ?_
    ·refine go 0 ?_
     refine W.regT (by kernel_rfl) #[0, 0, 2, 0, 0, 16, 56, 0, 128, 504, 1023, 2047, 4095, 4095, 0, 24575, 65535] (.par [(0, false), (1, false), (2, false), (3, false), (4, false), (5, false), (7, false), (8, false)] 6 (.par [] 9 (.two [] 10 [(11, false), (12, false), (13, false), (14, true)] 14 [(10, true), (11, false), (12, false), (13, false)] (.leaf [(15, true), (16, false)])) 14 (.leaf [(9, true), (10, true), (11, false), (12, false), (13, false), (15, true), (16, false)])) 14 (.leaf [(6, true), (9, true), (10, true), (11, false), (12, false), (13, false), (15, true), (16, false)])) (by kernel_rfl) ?_
     intro K wD4 hK hwD4
     have M := M.drew hwD4
     refine ExT.par ?_
     refine go 5 ?_
     refine Ex.fork ?_
     refine ⟨?_, ?_⟩
     ·refine x_call rfl rfl rfl rfl rfl en118 (rdata_x (X := _ :: _ :: _ :: _ :: _ :: X) M hF (by omega) hT hp) ?_
      rintro r_ w4 ⟨pd, cd, rfl, hd5, hn4⟩
      have M := M.new hn4
      refine pnd ?_
      refine Ex.fork ?_
      refine ExT.par ?_
      refine Ex.fork ?_
      refine ⟨?_, ?_⟩
      ·refine x_call rfl rfl rfl rfl rfl en119 (by have h_ := rsized_c (n := nn) (hd5 _ _ M (fun y hy => by simp [hy])) (by omega) (by omega); rw [← hnn] at h_; exact h_) ?_
       rintro r_ w5 ⟨Lo, hoB, M6⟩
       have M := M.grow' M6
       rw [show nn = o.n.toNat by omega] at hoB
       obtain ⟨ps, cs, rfl⟩ := hoB.shape
       have M : Sep w00 ((_ :: _ :: _ :: _ :: _ :: X) ++ (L ++ Lo)) _ := St.lay M
       have hF2 := hF.mono (L' := L ++ Lo) (fun y hy => mL hy)
       refine pnd ?_
       refine Ex.fork ?_
       refine ExT.two ?_
       refine Ex.fork ?_
       refine Ex.join (fun F' T' w' => ∃ bx pu' cu' L' R1 R2 R3 R4 R5, T' = [(8, R5), (5, R4), (3, R3), (2, R2), (0, R1)] ∧ F' = [(6, ptr bal1), (7, ptr bal2), (8, ptr bx), (37, .agg #[.slice pu' (putS l x.2.2.1 (sizedB d o.n.toNat)).1.length cu', .slice ph nh ch]), (38, .int .i64 (putS l x.2.2.1 (sizedB d o.n.toNat)).2)] ∧ FilesK w00 (L ++ L') (.slice pu' (putS l x.2.2.1 (sizedB d o.n.toNat)).1.length cu') (putS l x.2.2.1 (sizedB d o.n.toNat)).1 ∧ Sep w00 (((bx, .cells [.slice none 0 0, .slice none 0 0].toArray 70 (0, 0)) :: (bal2, .cells [.int .i64 0, .int .i64 0, .int .i64 0, .slice none 0 0, .slice none 0 0].toArray 49 (0, 0)) :: (bal1, .cells [.slice none 0 0, .slice none 0 0].toArray 70 (0, 0)) :: (bbx3, .cells (opC o dv).toArray 52 (0, 0)) :: (bbx2, .cells (oR x).toArray 123 (0, 0)) :: (bbx1, .cells [.slice pu l.length cu, .slice ph nh ch].toArray 70 (0, 0)) :: X) ++ (L ++ L')) w') ?_ ?_ ?_
       ·refine x_call rfl rfl rfl rfl rfl en120 (fput_c (X := _ :: _ :: _ :: _ :: _ :: X) (L := L ++ Lo) M hF2 hl hT hus hp (SgK.own hoB (by decide) (fun y hy => mR hy)) (by rw [sizedB_len]; omega)) ?_
        rintro r_ w7 ⟨pu', cu', L7, rfl, hF7, M⟩
        refine pnd ?_
        refine go 0 ?_
        refine x_alloc [_, _] rfl rfl rfl ze70 rfl ?_
        intro bal3 wal3 hbal3 hwal3
        have M := M.acons hbal3 hwal3
        refine pnd ?_
        refine Ex.forkS [(6, _), (7, _), (8, _), (37, _), (38, _)] ⟨rfl, rfl, rfl, rfl, rfl, trivial⟩ ?_
        rw [List.append_assoc] at M hF7
        exact ⟨_, pu', cu', Lo ++ L7, _, _, _, _, _, rfl, rfl, hF7, M⟩
       ·refine x_alloc [_, _] rfl rfl rfl ze70 rfl ?_
        intro bal4 wal4 hbal4 hwal4
        have M := M.acons hbal4 hwal4
        refine pnd ?_
        refine x_call rfl rfl rfl rfl rfl en120 (fput_c (X := _ :: _ :: _ :: _ :: _ :: _ :: X) (L := L ++ Lo) M hF2 hl hT hus hp (SgK.own hoB (by decide) (fun y hy => mR hy)) (by rw [sizedB_len]; omega)) ?_
        rintro r_ w7 ⟨pu', cu', L7, rfl, hF7, M⟩
        refine pnd ?_
        refine go 0 ?_
        refine Ex.forkS [(6, _), (7, _), (8, _), (37, _), (38, _)] ⟨rfl, rfl, rfl, rfl, rfl, trivial⟩ ?_
        rw [List.append_assoc] at M hF7
        exact ⟨_, pu', cu', Lo ++ L7, _, _, _, _, _, rfl, rfl, hF7, M⟩
       rintro F1 T1 wf ⟨bx, pu', cu', L', R1, R2, R3, R4, R5, rfl, rfl, hF', M⟩
       refine ExT.leaf ?_
       refine x_st [_, _] _ rfl rfl rfl sz70 rfl rfl rfl rfl (by first | exact M.at_ 0 rfl | exact M.at_ 1 rfl | exact M.at_ 2 rfl | exact M.at_ 3 rfl | exact M.at_ 4 rfl | exact M.at_ 5 rfl | exact M.at_ 6 rfl | exact M.at_ 7 rfl) rfl rfl rfl ?_
       intro wst7 hwst7
       have M := by first | exact M.put 0 rfl hwst7 | exact M.put 1 rfl hwst7 | exact M.put 2 rfl hwst7 | exact M.put 3 rfl hwst7 | exact M.put 4 rfl hwst7 | exact M.put 5 rfl hwst7 | exact M.put 6 rfl hwst7 | exact M.put 7 rfl hwst7
       refine pnd ?_
       refine go 0 ?_
       refine At.sub [(6, _), (7, _), (8, _), (9, _)] ⟨rfl, rfl, rfl, rfl, trivial⟩ ?_
       refine At.cut_n ?_
       exact ⟨bx, pu', cu', L', rfl, hF', M⟩
      ·refine x_alloc [_, _] rfl rfl rfl ze70 rfl ?_
       intro bal5 wal5 hbal5 hwal5
       have M := M.acons hbal5 hwal5
       refine pnd ?_
       refine Ex.fork ?_
       refine ExT.leaf ?_
       refine x_call rfl rfl rfl rfl rfl en119 (by have h_ := rsized_c (n := nn) (hd5 _ _ M (fun y hy => by simp [hy])) (by omega) (by omega); rw [← hnn] at h_; exact h_) ?_
       rintro r_ w8 ⟨Lo, hoB, M6⟩
       have M := M.grow' M6
       rw [show nn = o.n.toNat by omega] at hoB
       obtain ⟨ps, cs, rfl⟩ := hoB.shape
       have M : Sep w00 ((_ :: _ :: _ :: _ :: _ :: _ :: X) ++ (L ++ Lo)) _ := St.lay M
       have hF2 := hF.mono (L' := L ++ Lo) (fun y hy => mL hy)
       refine pnd ?_
       refine x_call rfl rfl rfl rfl rfl en120 (fput_c (X := _ :: _ :: _ :: _ :: _ :: _ :: X) (L := L ++ Lo) M hF2 hl hT hus hp (SgK.own hoB (by decide) (fun y hy => mR hy)) (by rw [sizedB_len]; omega)) ?_
       rintro r_ w7 ⟨pu', cu', L7, rfl, hF7, M⟩
       refine pnd ?_
       refine go 0 ?_
       refine x_st [_, _] _ rfl rfl rfl sz70 rfl rfl rfl rfl (by first | exact M.at_ 0 rfl | exact M.at_ 1 rfl | exact M.at_ 2 rfl | exact M.at_ 3 rfl | exact M.at_ 4 rfl | exact M.at_ 5 rfl | exact M.at_ 6 rfl | exact M.at_ 7 rfl) rfl rfl rfl ?_
       intro wst8 hwst8
       have M := by first | exact M.put 0 rfl hwst8 | exact M.put 1 rfl hwst8 | exact M.put 2 rfl hwst8 | exact M.put 3 rfl hwst8 | exact M.put 4 rfl hwst8 | exact M.put 5 rfl hwst8 | exact M.put 6 rfl hwst8 | exact M.put 7 rfl hwst8
       refine pnd ?_
       refine go 0 ?_
       refine At.sub [(6, _), (7, _), (8, _), (9, _)] ⟨rfl, rfl, rfl, rfl, trivial⟩ ?_
       refine At.cut_n ?_
       rw [List.append_assoc] at M hF7
       exact ⟨_, pu', cu', Lo ++ L7, rfl, hF7, M⟩
     ·refine x_alloc [_, _] rfl rfl rfl ze70 rfl ?_
      intro bal6 wal6 hbal6 hwal6
      have M := M.acons hbal6 hwal6
      refine pnd ?_
      refine Ex.fork ?_
      refine ExT.leaf ?_
      refine x_call rfl rfl rfl rfl rfl en118 (rdata_x (X := _ :: _ :: _ :: _ :: _ :: _ :: X) M hF (by omega) hT hp) ?_
      rintro r_ w10 ⟨pd, cd, rfl, hd5, hn10⟩
      have M := M.new hn10
      refine pnd ?_
      refine x_call rfl rfl rfl rfl rfl en119 (by have h_ := rsized_c (n := nn) (hd5 _ _ M (fun y hy => by simp [hy])) (by omega) (by omega); rw [← hnn] at h_; exact h_) ?_
      rintro r_ w11 ⟨Lo, hoB, M6⟩
      have M := M.grow' M6
      rw [show nn = o.n.toNat by omega] at hoB
      obtain ⟨ps, cs, rfl⟩ := hoB.shape
      have M : Sep w00 ((_ :: _ :: _ :: _ :: _ :: _ :: X) ++ (L ++ Lo)) _ := St.lay M
      have hF2 := hF.mono (L' := L ++ Lo) (fun y hy => mL hy)
      refine pnd ?_
      refine x_call rfl rfl rfl rfl rfl en120 (fput_c (X := _ :: _ :: _ :: _ :: _ :: _ :: X) (L := L ++ Lo) M hF2 hl hT hus hp (SgK.own hoB (by decide) (fun y hy => mR hy)) (by rw [sizedB_len]; omega)) ?_
      rintro r_ w7 ⟨pu', cu', L7, rfl, hF7, M⟩
      refine pnd ?_
      refine go 0 ?_
      refine x_st [_, _] _ rfl rfl rfl sz70 rfl rfl rfl rfl (by first | exact M.at_ 0 rfl | exact M.at_ 1 rfl | exact M.at_ 2 rfl | exact M.at_ 3 rfl | exact M.at_ 4 rfl | exact M.at_ 5 rfl | exact M.at_ 6 rfl | exact M.at_ 7 rfl) rfl rfl rfl ?_
      intro wst9 hwst9
      have M := by first | exact M.put 0 rfl hwst9 | exact M.put 1 rfl hwst9 | exact M.put 2 rfl hwst9 | exact M.put 3 rfl hwst9 | exact M.put 4 rfl hwst9 | exact M.put 5 rfl hwst9 | exact M.put 6 rfl hwst9 | exact M.put 7 rfl hwst9
      refine pnd ?_
      refine go 0 ?_
      refine At.sub [(6, _), (7, _), (8, _), (9, _)] ⟨rfl, rfl, rfl, rfl, trivial⟩ ?_
      refine At.cut_n ?_
      rw [List.append_assoc] at M hF7
      exact ⟨_, pu', cu', Lo ++ L7, rfl, hF7, M⟩
    rintro F1 wc ⟨bx, pu', cu', L', rfl, hF', M⟩
    refine go 0 ?_
    refine W.regD (by kernel_rfl) #[0, 0, 2, 7, 15] [(0, false), (1, false), (2, true), (3, true), (4, true)] (by kernel_rfl) ?_
    intro K wD5 hK hwD5
    have M := M.drew hwD5
    refine go 1 ?_
    refine x_call rfl rfl rfl rfl rfl en50 (rbad_c) ?_
    rintro r_ wcall13 ⟨rfl, hncall13⟩
    have M := M.new hncall13
    refine pnd ?_
    refine x_st [_, _] _ rfl rfl rfl sz70 rfl rfl rfl rfl (by first | exact M.at_ 0 rfl | exact M.at_ 1 rfl | exact M.at_ 2 rfl | exact M.at_ 3 rfl | exact M.at_ 4 rfl | exact M.at_ 5 rfl | exact M.at_ 6 rfl | exact M.at_ 7 rfl) rfl rfl rfl ?_
    intro wst10 hwst10
    have M := by first | exact M.put 0 rfl hwst10 | exact M.put 1 rfl hwst10 | exact M.put 2 rfl hwst10 | exact M.put 3 rfl hwst10 | exact M.put 4 rfl hwst10 | exact M.put 5 rfl hwst10 | exact M.put 6 rfl hwst10 | exact M.put 7 rfl hwst10
    refine pnd ?_
    refine x_st [_, _, _, _, _] _ rfl rfl rfl sz49 rfl rfl rfl rfl (by first | exact M.at_ 0 rfl | exact M.at_ 1 rfl | exact M.at_ 2 rfl | exact M.at_ 3 rfl | exact M.at_ 4 rfl | exact M.at_ 5 rfl | exact M.at_ 6 rfl | exact M.at_ 7 rfl) rfl rfl rfl ?_
    intro wst11 hwst11
    have M := by first | exact M.put 0 rfl hwst11 | exact M.put 1 rfl hwst11 | exact M.put 2 rfl hwst11 | exact M.put 3 rfl hwst11 | exact M.put 4 rfl hwst11 | exact M.put 5 rfl hwst11 | exact M.put 6 rfl hwst11 | exact M.put 7 rfl hwst11
    refine pnd ?_
    refine go 1 ?_
    have hPS : putS l x.2.2.1 (sizedB d o.n.toNat) = if 262144 + d.length < usedL l + (sizedB d o.n.toNat).length then (l, 7) else (setD l x.2.2.1 (sizedB d o.n.toNat), 0) := by unfold putS; rw [hfo]
    unfold sizeS at hW
    rw [hfo] at hW
    by_cases hq7 : 262144 + d.length < usedL l + (sizedB d o.n.toNat).length
    ·rw [if_pos hq7] at hPS hW
     rw [hW]
     rw [hPS] at M hF' ⊢
     exact ⟨_, _, L', _, rfl, RsK.bad, hF', M.tail.tail.tail.tail.tail.tail⟩
    ·rw [if_neg hq7] at hPS hW
     rw [hW]
     rw [hPS] at M hF' ⊢
     exact ⟨_, _, L', _, rfl, RsK.bad, hF', M.tail.tail.tail.tail.tail.tail⟩

end Go.Proofs.YtigfbpbnohkokaaGreat

namespace Go.Proofs.YtigfbpbnohkokaaGreat
open Go Go.Fw Go.RowKit
set_option linter.unusedVariables false
set_option linter.unusedSimpArgs false

structure RI (l : List Raw) (hl : List Opn) : Prop where
 tr : TreeL l
 le : l.length ≤ 128
 us : usedL l ≤ 262144
 ho : ∀ x ∈ hl, ∃ d, (x.2.2.1, false, d) ∈ l
 nd : (hl.map fun x => (x.1, x.2.1)).Nodup
 kr : ∀ x ∈ hl, 0 ≤ x.1 ∧ x.1 < 8 ∧ 1 ≤ x.2.1 ∧ x.2.1 ≤ 16
section
variable {l l' : List Raw} {hl : List Opn} {p b d x y : List UInt8} {who n : Int} {w : Bool} {z : Opn} {j : Nat}
theorem isO_iff : isO who n z = true ↔ z.1 = who ∧ z.2.1 = n := by unfold isO; rw [decide_eq_true_eq]
theorem RI.files (h : RI l hl) (ht : TreeL l') (hlen : l'.length ≤ 128) (hu : usedL l' ≤ 262144) (hf : ∀ x ∈ hl, ∀ d, (x.2.2.1, false, d) ∈ l → ∃ d', (x.2.2.1, false, d') ∈ l') : RI l' hl :=
 ⟨ht, hlen, hu, fun x hx => let ⟨d, hd⟩ := h.ho x hx; hf x hx d hd, h.nd, h.kr⟩
theorem RI.size (h : RI l hl) (hp : (p, false, d) ∈ l) (hb : b.length ≤ 65536) (hu : ¬ 262144 + d.length < usedL l + b.length) : RI (setD l p b) hl := by
 have hn := h.tr.names
 refine h.files ?_ (by unfold setD; rw [List.length_map]; exact h.le) (by have := usedL_set (b := b) hn hp; omega) (fun x hx e he => ?_)
 ·have := h.tr.put p b
  rw [h.tr.putD hp hb] at this
  exact this
 ·by_cases hq : x.2.2.1 = p
  ·exact ⟨b, mem_setD.2 (.inr ⟨hq, rfl, _, hp, rfl, rfl⟩)⟩
  ·exact ⟨e, mem_setD.2 (.inl ⟨he, hq⟩)⟩
theorem sizeS_RI (h : RI l hl) (hp : (p, false, d) ∈ l) (hb : b.length ≤ 65536) (r : RsS) : RI (sizeS l p b r).2 hl := by
 unfold sizeS
 rw [file_of h.tr hp]
 split
 ·exact h
 ·rename_i hu; exact h.size hp hb hu
theorem writeS_RI (h : RI l hl) (hp : (p, false, d) ∈ l) {o : OpS} : RI (writeS l p w o).2 hl := by
 unfold writeS
 split
 ·exact h
 ·split
  ·exact h
  ·split
   ·exact h
   ·refine sizeS_RI h hp ?_ _
    have := (h.tr.row hp).2.2.2.1
    simp only at this
    rw [writeB_len, file_of h.tr hp]; omega
theorem truncS_RI (h : RI l hl) (hp : (p, false, d) ∈ l) {o : OpS} : RI (truncS l p w o).2 hl := by
 unfold truncS
 split
 ·exact h
 ·split
  ·exact h
  ·exact sizeS_RI h hp (by rw [sizedB_len]; omega) _
theorem hfL_get (hn : (hl.map fun x => (x.1, x.2.1)).Nodup) (hz : z ∈ hl) (e1 : z.1 = who) (e2 : z.2.1 = n) : hfL hl who n = some (z.2.2.1, z.2.2.2) := by
 rcases atO_cases hl who n with ⟨j, x, hx, ho, _, _, h2⟩ | ⟨h1, _, _⟩
 ·rw [h2]
  obtain ⟨g1, g2⟩ := isO_iff.1 ho
  obtain ⟨k, hk⟩ := List.getElem?_of_mem hz
  have e : j = k := by
   have a1 : (hl.map fun x => (x.1, x.2.1))[j]? = some (who, n) := by rw [List.getElem?_map, hx]; simp [g1, g2]
   have a2 : (hl.map fun x => (x.1, x.2.1))[k]? = some (who, n) := by rw [List.getElem?_map, hk]; simp [e1, e2]
   obtain ⟨l1, b1⟩ := List.getElem?_eq_some_iff.1 a1
   obtain ⟨l2, b2⟩ := List.getElem?_eq_some_iff.1 a2
   exact (List.getElem_inj hn).1 (b1.trans b2.symm)
  subst e
  rw [hx] at hk
  cases hk; rfl
 ·have := h1 z hz
  rw [isO_iff.2 ⟨e1, e2⟩] at this; cases this
theorem hfL_none (h : ∀ y ∈ hl, isO who n y = false) : hfL hl who n = none := by
 unfold hfL
 rw [List.find?_eq_none.2 (fun y hy => by rw [h y hy]; simp)]; rfl
theorem hfL_open (h : hfL hl who n = none) : hfL (hl ++ [(who, n, p, w)]) = setH (hfL hl) who n (some (p, w)) := by
 have hno : ∀ y ∈ hl, isO who n y = false := by
  rcases atO_cases hl who n with ⟨j, x, _, _, _, _, h2⟩ | ⟨h1, _, _⟩
  ·rw [h2] at h; cases h
  ·exact h1
 funext a m
 unfold setH
 split
 ·rename_i e
  unfold hfL
  rw [e.1, e.2, List.find?_append, List.find?_eq_none.2 (fun y hy => by rw [hno y hy]; simp)]
  simp [isO]
 ·rename_i e
  unfold hfL
  rw [List.find?_append]
  have : ([(who, n, p, w)] : List Opn).find? (isO a m) = none := by
   rw [List.find?_eq_none]
   intro y hy
   rw [List.mem_singleton.1 hy]
   unfold isO
   rw [decide_eq_true_eq]
   exact fun e2 => e ⟨e2.1.symm, e2.2.symm⟩
  rw [this, Option.or_none]
theorem nd_open (hn : (hl.map fun x => (x.1, x.2.1)).Nodup) (h : hfL hl who n = none) : ((hl ++ [(who, n, p, w)]).map fun x => (x.1, x.2.1)).Nodup := by
 rw [List.map_append, List.nodup_append]
 refine ⟨hn, by simp, ?_⟩
 intro a ha c hc e
 subst e
 simp only [List.map_cons, List.map_nil, List.mem_singleton] at hc
 obtain ⟨z, hz, he⟩ := List.mem_map.1 ha
 rw [hc] at he
 have h1 : z.1 = who := congrArg Prod.fst he
 have h2 : z.2.1 = n := congrArg Prod.snd he
 rw [hfL_get hn hz h1 h2] at h; cases h
theorem hfL_close (hn : (hl.map fun x => (x.1, x.2.1)).Nodup) (hj : hl[j]? = some z) (h : isO who n z = true) : hfL (hl.eraseIdx j) = setH (hfL hl) who n none := by
 obtain ⟨g1, g2⟩ := isO_iff.1 h
 have hnd2 : ((hl.eraseIdx j).map fun x => (x.1, x.2.1)).Nodup := (hn.sublist ((List.eraseIdx_sublist hl j).map _))
 have hmem : ∀ y, y ∈ hl.eraseIdx j ↔ y ∈ hl ∧ ¬ (y.1 = who ∧ y.2.1 = n) := by
  intro y
  obtain ⟨hlt, hzj⟩ := List.getElem?_eq_some_iff.1 hj
  have e : hl = hl.take j ++ z :: hl.drop (j + 1) := split_at hj
  have e2 : hl.eraseIdx j = hl.take j ++ hl.drop (j + 1) := List.eraseIdx_eq_take_drop_succ hl j
  rw [e2]
  have hn2 := hn
  rw [e, List.map_append, List.map_cons, List.nodup_append] at hn2
  obtain ⟨_, h2, h3⟩ := hn2
  rw [List.nodup_cons] at h2
  constructor
  ·intro hy
   refine ⟨?_, fun ek => ?_⟩
   ·rw [e]
    rcases List.mem_append.1 hy with hy | hy
    ·exact List.mem_append_left _ hy
    ·exact List.mem_append_right _ (List.mem_cons_of_mem _ hy)
   ·have ek2 : (y.1, y.2.1) = (z.1, z.2.1) := by rw [ek.1, ek.2, g1, g2]
    rcases List.mem_append.1 hy with hy | hy
    ·exact h3 _ (List.mem_map.2 ⟨y, hy, rfl⟩) _ List.mem_cons_self ek2
    ·exact h2.1 (List.mem_map.2 ⟨y, hy, ek2⟩)
  ·rintro ⟨hy, hne⟩
   rw [e] at hy
   rcases List.mem_append.1 hy with hy | hy
   ·exact List.mem_append_left _ hy
   ·rcases List.mem_cons.1 hy with rfl | hy
    ·exact absurd ⟨g1, g2⟩ hne
    ·exact List.mem_append_right _ hy
 funext a m
 unfold setH
 split
 ·rename_i e
  refine hfL_none fun y hy => ?_
  cases hq : isO a m y with
  | false => rfl
  | true =>
   obtain ⟨q1, q2⟩ := isO_iff.1 hq
   exact absurd ⟨q1.trans e.1, q2.trans e.2⟩ ((hmem y).1 hy).2
 ·rename_i e
  rcases atO_cases hl a m with ⟨k, x, hx, ho, _, _, h2⟩ | ⟨h1, _, h2⟩
  ·obtain ⟨q1, q2⟩ := isO_iff.1 ho
   have hm : x ∈ hl.eraseIdx j := (hmem x).2 ⟨List.mem_of_getElem? hx, fun e2 => e ⟨q1.symm.trans e2.1, q2.symm.trans e2.2⟩⟩
   rw [h2, hfL_get hnd2 hm q1 q2]
  ·rw [h2, hfL_none (fun y hy => h1 y ((hmem y).1 hy).1)]
def movO (x y : List UInt8) (z : Opn) : Opn := (z.1, z.2.1, movP x y z.2.2.1, z.2.2.2)
theorem hfL_mov : hfL (hl.map (movO x y)) = movH (hfL hl) x y := by
 funext a m
 unfold movH hfL
 rw [List.find?_map, Option.map_map, Option.map_map]
 rfl
theorem nd_mov (hn : (hl.map fun x => (x.1, x.2.1)).Nodup) : ((hl.map (movO x y)).map fun x => (x.1, x.2.1)).Nodup := by rw [List.map_map]; exact hn
theorem openB_any (hp : ∀ x ∈ hl, 0 ≤ x.1 ∧ x.1 < 8 ∧ 1 ≤ x.2.1 ∧ x.2.1 ≤ 16) (hn : (hl.map fun x => (x.1, x.2.1)).Nodup) : openB (hfL hl) p = hl.any fun x => decide (x.2.2.1 = p) := by
 rw [Bool.eq_iff_iff]
 unfold openB
 simp only [List.any_eq_true, List.mem_range, decide_eq_true_eq]
 constructor
 ·rintro ⟨a, _, i, _, h⟩
  rcases atO_cases hl (a : Int) ((i : Int) + 1) with ⟨k, x, hx, ho, _, _, h2⟩ | ⟨_, _, h2⟩
  ·rw [h2] at h
   exact ⟨x, List.mem_of_getElem? hx, by simpa using h⟩
  ·rw [h2] at h; cases h
 ·rintro ⟨x, hx, he⟩
  obtain ⟨g1, g2, g3, g4⟩ := hp x hx
  refine ⟨x.1.toNat, by omega, (x.2.1 - 1).toNat, by omega, ?_⟩
  rw [hfL_get hn hx (by omega) (by omega)]
  exact decide_eq_true he
end
/-- What the document's files answer, and how they are then. -/
def RfP (w00 : World) (L X : List (Nat × Obj)) (hl : List Opn) (st : St3) (r : Value) (w' : World) : Prop := ∃ pu cu ph ch hl' L' rv, r = .tuple #[.agg #[.slice pu st.2.1.length cu, .slice ph hl'.length ch], rv] ∧ RsK w00 (L ++ L') rv st.1 ∧
 FilesK w00 (L ++ L') (.slice pu st.2.1.length cu) st.2.1 ∧ OpnK w00 (L ++ L') (.slice ph hl'.length ch) hl' ∧ RI st.2.1 hl' ∧ hfL hl' = st.2.2 ∧ hl'.length ≤ hl.length + 1 ∧ Sep w00 (X ++ (L ++ L')) w'
section
variable {w00 w' : World} {L L' X : List (Nat × Obj)} {l : List Raw} {hl : List Opn} {pu ph : Option Addr} {cu ch : Nat} {st : St3} {e : Int} {rs : RsS} {rv : Value}
theorem RfP.same (hs : st = (rs, l, hfL hl)) (hr : RsK w00 (L ++ L') rv rs) (hF : FilesK w00 L (.slice pu l.length cu) l) (hO : OpnK w00 L (.slice ph hl.length ch) hl) (hI : RI l hl) (M : Sep w00 (X ++ (L ++ L')) w') : RfP w00 L X hl st (.tuple #[.agg #[.slice pu l.length cu, .slice ph hl.length ch], rv]) w' := by
 subst hs
 exact ⟨pu, cu, ph, ch, hl, L', rv, rfl, hr, hF.mono (fun y hy => mL hy), hO.mono (fun y hy => mL hy), hI, rfl, by omega, M⟩
theorem RfP.bad (hs : st = (badS e, l, hfL hl)) (hF : FilesK w00 L (.slice pu l.length cu) l) (hO : OpnK w00 L (.slice ph hl.length ch) hl) (hI : RI l hl) (M : Sep w00 (X ++ L) w') : RfP w00 L X hl st (.tuple #[.agg #[.slice pu l.length cu, .slice ph hl.length ch], rsV (badS e) (.slice none 0 0) (.slice none 0 0)]) w' :=
 RfP.same (L' := []) hs RsK.bad hF hO hI (by rw [List.append_nil]; exact M)
theorem RfP.rows {l' : List Raw} (hs : st = (rs, l', hfL hl)) (hr : RsK w00 (L ++ L') rv rs) (hF : FilesK w00 (L ++ L') (.slice pu l'.length cu) l') (hO : OpnK w00 L (.slice ph hl.length ch) hl) (hI : RI l' hl) (M : Sep w00 (X ++ (L ++ L')) w') : RfP w00 L X hl st (.tuple #[.agg #[.slice pu l'.length cu, .slice ph hl.length ch], rv]) w' := by
 subst hs
 exact ⟨pu, cu, ph, ch, hl, L', rv, rfl, hr, hF, hO.mono (fun y hy => mL hy), hI, rfl, by omega, M⟩
end
theorem oCs_take {hl : List Opn} {j : Nat} (hj : j ≤ hl.length) : (oCs hl).take (j * 4) = oCs (hl.take j) := by
 conv => lhs; rw [← List.take_append_drop j hl, oCs_app]
 rw [List.take_left' (by rw [oCs_len, List.length_take]; congr 1; omega)]
theorem oCs_drop {hl : List Opn} {j : Nat} (hj : j ≤ hl.length) : (oCs hl).drop (j * 4) = oCs (hl.drop j) := by
 conv => lhs; rw [← List.take_append_drop j hl, oCs_app]
 rw [List.drop_left' (by rw [oCs_len, List.length_take]; congr 1; omega)]
end Go.Proofs.YtigfbpbnohkokaaGreat

namespace Go.Proofs.YtigfbpbnohkokaaGreat
open Go Go.Fw Go.RowKit Go.Proofs
set_option linter.unusedVariables false
set_option linter.unusedSimpArgs false
set_option maxRecDepth 100000
set_option maxHeartbeats 4000000

-- (valise/valiseref19.FS).handle
theorem fhandle_c {w00 w0 : World} {X L : List (Nat × Obj)} {u hv : Value} {l : List Raw} {hl : List Opn} {who : Int} {o : OpS} {dv : Value} (M : Sep w00 (X ++ L) w0) (hF : FilesK w00 L u l) (hO : OpnK w00 L hv hl) (hI : RI l hl) (hlen : hl.length ≤ 1000) (hdv : BytesK w00 L dv o.d) (hod : o.d.length ≤ 131072) : Ret Tryz.prog 52 #[.agg #[u, hv], .int .i64 who, .agg (opC o dv).toArray] w0 (RfP w00 L X hl (handleS l (hfL hl) who o)) := by
 obtain ⟨pu, cu, rfl⟩ := (hF.at_ M (fun y hy => mR hy)).shape
 obtain ⟨ph, chh, rfl⟩ := Sg.shape (hO _ _ M (fun y hy => mR hy))
 have hT := hI.tr
 have hll := hI.le
 have hus := hI.us
 obtain ⟨pdv, cdv, rfl⟩ := (hdv _ _ M (fun y hy => mR hy)).shape
 have hat := atO_cases hl who o.h
 refine Ret.of_W Tryz.func52 rfl Tryz.ntmps52 rfl ?_
 refine go 1 ?_
 intro bbx1 _ M
 refine go 1 ?_
 intro _ _ M
 refine go 1 ?_
 intro _ _ M
 refine go 1 ?_
 intro _ _ M
 refine go 2 ?_
 refine x_call rfl rfl rfl rfl rfl en55 (rat_c (hO _ _ M (fun y hy => by simp [hy])) (by omega)) ?_
 rintro r_ w1 ⟨rfl, hn1⟩
 have M := M.new hn1
 refine ⟨trivial, ?_⟩
 refine cnd 1 ?_ ?_
 ·intro hco1
  rcases hat with ⟨_, _, _, _, h1, _⟩ | ⟨_, _, hno⟩
  ·omega
  have hS : handleS l (hfL hl) who o = (badS 19, l, hfL hl) := by unfold handleS; rw [hno]
  refine go 0 ?_
  refine W.regD (by kernel_rfl) #[0, 0, 3, 7] [(0, false), (1, true), (2, true), (3, true)] (by kernel_rfl) ?_
  intro K wD1 hK hwD1
  have M := M.drew hwD1
  refine go 1 ?_
  refine x_call rfl rfl rfl rfl rfl en50 (rbad_c) ?_
  rintro r_ wcall2 ⟨rfl, hncall2⟩
  have M := M.new hncall2
  refine pnd ?_
  refine x_st [_, _] _ rfl rfl rfl sz70 rfl rfl rfl rfl (by first | exact M.at_ 0 rfl | exact M.at_ 1 rfl | exact M.at_ 2 rfl | exact M.at_ 3 rfl | exact M.at_ 4 rfl | exact M.at_ 5 rfl | exact M.at_ 6 rfl | exact M.at_ 7 rfl) rfl rfl rfl ?_
  intro wst1 hwst1
  have M := by first | exact M.put 0 rfl hwst1 | exact M.put 1 rfl hwst1 | exact M.put 2 rfl hwst1 | exact M.put 3 rfl hwst1 | exact M.put 4 rfl hwst1 | exact M.put 5 rfl hwst1 | exact M.put 6 rfl hwst1 | exact M.put 7 rfl hwst1
  refine pnd ?_
  refine x_st [_, _, _, _, _] _ rfl rfl rfl sz49 rfl rfl rfl rfl (by first | exact M.at_ 0 rfl | exact M.at_ 1 rfl | exact M.at_ 2 rfl | exact M.at_ 3 rfl | exact M.at_ 4 rfl | exact M.at_ 5 rfl | exact M.at_ 6 rfl | exact M.at_ 7 rfl) rfl rfl rfl ?_
  intro wst2 hwst2
  have M := by first | exact M.put 0 rfl hwst2 | exact M.put 1 rfl hwst2 | exact M.put 2 rfl hwst2 | exact M.put 3 rfl hwst2 | exact M.put 4 rfl hwst2 | exact M.put 5 rfl hwst2 | exact M.put 6 rfl hwst2 | exact M.put 7 rfl hwst2
  refine pnd ?_
  refine go 1 ?_
  exact RfP.bad hS hF hO hI M.tail.tail.tail.tail
 ·intro hco1
  rcases hat with ⟨j, x, hx, hxo, hatj, _, hsome⟩ | ⟨_, h1, _⟩
  rotate_left
  ·omega
  rw [hatj]
  have hj := (List.getElem?_eq_some_iff.1 hx).1
  have hOA := hO _ _ M (fun y hy => by simp [hy])
  obtain ⟨bb, off, rfl, _⟩ := OpnAt.blk hOA (j := j) (by omega)
  have hrow := OpnAt.row hOA hx
  obtain ⟨d, hp⟩ := hI.ho x (List.mem_of_getElem? hx)
  refine go 1 ?_
  refine x_ia j rfl rfl rfl Tryz.underlying68 sz123 rfl rfl rfl (by omega) ?_
  refine x_ldA [_, _, _, _] rfl rfl rfl Tryz.underlying123 rfl sz123 rfl rfl hrow ?_
  refine go 1 ?_
  intro _ _ M
  refine go 1 ?_
  intro _ M
  refine cnd 2 ?_ ?_
  ·intro hco2
   have hS : handleS l (hfL hl) who o = (readS l x.2.2.1 o, l, hfL hl) := by unfold handleS; rw [hsome]; simp only; rw [if_pos hco2]
   refine go 0 ?_
   refine W.regD (by kernel_rfl) #[0, 0, 0, 0, 14, 31, 63] [(0, false), (1, false), (2, false), (3, false), (4, true), (5, true), (6, true)] (by kernel_rfl) ?_
   intro K wD2 hK hwD2
   have M := M.drew hwD2
   refine go 4 ?_
   refine x_call rfl rfl rfl rfl rfl en87 (fread_c (X := _ :: _ :: _ :: _ :: _ :: X) M hF hll hT hus hp rfl) ?_
   rintro r_ w3 ⟨L3, hr3, M⟩
   obtain ⟨q1, k1, q2, k2, rfl, hr4, hr5⟩ := hr3
   have hr3 : RsK w00 (L ++ L3) _ (readS l x.2.2.1 o) := ⟨q1, k1, q2, k2, rfl, hr4, hr5⟩
   refine pnd ?_
   refine x_st [_, _] _ rfl rfl rfl sz70 rfl rfl rfl rfl (by first | exact M.at_ 0 rfl | exact M.at_ 1 rfl | exact M.at_ 2 rfl | exact M.at_ 3 rfl | exact M.at_ 4 rfl | exact M.at_ 5 rfl | exact M.at_ 6 rfl | exact M.at_ 7 rfl) rfl rfl rfl ?_
   intro wst4 hwst4
   have M := by first | exact M.put 0 rfl hwst4 | exact M.put 1 rfl hwst4 | exact M.put 2 rfl hwst4 | exact M.put 3 rfl hwst4 | exact M.put 4 rfl hwst4 | exact M.put 5 rfl hwst4 | exact M.put 6 rfl hwst4 | exact M.put 7 rfl hwst4
   refine pnd ?_
   refine x_st [_, _, _, _, _] _ rfl rfl rfl sz49 rfl rfl rfl rfl (by first | exact M.at_ 0 rfl | exact M.at_ 1 rfl | exact M.at_ 2 rfl | exact M.at_ 3 rfl | exact M.at_ 4 rfl | exact M.at_ 5 rfl | exact M.at_ 6 rfl | exact M.at_ 7 rfl) rfl rfl rfl ?_
   intro wst5 hwst5
   have M := by first | exact M.put 0 rfl hwst5 | exact M.put 1 rfl hwst5 | exact M.put 2 rfl hwst5 | exact M.put 3 rfl hwst5 | exact M.put 4 rfl hwst5 | exact M.put 5 rfl hwst5 | exact M.put 6 rfl hwst5 | exact M.put 7 rfl hwst5
   refine pnd ?_
   refine go 1 ?_
   exact RfP.same hS hr3 hF hO hI M.tail.tail.tail.tail.tail
  ·intro hco2
   refine cnd 1 ?_ ?_
   ·intro hco3
    have hS : handleS l (hfL hl) who o = ((writeS l x.2.2.1 x.2.2.2 o).1, (writeS l x.2.2.1 x.2.2.2 o).2, hfL hl) := by unfold handleS; rw [hsome]; simp only; rw [if_neg hco2, if_pos hco3]
    refine go 3 ?_
    refine x_call rfl rfl rfl rfl rfl en88 (fwrite_c (X := _ :: _ :: _ :: _ :: _ :: X) M hF hll hT hus hp hdv hod) ?_
    rintro r_ w4 ⟨pu', cu', L4, rv, rfl, hr3, hF4, M⟩
    obtain ⟨q1, k1, q2, k2, rfl, hr4, hr5⟩ := hr3
    have hr3 : RsK w00 (L ++ L4) _ (writeS l x.2.2.1 x.2.2.2 o).1 := ⟨q1, k1, q2, k2, rfl, hr4, hr5⟩
    refine ⟨trivial, ?_⟩
    refine go 1 ?_
    intro _ M
    refine go 1 ?_
    intro _ M
    refine go 1 ?_
    exact RfP.rows hS hr3 hF4 hO (writeS_RI hI hp) M.tail.tail.tail.tail.tail
   ·intro hco3
    refine cnd 1 ?_ ?_
    ·intro hco4
     have hS : handleS l (hfL hl) who o = ((truncS l x.2.2.1 x.2.2.2 o).1, (truncS l x.2.2.1 x.2.2.2 o).2, hfL hl) := by unfold handleS; rw [hsome]; simp only; rw [if_neg hco2, if_neg hco3, if_pos hco4]
     refine go 3 ?_
     refine x_call rfl rfl rfl rfl rfl en89 (ftrunc_c (X := _ :: _ :: _ :: _ :: _ :: X) M hF hll hT hus hp rfl) ?_
     rintro r_ w5 ⟨pu', cu', L5, rv, rfl, hr3, hF4, M⟩
     obtain ⟨q1, k1, q2, k2, rfl, hr4, hr5⟩ := hr3
     have hr3 : RsK w00 (L ++ L5) _ (truncS l x.2.2.1 x.2.2.2 o).1 := ⟨q1, k1, q2, k2, rfl, hr4, hr5⟩
     refine ⟨trivial, ?_⟩
     refine go 1 ?_
     intro _ M
     refine go 1 ?_
     intro _ M
     refine go 1 ?_
     exact RfP.rows hS hr3 hF4 hO (truncS_RI hI hp) M.tail.tail.tail.tail.tail
    ·intro hco4
     have hS : handleS l (hfL hl) who o = (badS 0, l, setH (hfL hl) who o.h none) := by unfold handleS; rw [hsome]; simp only; rw [if_neg hco2, if_neg hco3, if_neg hco4]
     refine go 0 ?_
     refine W.regD (by kernel_rfl) #[0, 1, 0, 0, 8, 0, 56, 124, 0, 256, 0, 1024, 3840, 8188, 16383, 0, 32767, 131071] [(0, false), (1, false), (3, false), (4, false), (5, false), (6, false), (8, false), (9, false), (10, false), (11, false), (12, false), (15, false), (2, true), (7, true), (13, true), (14, false), (16, true), (17, true)] (by kernel_rfl) ?_
     intro K wD3 hK hwD3
     have M := M.drew hwD3
     refine go 2 ?_
     refine x_slh j rfl rfl rfl Tryz.underlying68 sz123 rfl rfl rfl (by have := Sg.capLe hOA; omega) ?_
     refine go 1 ?_
     refine x_add ((j + 1 : Nat) : Int) rfl rfl rfl rfl rfl (by rw [wadd (by omega) (by omega)]; omega) ?_
     refine x_sll (j + 1) rfl rfl rfl Tryz.underlying68 sz123 rfl rfl rfl (by omega) ?_
     refine go 1 ?_
     refine x_bs0 rfl rfl rfl Tryz.underlying68 sz123 ?_
     intro bb0 wb hbb hwb
     have M := M.acons hbb hwb
     refine ⟨⟨.inr (cell_of (M.get (b := bbx1) (o := (bbx1, .cells [.slice pu l.length cu, .slice (some ⟨bb, off, none⟩) hl.length chh].toArray 70 (0, 0)).2) (by simp)) rfl), .inr (cell_of (M.get (b := bbx1) (o := (bbx1, .cells [.slice pu l.length cu, .slice (some ⟨bb, off, none⟩) hl.length chh].toArray 70 (0, 0)).2) (by simp)) rfl), .inr ⟨_, _, _, (M.get (b := bbx1) (o := (bbx1, .cells [.slice pu l.length cu, .slice (some ⟨bb, off, none⟩) hl.length chh].toArray 70 (0, 0)).2) (by simp)), rfl⟩, trivial⟩, ?_⟩
     have hOA := hO _ _ M (fun y hy => by simp [hy])
     have hs1 := Sg.take hOA (j := j) (by omega)
     rw [oCs_take (by omega)] at hs1
     refine x_apL (L := [_]) (cs := []) (nn := 0) rfl rfl rfl rfl Tryz.underlying68 sz123 ze123 rfl by123 rfl rfl (.inr ⟨bb0, 0, [], _, rfl, rfl, rfl, rfl⟩) M (by simp) (hs1.src Tryz.underlying68 (oCs_one _)) (by omega) (by decide) (by omega) ?_
     intro Lo v6 w6 how M
     rw [Nat.zero_add, List.nil_append] at how
     refine ⟨⟨.inr (cell_of (M.get (b := bbx1) (o := (bbx1, .cells [.slice pu l.length cu, .slice (some ⟨bb, off, none⟩) hl.length chh].toArray 70 (0, 0)).2) (by simp)) rfl), .inl (by kernel_rfl), .inr ⟨_, _, _, (M.get (b := bbx1) (o := (bbx1, .cells [.slice pu l.length cu, .slice (some ⟨bb, off, none⟩) hl.length chh].toArray 70 (0, 0)).2) (by simp)), rfl⟩, trivial⟩, ?_⟩
     have hOA := hO _ _ M (fun y hy => by simp [hy])
     have hs2 := Sg.drop hOA (j := j + 1) (by omega)
     rw [oCs_drop (by omega)] at hs2
     refine x_apL (L := Lo) (cs := oCs (hl.take j)) rfl rfl rfl rfl Tryz.underlying68 sz123 ze123 rfl by123 rfl rfl how M (oCs_one _) (hs2.src Tryz.underlying68 (oCs_one _)) (by omega) (by decide) (by omega) ?_
     intro Lo v7 w7 how M
     rw [← oCs_app, show hl.take j ++ hl.drop (j + 1) = hl.eraseIdx j from (List.eraseIdx_eq_take_drop_succ hl j).symm, show j + (hl.length - (j + 1)) = (hl.eraseIdx j).length by rw [List.length_eraseIdx, if_pos hj]; omega] at how
     obtain ⟨p7, c7, rfl⟩ := how.shape
     have M : Sep w00 ((_ :: _ :: _ :: _ :: _ :: X) ++ (L ++ Lo)) w7 := St.lay M
     refine ⟨⟨.inl (by kernel_rfl), .inl (by kernel_rfl), .inr ⟨_, _, _, (M.get (b := bbx1) (o := (bbx1, .cells [.slice pu l.length cu, .slice (some ⟨bb, off, none⟩) hl.length chh].toArray 70 (0, 0)).2) (by simp)), rfl⟩, trivial⟩, ?_⟩
     refine go 1 ?_
     refine x_st [_, _] _ rfl rfl rfl sz70 rfl rfl rfl rfl (by first | exact M.at_ 0 rfl | exact M.at_ 1 rfl | exact M.at_ 2 rfl | exact M.at_ 3 rfl | exact M.at_ 4 rfl | exact M.at_ 5 rfl | exact M.at_ 6 rfl | exact M.at_ 7 rfl) rfl rfl rfl ?_
     intro wst10 hwst10
     have M := by first | exact M.put 0 rfl hwst10 | exact M.put 1 rfl hwst10 | exact M.put 2 rfl hwst10 | exact M.put 3 rfl hwst10 | exact M.put 4 rfl hwst10 | exact M.put 5 rfl hwst10 | exact M.put 6 rfl hwst10 | exact M.put 7 rfl hwst10
     refine pnd ?_
     refine x_st [_, _, _, _, _] _ rfl rfl rfl sz49 rfl rfl rfl rfl (by first | exact M.at_ 0 rfl | exact M.at_ 1 rfl | exact M.at_ 2 rfl | exact M.at_ 3 rfl | exact M.at_ 4 rfl | exact M.at_ 5 rfl | exact M.at_ 6 rfl | exact M.at_ 7 rfl) rfl rfl rfl ?_
     intro wst11 hwst11
     have M := by first | exact M.put 0 rfl hwst11 | exact M.put 1 rfl hwst11 | exact M.put 2 rfl hwst11 | exact M.put 3 rfl hwst11 | exact M.put 4 rfl hwst11 | exact M.put 5 rfl hwst11 | exact M.put 6 rfl hwst11 | exact M.put 7 rfl hwst11
     refine pnd ?_
     refine go 1 ?_
     rw [hS]
     exact ⟨_, _, _, _, hl.eraseIdx j, Lo, _, rfl, RsK.bad, hF.mono (fun y hy => mL hy), SgK.own how (by decide) (fun y hy => mR hy), ⟨hI.tr, hI.le, hI.us, fun y hy => hI.ho y (List.mem_of_mem_eraseIdx hy), hI.nd.sublist ((List.eraseIdx_sublist hl j).map _), fun y hy => hI.kr y (List.mem_of_mem_eraseIdx hy)⟩, hfL_close hI.nd hx hxo, by rw [List.length_eraseIdx]; split <;> omega, M.tail.tail.tail.tail.tail⟩

end Go.Proofs.YtigfbpbnohkokaaGreat

namespace Go.Proofs.YtigfbpbnohkokaaGreat
open Go Go.Fw Go.RowKit
set_option linter.unusedVariables false
set_option linter.unusedSimpArgs false

section
variable {l : List Raw} {hl : List Opn} {p x y b d : List UInt8} {who n : Int} {w : Bool}
theorem RI.remove (h : RI l hl) (h0 : (removeL l p).2 = 0) (hno : ∀ z ∈ hl, z.2.2.1 ≠ p) : RI (removeL l p).1 hl := by
 obtain ⟨h1, h2, h3⟩ := remove_row h0
 obtain ⟨r, hr, hrp⟩ := findL_mem h2 h1
 obtain ⟨j, hj, hat⟩ := row_of hr h.tr.names
 have hn := h.tr.names
 have e : (removeL l p).1 = l.eraseIdx j := by rw [h3, ← hrp, hat, Int.toNat_natCast]
 have hmem := fun y => mem_erase (y := y) hn hj
 refine h.files (h.tr.remove p) ?_ ?_ (fun z hz e1 he => ?_)
 ·rw [e, List.length_eraseIdx]; have := h.le; split <;> omega
 ·rw [e]
  have hp := usedL_perm (erase_perm hj)
  rw [usedL_cons] at hp
  have := h.us
  omega
 ·exact ⟨e1, by rw [e]; exact (hmem _).2 ⟨he, by rw [hrp]; exact hno z hz⟩⟩
theorem RI.mkdir (h : RI l hl) (p : List UInt8) : RI (mkdirL l p).1 hl := by
 have ht := h.tr.mkdir p
 have hl := h.le
 have hu := h.us
 unfold mkdirL at ht ⊢
 split
 ·rename_i h1
  rw [if_pos h1] at ht
  split
  ·exact h
  ·rename_i h2
   rw [if_neg h2] at ht
   split
   ·exact h
   ·rename_i h3
    rw [if_neg h3] at ht
    exact h.files ht (by rw [withR_len]; omega) (by rw [usedL_with]; simpa using hu) (fun z hz e he => ⟨e, withR_mem.2 (.inr he)⟩)
 ·exact h
theorem rename_self (l : List Raw) (x : List UInt8) : (renameL l x x).1 = l := by
 unfold renameL
 split
 ·split
  ·rfl
  ·split
   ·rw [if_pos rfl]
   ·rfl
 ·rfl
theorem used_fold (x y : List UInt8) : ∀ l A : List Raw, usedL (l.foldl (fun a f => withR a (mvN x y f)) A) = usedL A + usedL l
 | [], A => by simp [usedL]
 | f :: l, A => by
  rw [List.foldl_cons, used_fold x y l, usedL_with, mvN_eq, usedL_cons]
  simp only
  omega
theorem RI.rename (h : RI l hl) (h0 : (renameL l x y).2 = 0) : RI (renameL l x y).1 (hl.map (movO x y)) := by
 have ht := h.tr.rename x y
 have hkr : ∀ z ∈ hl.map (movO x y), 0 ≤ z.1 ∧ z.1 < 8 ∧ 1 ≤ z.2.1 ∧ z.2.1 ≤ 16 := fun z hz => by
  obtain ⟨z0, hz0, rfl⟩ := List.mem_map.1 hz
  exact h.kr z0 hz0
 by_cases hxy : x = y
 ·subst hxy
  rw [rename_self] at ht ⊢
  refine ⟨ht, h.le, h.us, fun z hz => ?_, nd_mov h.nd, hkr⟩
  obtain ⟨z0, hz0, rfl⟩ := List.mem_map.1 hz
  show ∃ d, (movP x x z0.2.2.1, false, d) ∈ l
  rw [movP_self]
  exact h.ho z0 hz0
 ·obtain ⟨_, e⟩ := rename_mov h0 hxy
  rw [e] at ht ⊢
  refine ⟨ht, ?_, ?_, fun z hz => ?_, nd_mov h.nd, hkr⟩
  ·unfold movL; rw [foldW_len]; simpa using h.le
  ·have := used_fold x y l []
   unfold movL
   rw [this]
   simpa [usedL] using h.us
  ·obtain ⟨z0, hz0, rfl⟩ := List.mem_map.1 hz
   obtain ⟨d, hd⟩ := h.ho z0 hz0
   refine ⟨d, ?_⟩
   unfold movL
   rw [foldW_mem]
   exact .inr ⟨_, hd, by rw [mvN_eq]; rfl⟩
theorem RI.hand (h : RI l hl) (hf : hfL hl who n = none) (hp : (p, false, d) ∈ l) (hk : 0 ≤ who ∧ who < 8 ∧ 1 ≤ n ∧ n ≤ 16) : RI l (hl ++ [(who, n, p, w)]) := by
 refine ⟨h.tr, h.le, h.us, fun z hz => ?_, nd_open h.nd hf, fun z hz => ?_⟩
 ·rcases List.mem_append.1 hz with hz | hz
  ·exact h.ho z hz
  ·rw [List.mem_singleton.1 hz]; exact ⟨d, hp⟩
 ·rcases List.mem_append.1 hz with hz | hz
  ·exact h.kr z hz
  ·rw [List.mem_singleton.1 hz]; exact hk
theorem RI.put (h : RI l hl) (h0 : (putL l p []).2 = 0) (hn : ∀ y ∈ l, y.1 ≠ p) : RI (putL l p []).1 hl ∧ (p, false, []) ∈ (putL l p []).1 := by
 have ht := h.tr.put p []
 have e := put_new hn h0
 have h128 : l.length < 128 := by
  have hf : l.find? (fun x => decide (x.1 = p)) = none := List.find?_eq_none.2 fun y hy => by simpa using hn y hy
  unfold putL at h0
  rw [hf] at h0
  split at h0
  ·simp only at h0
   split at h0
   ·cases h0
   ·split at h0
    ·cases h0
    ·omega
  ·rename_i h1; exact absurd h0 h1
 rw [e] at ht ⊢
 refine ⟨h.files ht (by rw [withR_len]; omega) (by rw [usedL_with]; have := h.us; simpa using this) (fun z hz e he => ⟨e, withR_mem.2 (.inr he)⟩), withR_mem.2 (.inl rfl)⟩
end
end Go.Proofs.YtigfbpbnohkokaaGreat

namespace Go.Proofs.YtigfbpbnohkokaaGreat
open Go Go.Fw Go.RowKit Go.Proofs
set_option linter.unusedVariables false
set_option linter.unusedSimpArgs false
set_option maxRecDepth 100000
set_option maxHeartbeats 4000000
theorem mem_take_snoc2 {α : Type} {P : α → Prop} {l : List α} {j : Nat} {x : α} (hx : l[j]? = some x) (h : ∀ y ∈ l.take j, P y) (hp : P x) : ∀ y ∈ l.take (j + 1), P y := by
 intro y hy
 rw [take_snoc hx] at hy
 rcases List.mem_append.1 hy with hy | hy
 ·exact h y hy
 ·rw [List.mem_singleton.1 hy]; exact hp
-- (valise/valiseref19.FS).remove
theorem fremove_c {w00 w0 : World} {X L : List (Nat × Obj)} {u hv : Value} {l : List Raw} {hl : List Opn} {p : List UInt8} (M : Sep w00 (X ++ L) w0) (hF : FilesK w00 L u l) (hO : OpnK w00 L hv hl) (hI : RI l hl) (hlen : hl.length ≤ 1000) (hpl : p.length ≤ 2000) : Ret Tryz.prog 91 #[.agg #[u, hv], strV p] w0 (RfP w00 L X hl (removeS l (hfL hl) p)) := by
 obtain ⟨pu, cu, rfl⟩ := (hF.at_ M (fun y hy => mR hy)).shape
 obtain ⟨ph, chh, rfl⟩ := Sg.shape (hO _ _ M (fun y hy => mR hy))
 have hT := hI.tr
 have hll := hI.le
 have hus := hI.us
 have hob := openB_any (p := p) hI.kr hI.nd
 refine Ret.of_W Tryz.func91 rfl Tryz.ntmps91 rfl ?_
 refine go 1 ?_
 intro bbx1 _ M
 refine go 1 ?_
 intro bal1 _ M
 refine go 1 ?_
 intro bal2 _ M
 refine go 1 ?_
 refine x_call rfl rfl rfl rfl rfl en121 (rremove_x (p := p) (X := _ :: _ :: _ :: X) M hF (by omega)) ?_
 rintro r_ w1 ⟨u1, L1, rfl, hF1, M⟩
 obtain ⟨pu1, cu1, rfl⟩ := (hF1.at_ M (fun y hy => mR hy)).shape
 refine ⟨trivial, ?_⟩
 refine go 1 ?_
 intro bal3 _ M
 refine go 1 ?_
 intro _ M
 refine cnd 1 ?_ ?_
 ·intro hco1
  have hS : removeS l (hfL hl) p = (badS (removeL l p).2, l, hfL hl) := by unfold removeS; rw [if_neg hco1]
  refine go 0 ?_
  refine W.regD (by kernel_rfl) #[0, 0, 2, 7, 15] [(0, false), (1, false), (2, true), (3, true), (4, true)] (by kernel_rfl) ?_
  intro K wD1 hK hwD1
  have M := M.drew hwD1
  refine go 1 ?_
  refine x_call rfl rfl rfl rfl rfl en50 (rbad_c) ?_
  rintro r_ wcall2 ⟨rfl, hncall2⟩
  have M := M.new hncall2
  refine pnd ?_
  refine x_st [_, _] _ rfl rfl rfl sz70 rfl rfl rfl rfl (by first | exact M.at_ 0 rfl | exact M.at_ 1 rfl | exact M.at_ 2 rfl | exact M.at_ 3 rfl | exact M.at_ 4 rfl | exact M.at_ 5 rfl | exact M.at_ 6 rfl | exact M.at_ 7 rfl) rfl rfl rfl ?_
  intro wst2 hwst2
  have M := by first | exact M.put 0 rfl hwst2 | exact M.put 1 rfl hwst2 | exact M.put 2 rfl hwst2 | exact M.put 3 rfl hwst2 | exact M.put 4 rfl hwst2 | exact M.put 5 rfl hwst2 | exact M.put 6 rfl hwst2 | exact M.put 7 rfl hwst2
  refine pnd ?_
  refine x_st [_, _, _, _, _] _ rfl rfl rfl sz49 rfl rfl rfl rfl (by first | exact M.at_ 0 rfl | exact M.at_ 1 rfl | exact M.at_ 2 rfl | exact M.at_ 3 rfl | exact M.at_ 4 rfl | exact M.at_ 5 rfl | exact M.at_ 6 rfl | exact M.at_ 7 rfl) rfl rfl rfl ?_
  intro wst3 hwst3
  have M := by first | exact M.put 0 rfl hwst3 | exact M.put 1 rfl hwst3 | exact M.put 2 rfl hwst3 | exact M.put 3 rfl hwst3 | exact M.put 4 rfl hwst3 | exact M.put 5 rfl hwst3 | exact M.put 6 rfl hwst3 | exact M.put 7 rfl hwst3
  refine pnd ?_
  refine go 1 ?_
  exact RfP.same hS RsK.bad hF hO hI M.tail.tail.tail.tail
 ·intro hco1
  refine go 0 ?_
  refine W.loop (σ := Nat) (fun j => [(1, _), (2, _), (4, _), (5, _), (6, _), (8, .int .i64 ((j : Nat) : Int))]) (fun j w => j ≤ hl.length ∧ (∀ y ∈ hl.take j, y.2.2.1 ≠ p) ∧ Sep w00 (((bal3, .cells [.slice pu1 (removeL l p).1.length cu1].toArray 31 (0, 0)) :: (bal2, .cells [.int .i64 0, .int .i64 0, .int .i64 0, .slice none 0 0, .slice none 0 0].toArray 49 (0, 0)) :: (bal1, .cells [.slice none 0 0, .slice none 0 0].toArray 70 (0, 0)) :: (bbx1, .cells [.slice pu l.length cu, .slice ph hl.length chh].toArray 70 (0, 0)) :: X) ++ (L ++ L1)) w) (fun j => hl.length - j) 0 ⟨rfl, rfl, rfl, rfl, rfl, rfl, trivial⟩ ⟨Nat.zero_le _, by simp, M⟩ ?_
  rintro j w ⟨hj, hno, M⟩
  refine cnd 3 ?_ ?_
  ·intro hco2
   obtain ⟨x, hx⟩ := get_lt (l := hl) (q := j) (by omega)
   have hOA := hO _ _ M (fun y hy => by simp [hy])
   obtain ⟨bb, off, rfl, _⟩ := OpnAt.blk hOA (j := j) (by omega)
   have hrow := OpnAt.row hOA hx
   refine go 1 ?_
   refine x_ia j rfl rfl rfl Tryz.underlying68 sz123 rfl rfl rfl (by omega) ?_
   refine go 0 ?_
   refine x_ld rfl rfl rfl Tryz.underlying9 rfl rfl (RowAt.cell hrow (j := 2) rfl) ?_
   refine cnd 1 ?_ ?_
   ·intro hco3
    have hS : removeS l (hfL hl) p = (badS 18, l, hfL hl) := by unfold removeS; rw [if_pos hco1, hob, if_pos (List.any_eq_true.2 ⟨x, List.mem_of_getElem? hx, decide_eq_true hco3⟩)]
    refine go 0 ?_
    refine W.regD (by kernel_rfl) #[0, 0, 3, 7] [(0, false), (1, true), (2, true), (3, true)] (by kernel_rfl) ?_
    intro K wD2 hK hwD2
    have M := M.drew hwD2
    refine go 1 ?_
    refine x_call rfl rfl rfl rfl rfl en50 (rbad_c) ?_
    rintro r_ wcall3 ⟨rfl, hncall3⟩
    have M := M.new hncall3
    refine pnd ?_
    refine x_st [_, _] _ rfl rfl rfl sz70 rfl rfl rfl rfl (by first | exact M.at_ 0 rfl | exact M.at_ 1 rfl | exact M.at_ 2 rfl | exact M.at_ 3 rfl | exact M.at_ 4 rfl | exact M.at_ 5 rfl | exact M.at_ 6 rfl | exact M.at_ 7 rfl) rfl rfl rfl ?_
    intro wst4 hwst4
    have M := by first | exact M.put 0 rfl hwst4 | exact M.put 1 rfl hwst4 | exact M.put 2 rfl hwst4 | exact M.put 3 rfl hwst4 | exact M.put 4 rfl hwst4 | exact M.put 5 rfl hwst4 | exact M.put 6 rfl hwst4 | exact M.put 7 rfl hwst4
    refine pnd ?_
    refine x_st [_, _, _, _, _] _ rfl rfl rfl sz49 rfl rfl rfl rfl (by first | exact M.at_ 0 rfl | exact M.at_ 1 rfl | exact M.at_ 2 rfl | exact M.at_ 3 rfl | exact M.at_ 4 rfl | exact M.at_ 5 rfl | exact M.at_ 6 rfl | exact M.at_ 7 rfl) rfl rfl rfl ?_
    intro wst5 hwst5
    have M := by first | exact M.put 0 rfl hwst5 | exact M.put 1 rfl hwst5 | exact M.put 2 rfl hwst5 | exact M.put 3 rfl hwst5 | exact M.put 4 rfl hwst5 | exact M.put 5 rfl hwst5 | exact M.put 6 rfl hwst5 | exact M.put 7 rfl hwst5
    refine pnd ?_
    refine go 1 ?_
    exact RfP.same hS RsK.bad hF hO hI M.tail.tail.tail.tail
   ·intro hco3
    refine go 0 ?_
    refine x_add _ rfl rfl rfl rfl rfl (wadd (by omega) (by omega)) ?_
    refine go 0 ?_
    exact At.back (j + 1) ⟨rfl, rfl, rfl, rfl, rfl, rfl, trivial⟩ ⟨by omega, mem_take_snoc2 hx hno hco3, M⟩ (by first | omega | (simp only; omega) | (simp; done) | (simp; omega))
  ·intro hco2
   have hj2 : j = hl.length := by omega
   subst hj2
   rw [List.take_length] at hno
   have hS : removeS l (hfL hl) p = (badS 0, (removeL l p).1, hfL hl) := by
    unfold removeS
    rw [if_pos hco1, hob, if_neg]
    rw [List.any_eq_true]
    rintro ⟨z, hz, he⟩
    exact hno z hz (of_decide_eq_true he)
   refine go 5 ?_
   intro _ M
   refine go 1 ?_
   intro _ M
   refine go 1 ?_
   exact RfP.rows hS RsK.bad hF1 hO (hI.remove hco1 hno) M.tail.tail.tail.tail

end Go.Proofs.YtigfbpbnohkokaaGreat

namespace Go.Proofs.YtigfbpbnohkokaaGreat
open Go Go.Fw Go.RowKit
set_option linter.unusedVariables false
set_option linter.unusedSimpArgs false

def movsO (hl : List Opn) (x y : List UInt8) (j : Nat) : List Opn := (hl.take j).map (movO x y) ++ hl.drop j
section
variable {hl : List Opn} {x y q : List UInt8} {j : Nat} {z : Opn} {rest : List Value}
theorem movsO_len : (movsO hl x y j).length = hl.length := by unfold movsO; simp; omega
theorem movsO_zero : movsO hl x y 0 = hl := by simp [movsO]
theorem movsO_all (h : hl.length ≤ j) : movsO hl x y j = hl.map (movO x y) := by unfold movsO; rw [List.take_of_length_le h, List.drop_of_length_le h, List.append_nil]
theorem movsO_get (hz : hl[j]? = some z) : (movsO hl x y j)[j]? = some z := by
 have hl' := (List.getElem?_eq_some_iff.1 hz).1
 unfold movsO
 rw [List.getElem?_append_right (by rw [List.length_map, List.length_take]; omega), List.length_map, List.length_take, Nat.min_eq_left (by omega), Nat.sub_self, List.getElem?_drop]
 exact hz
theorem movsO_set (hz : hl[j]? = some z) : (movsO hl x y j).set j (movO x y z) = movsO hl x y (j + 1) := by
 have hl' := (List.getElem?_eq_some_iff.1 hz).1
 unfold movsO
 rw [List.set_append_right _ _ (by rw [List.length_map, List.length_take]; omega), List.length_map, List.length_take, Nat.min_eq_left (by omega), Nat.sub_self, take_snoc hz, List.map_append]
 have e : hl.drop j = z :: hl.drop (j + 1) := by
  obtain ⟨h1, h2⟩ := List.getElem?_eq_some_iff.1 hz
  rw [← h2]; exact List.drop_eq_getElem_cons h1
 rw [e, List.set_cons_zero]
 simp
theorem movsO_same (hz : hl[j]? = some z) (h : movO x y z = z) : movsO hl x y (j + 1) = movsO hl x y j := by
 rw [← movsO_set hz, h]
 have := movsO_get (x := x) (y := y) hz
 obtain ⟨h1, h2⟩ := List.getElem?_eq_some_iff.1 this
 rw [← h2]; exact List.set_getElem_self h1
theorem movO_no (h : ¬ underP z.2.2.1 x = true) : movO x y z = z := by unfold movO movP; rw [if_neg h]
theorem movO_yes (h : underP z.2.2.1 x = true) : movO x y z = (z.1, z.2.1, y ++ z.2.2.1.drop x.length, z.2.2.2) := by unfold movO movP; rw [if_pos h]
theorem oCs_set (hz : hl[j]? = some z) : (oCs hl ++ rest).take (j * 4 + 2) ++ [strV q] ++ (oCs hl ++ rest).drop (j * 4 + 2 + 1) = oCs (hl.set j (z.1, z.2.1, q, z.2.2.2)) ++ rest := by
 have hl' := (List.getElem?_eq_some_iff.1 hz).1
 have e1 : oCs hl = (oCs (hl.take j) ++ [.int .i64 z.1, .int .i64 z.2.1]) ++ (strV z.2.2.1 :: .bool z.2.2.2 :: oCs (hl.drop (j + 1))) := by
  conv => lhs; rw [split_at hz]
  simp [oCs, oR]
 have e2 : oCs (hl.set j (z.1, z.2.1, q, z.2.2.2)) = (oCs (hl.take j) ++ [.int .i64 z.1, .int .i64 z.2.1]) ++ (strV q :: .bool z.2.2.2 :: oCs (hl.drop (j + 1))) := by
  rw [set_at hz]
  simp [oCs, oR]
 have hA : (oCs (hl.take j) ++ [Value.int .i64 z.1, Value.int .i64 z.2.1]).length = j * 4 + 2 := by
  rw [List.length_append, oCs_len, List.length_take]
  simp only [List.length_cons, List.length_nil]; omega
 rw [e1, e2, List.append_assoc, List.append_assoc, tk_app hA, dr_app 1 hA]
 simp
theorem opn_set {L : List (Nat × Obj)} {v : Value} (h : OwL L v 4 hl.length (oCs hl)) (hz : hl[j]? = some z) : ∃ blk cap rest T, v = .slice (some ⟨blk, 0, none⟩) hl.length cap ∧ L = [(blk, .cells (oCs hl ++ rest).toArray T (0, 0))] ∧ (oCs hl ++ rest).length = cap * 4 ∧
  OwL [(blk, .cells ((oCs hl ++ rest).take (j * 4 + 2) ++ [strV q] ++ (oCs hl ++ rest).drop (j * 4 + 2 + 1)).toArray T (0, 0))] v 4 hl.length (oCs (hl.set j (z.1, z.2.1, q, z.2.2.2))) := by
 have hj := (List.getElem?_eq_some_iff.1 hz).1
 rcases h with ⟨_, h2, _⟩ | ⟨blk, cap, rest, T, rfl, rfl, h3, h4⟩
 ·omega
 ·refine ⟨blk, cap, rest, T, rfl, rfl, h4, .inr ⟨blk, cap, rest, T, rfl, by rw [oCs_set hz], by rw [oCs_len, List.length_set], ?_⟩⟩
  rw [List.length_append, oCs_len, List.length_set, ← oCs_len, ← List.length_append]; exact h4
end
end Go.Proofs.YtigfbpbnohkokaaGreat

namespace Go.Proofs.YtigfbpbnohkokaaGreat
open Go Go.Fw Go.RowKit Go.Proofs
set_option linter.unusedVariables false
set_option linter.unusedSimpArgs false
set_option maxRecDepth 100000
set_option maxHeartbeats 4000000

-- (valise/valiseref19.FS).rename
theorem frename_c {w00 w0 : World} {X L : List (Nat × Obj)} {u hv : Value} {l : List Raw} {hl : List Opn} {p q : List UInt8} (M : Sep w00 (X ++ L) w0) (hF : FilesK w00 L u l) (hO : OpnK w00 L hv hl) (hI : RI l hl) (hlen : hl.length ≤ 1000) : Ret Tryz.prog 92 #[.agg #[u, hv], strV p, strV q] w0 (RfP w00 L X hl (renameS l (hfL hl) p q)) := by
 obtain ⟨pu, cu, rfl⟩ := (hF.at_ M (fun y hy => mR hy)).shape
 obtain ⟨ph, chh, rfl⟩ := Sg.shape (hO _ _ M (fun y hy => mR hy))
 have hT := hI.tr
 have hll := hI.le
 have hus := hI.us
 refine Ret.of_W Tryz.func92 rfl Tryz.ntmps92 rfl ?_
 refine go 1 ?_
 intro bbx1 _ M
 refine go 1 ?_
 intro bal1 _ M
 refine go 1 ?_
 intro bal2 _ M
 refine go 0 ?_
 refine x_call rfl rfl rfl rfl rfl en84 (rclean_c) ?_
 rintro r_ w1 ⟨rfl, hn1⟩
 have M := M.new hn1
 refine ⟨trivial, ?_⟩
 refine cnd 1 ?_ ?_
 ·intro hco1
  have hS : renameS l (hfL hl) p q = (badS (cleanP q).2, l, hfL hl) := by unfold renameS; rw [if_neg hco1]
  refine go 0 ?_
  refine W.regD (by kernel_rfl) #[0, 0, 2, 7, 15] [(0, false), (1, false), (2, true), (3, true), (4, true)] (by kernel_rfl) ?_
  intro K wD1 hK hwD1
  have M := M.drew hwD1
  refine go 1 ?_
  refine x_call rfl rfl rfl rfl rfl en50 (rbad_c) ?_
  rintro r_ wcall2 ⟨rfl, hncall2⟩
  have M := M.new hncall2
  refine pnd ?_
  refine x_st [_, _] _ rfl rfl rfl sz70 rfl rfl rfl rfl (by first | exact M.at_ 0 rfl | exact M.at_ 1 rfl | exact M.at_ 2 rfl | exact M.at_ 3 rfl | exact M.at_ 4 rfl | exact M.at_ 5 rfl | exact M.at_ 6 rfl | exact M.at_ 7 rfl) rfl rfl rfl ?_
  intro wst1 hwst1
  have M := by first | exact M.put 0 rfl hwst1 | exact M.put 1 rfl hwst1 | exact M.put 2 rfl hwst1 | exact M.put 3 rfl hwst1 | exact M.put 4 rfl hwst1 | exact M.put 5 rfl hwst1 | exact M.put 6 rfl hwst1 | exact M.put 7 rfl hwst1
  refine pnd ?_
  refine x_st [_, _, _, _, _] _ rfl rfl rfl sz49 rfl rfl rfl rfl (by first | exact M.at_ 0 rfl | exact M.at_ 1 rfl | exact M.at_ 2 rfl | exact M.at_ 3 rfl | exact M.at_ 4 rfl | exact M.at_ 5 rfl | exact M.at_ 6 rfl | exact M.at_ 7 rfl) rfl rfl rfl ?_
  intro wst2 hwst2
  have M := by first | exact M.put 0 rfl hwst2 | exact M.put 1 rfl hwst2 | exact M.put 2 rfl hwst2 | exact M.put 3 rfl hwst2 | exact M.put 4 rfl hwst2 | exact M.put 5 rfl hwst2 | exact M.put 6 rfl hwst2 | exact M.put 7 rfl hwst2
  refine pnd ?_
  refine go 1 ?_
  exact RfP.bad hS hF hO hI M.tail.tail.tail
 ·intro hco1
  have htl : (cleanP q).1.length ≤ 120 := by
   obtain ⟨k_, _, _, h3, h4⟩ := clean_ok hco1
   rw [h4]; exact h3
  refine go 1 ?_
  refine x_call rfl rfl rfl rfl rfl en122 (rrename_x (p := p) (y := (cleanP q).1) (X := _ :: _ :: _ :: X) M hF (by omega) (fun y hy => by have := (hT.row hy).2.2.1; omega) (by omega)) ?_
  rintro r_ w3 ⟨u1, L1, rfl, hF1, M⟩
  obtain ⟨pu1, cu1, rfl⟩ := (hF1.at_ M (fun y hy => mR hy)).shape
  refine ⟨trivial, ?_⟩
  refine go 1 ?_
  intro bal3 _ M
  refine go 1 ?_
  intro _ M
  refine cnd 1 ?_ ?_
  ·intro hco2
   have hS : renameS l (hfL hl) p q = (badS (renameL l p (cleanP q).1).2, l, hfL hl) := by unfold renameS; rw [if_pos hco1, if_neg hco2]
   refine go 0 ?_
   refine W.regD (by kernel_rfl) #[0, 0, 2, 7, 15] [(0, false), (1, false), (2, true), (3, true), (4, true)] (by kernel_rfl) ?_
   intro K wD2 hK hwD2
   have M := M.drew hwD2
   refine go 1 ?_
   refine x_call rfl rfl rfl rfl rfl en50 (rbad_c) ?_
   rintro r_ wcall4 ⟨rfl, hncall4⟩
   have M := M.new hncall4
   refine pnd ?_
   refine x_st [_, _] _ rfl rfl rfl sz70 rfl rfl rfl rfl (by first | exact M.at_ 0 rfl | exact M.at_ 1 rfl | exact M.at_ 2 rfl | exact M.at_ 3 rfl | exact M.at_ 4 rfl | exact M.at_ 5 rfl | exact M.at_ 6 rfl | exact M.at_ 7 rfl) rfl rfl rfl ?_
   intro wst4 hwst4
   have M := by first | exact M.put 0 rfl hwst4 | exact M.put 1 rfl hwst4 | exact M.put 2 rfl hwst4 | exact M.put 3 rfl hwst4 | exact M.put 4 rfl hwst4 | exact M.put 5 rfl hwst4 | exact M.put 6 rfl hwst4 | exact M.put 7 rfl hwst4
   refine pnd ?_
   refine x_st [_, _, _, _, _] _ rfl rfl rfl sz49 rfl rfl rfl rfl (by first | exact M.at_ 0 rfl | exact M.at_ 1 rfl | exact M.at_ 2 rfl | exact M.at_ 3 rfl | exact M.at_ 4 rfl | exact M.at_ 5 rfl | exact M.at_ 6 rfl | exact M.at_ 7 rfl) rfl rfl rfl ?_
   intro wst5 hwst5
   have M := by first | exact M.put 0 rfl hwst5 | exact M.put 1 rfl hwst5 | exact M.put 2 rfl hwst5 | exact M.put 3 rfl hwst5 | exact M.put 4 rfl hwst5 | exact M.put 5 rfl hwst5 | exact M.put 6 rfl hwst5 | exact M.put 7 rfl hwst5
   refine pnd ?_
   refine go 1 ?_
   exact RfP.same hS RsK.bad hF hO hI M.tail.tail.tail.tail
  ·intro hco2
   have hS : renameS l (hfL hl) p q = (badS 0, (renameL l p (cleanP q).1).1, movH (hfL hl) p (cleanP q).1) := by unfold renameS; rw [if_pos hco1, if_pos hco2]
   refine go 0 ?_
   refine x_bs0 rfl rfl rfl Tryz.underlying68 sz123 ?_
   intro bb0 wb hbb hwb
   have M := M.acons hbb hwb
   refine ⟨trivial, ?_⟩
   refine go 1 ?_
   have hOA := hO _ _ M (fun y hy => by simp [hy])
   refine x_apL (L := [_]) (cs := []) (nn := 0) rfl rfl rfl rfl Tryz.underlying68 sz123 ze123 rfl by123 rfl rfl (.inr ⟨bb0, 0, [], _, rfl, rfl, rfl, rfl⟩) M (by simp) (hOA.src Tryz.underlying68 (oCs_one _)) (by omega) (by decide) (by omega) ?_
   intro Lo v6 w6 how M
   rw [Nat.zero_add, List.nil_append] at how
   obtain ⟨p6, c6, rfl⟩ := how.shape
   refine ⟨trivial, ?_⟩
   refine go 0 ?_
   refine W.loop (σ := Nat × List (Nat × Obj)) (fun q_ => [(1, _), (6, _), (7, _), (8, _), (10, _), (12, .slice p6 hl.length c6), (13, .int .i64 ((q_.1 : Nat) : Int))]) (fun q_ w => q_.1 ≤ hl.length ∧ OwL q_.2 (.slice p6 hl.length c6) 4 hl.length (oCs (movsO hl p (cleanP q).1 q_.1)) ∧ Sep w00 (q_.2 ++ (((bal3, .cells [.slice pu1 (renameL l p (cleanP q).1).1.length cu1].toArray 31 (0, 0)) :: (bal2, .cells [.int .i64 0, .int .i64 0, .int .i64 0, .slice none 0 0, .slice none 0 0].toArray 49 (0, 0)) :: (bal1, .cells [.slice none 0 0, .slice none 0 0].toArray 70 (0, 0)) :: (bbx1, .cells [.slice pu l.length cu, .slice ph hl.length chh].toArray 70 (0, 0)) :: X) ++ (L ++ L1))) w) (fun q_ => hl.length - q_.1) (0, Lo) ⟨rfl, rfl, rfl, rfl, rfl, rfl, rfl, trivial⟩ ⟨Nat.zero_le _, by simp only; rw [movsO_zero]; exact how, M⟩ ?_
   rintro ⟨j, Lo⟩ w ⟨hj, ho, M⟩
   simp only at hj ho M
   refine cnd 2 ?_ ?_
   ·intro hco3
    obtain ⟨z, hz⟩ := get_lt (l := hl) (q := j) (by omega)
    have hzm := movsO_get (x := p) (y := (cleanP q).1) hz
    have ho2 : OwL Lo (.slice p6 hl.length c6) 4 (movsO hl p (cleanP q).1 j).length (oCs (movsO hl p (cleanP q).1 j)) := by rw [movsO_len]; exact ho
    obtain ⟨blk, cap, rest, T, hv, rfl, hcap, hset⟩ := opn_set (q := (cleanP q).1 ++ z.2.2.1.drop p.length) ho2 hzm
    injection hv with hv1 hv2 hv3
    subst hv1 hv3
    rw [movsO_len] at hset
    have hOw : OpnAt w (.slice (some ⟨blk, 0, none⟩) hl.length c6) (movsO hl p (cleanP q).1 j) := by
     unfold OpnAt; rw [movsO_len]; exact .inr ((OwL.sl ho (by decide)).get (fun y hy => M.get (List.mem_append_left _ hy)))
    have hrow := OpnAt.row hOw hzm
    obtain ⟨dz, hdz⟩ := hI.ho z (List.mem_of_getElem? hz)
    have hzl := (hT.row hdz).2.2.1
    simp only at hzl
    refine go 0 ?_
    refine x_ia j rfl rfl rfl Tryz.underlying68 sz123 rfl rfl rfl (by omega) ?_
    refine go 0 ?_
    refine x_ld rfl rfl rfl Tryz.underlying9 rfl rfl (RowAt.cell hrow (j := 2) rfl) ?_
    refine go 0 ?_
    refine x_call rfl rfl rfl rfl rfl en34 (runder_c) ?_
    rintro r_ w5 ⟨rfl, hn5⟩
    have M := M.new hn5
    have hrow := RowAt.new hrow hn5
    refine ⟨trivial, ?_⟩
    refine cnd 0 ?_ ?_
    ·intro hco4
     have hul := under_len hco4
     refine go 0 ?_
     refine x_ia j rfl rfl rfl Tryz.underlying68 sz123 rfl rfl rfl (by omega) ?_
     refine go 0 ?_
     refine x_ld rfl rfl rfl Tryz.underlying9 rfl rfl (RowAt.cell hrow (j := 2) rfl) ?_
     refine go 1 ?_
     refine x_sslS p.length rfl rfl rfl Tryz.underlying9 rfl rfl rfl (by omega) ?_
     refine x_catS rfl rfl rfl rfl rfl (by rw [List.length_drop]; omega) ?_
     refine x_ia j rfl rfl rfl Tryz.underlying68 sz123 rfl rfl rfl (by omega) ?_
     refine go 0 ?_
     refine x_st [_] _ rfl rfl rfl sz9 rfl rfl rfl rfl (M.at_ 0 rfl) rfl (Nat.ble_eq_true_of_le (by rw [List.length_append, oCs_len, movsO_len]; simp only [List.length_cons, List.length_nil]; omega)) rfl ?_
     intro wst6 hwst6
     have M := M.put 0 rfl hwst6
     rw [Nat.zero_add] at M
     have M : Sep w00 ([(blk, .cells ((oCs (movsO hl p (cleanP q).1 j) ++ rest).take (j * 4 + 2) ++ [strV ((cleanP q).1 ++ z.2.2.1.drop p.length)] ++ (oCs (movsO hl p (cleanP q).1 j) ++ rest).drop (j * 4 + 2 + 1)).toArray T (0, 0))] ++ (((bal3, .cells [.slice pu1 (renameL l p (cleanP q).1).1.length cu1].toArray 31 (0, 0)) :: (bal2, .cells [.int .i64 0, .int .i64 0, .int .i64 0, .slice none 0 0, .slice none 0 0].toArray 49 (0, 0)) :: (bal1, .cells [.slice none 0 0, .slice none 0 0].toArray 70 (0, 0)) :: (bbx1, .cells [.slice pu l.length cu, .slice ph hl.length chh].toArray 70 (0, 0)) :: X) ++ (L ++ L1))) wst6 := M
     refine ⟨trivial, ?_⟩
     refine go 0 ?_
     refine x_add _ rfl rfl rfl rfl rfl (wadd (by omega) (by omega)) ?_
     refine go 0 ?_
     exact At.back ((j + 1, _)) ⟨rfl, rfl, rfl, rfl, rfl, rfl, rfl, trivial⟩ ⟨by simp only; omega, by simp only; rw [← movsO_set hz, movO_yes hco4]; exact hset, M⟩ (by first | omega | (simp only; omega) | (simp; done) | (simp; omega))
    ·intro hco4
     refine go 0 ?_
     refine x_add _ rfl rfl rfl rfl rfl (wadd (by omega) (by omega)) ?_
     refine go 0 ?_
     exact At.back ((j + 1, _)) ⟨rfl, rfl, rfl, rfl, rfl, rfl, rfl, trivial⟩ ⟨by simp only; omega, by simp only; rw [movsO_same hz (movO_no (by rw [hco4]; simp))]; exact ho, M⟩ (by first | omega | (simp only; omega) | (simp; done) | (simp; omega))
   ·intro hco3
    have hj2 : j = hl.length := by omega
    rw [hj2, movsO_all (Nat.le_refl _)] at ho
    have hlm : (hl.map (movO p (cleanP q).1)).length = hl.length := by simp
    rw [← hlm] at ho
    have M : Sep w00 ((_ :: _ :: _ :: _ :: X) ++ ((L ++ L1) ++ Lo)) _ := St.lay M
    refine go 4 ?_
    intro _ M
    refine go 1 ?_
    intro _ M
    refine go 1 ?_
    rw [hS]
    rw [List.append_assoc] at M
    rw [← hlm]
    exact ⟨_, _, _, _, hl.map (movO p (cleanP q).1), L1 ++ Lo, _, rfl, RsK.bad, hF1.mono (fun y hy => by simp only [List.mem_append] at hy ⊢; rcases hy with hy | hy <;> simp [hy]), SgK.own ho (by decide) (fun y hy => by simp [hy]), hI.rename hco2, hfL_mov, by omega, M.tail.tail.tail.tail⟩

end Go.Proofs.YtigfbpbnohkokaaGreat

namespace Go.Proofs.YtigfbpbnohkokaaGreat
open Go Go.Fw Go.RowKit Go.Proofs
set_option linter.unusedVariables false
set_option linter.unusedSimpArgs false
set_option maxRecDepth 100000
set_option maxHeartbeats 4000000

-- (valise/valiseref19.FS).named
theorem fnamed_c {w00 w0 : World} {X L : List (Nat × Obj)} {u hv : Value} {l : List Raw} {hl : List Opn} {o : OpS} {dv : Value} (M : Sep w00 (X ++ L) w0) (hF : FilesK w00 L u l) (hO : OpnK w00 L hv hl) (hI : RI l hl) (hlen : hl.length ≤ 1000) (hdv : dv.oneCell' = true) : Ret Tryz.prog 53 #[.agg #[u, hv], .agg (opC o dv).toArray] w0 (RfP w00 L X hl (if (cleanP o.p).2 = 0 then namedS l (hfL hl) (cleanP o.p).1 o else (badS (cleanP o.p).2, l, hfL hl))) := by
 obtain ⟨pu, cu, rfl⟩ := (hF.at_ M (fun y hy => mR hy)).shape
 obtain ⟨ph, chh, rfl⟩ := Sg.shape (hO _ _ M (fun y hy => mR hy))
 have hT := hI.tr
 have hll := hI.le
 have hus := hI.us
 refine Ret.of_W Tryz.func53 rfl Tryz.ntmps53 rfl ?_
 refine go 1 ?_
 intro _ _ M
 refine go 1 ?_
 intro _ _ M
 refine go 1 ?_
 intro _ _ M
 refine go 1 ?_
 intro _ _ M
 refine go 1 ?_
 refine x_call rfl rfl rfl rfl rfl en84 (rclean_c) ?_
 rintro r_ w1 ⟨rfl, hn1⟩
 have M := M.new hn1
 refine ⟨trivial, ?_⟩
 refine cnd 1 ?_ ?_
 ·intro hco1
  have hS : (if (cleanP o.p).2 = 0 then namedS l (hfL hl) (cleanP o.p).1 o else (badS (cleanP o.p).2, l, hfL hl)) = (badS (cleanP o.p).2, l, hfL hl) := by rw [if_neg hco1]
  refine go 0 ?_
  refine W.regD (by kernel_rfl) #[0, 0, 2, 7, 15] [(0, false), (1, false), (2, true), (3, true), (4, true)] (by kernel_rfl) ?_
  intro K wD1 hK hwD1
  have M := M.drew hwD1
  refine go 1 ?_
  refine x_call rfl rfl rfl rfl rfl en50 (rbad_c) ?_
  rintro r_ wcall2 ⟨rfl, hncall2⟩
  have M := M.new hncall2
  refine pnd ?_
  refine x_st [_, _] _ rfl rfl rfl sz70 rfl rfl rfl rfl (by first | exact M.at_ 0 rfl | exact M.at_ 1 rfl | exact M.at_ 2 rfl | exact M.at_ 3 rfl | exact M.at_ 4 rfl | exact M.at_ 5 rfl | exact M.at_ 6 rfl | exact M.at_ 7 rfl) rfl rfl rfl ?_
  intro wst1 hwst1
  have M := by first | exact M.put 0 rfl hwst1 | exact M.put 1 rfl hwst1 | exact M.put 2 rfl hwst1 | exact M.put 3 rfl hwst1 | exact M.put 4 rfl hwst1 | exact M.put 5 rfl hwst1 | exact M.put 6 rfl hwst1 | exact M.put 7 rfl hwst1
  refine pnd ?_
  refine x_st [_, _, _, _, _] _ rfl rfl rfl sz49 rfl rfl rfl rfl (by first | exact M.at_ 0 rfl | exact M.at_ 1 rfl | exact M.at_ 2 rfl | exact M.at_ 3 rfl | exact M.at_ 4 rfl | exact M.at_ 5 rfl | exact M.at_ 6 rfl | exact M.at_ 7 rfl) rfl rfl rfl ?_
  intro wst2 hwst2
  have M := by first | exact M.put 0 rfl hwst2 | exact M.put 1 rfl hwst2 | exact M.put 2 rfl hwst2 | exact M.put 3 rfl hwst2 | exact M.put 4 rfl hwst2 | exact M.put 5 rfl hwst2 | exact M.put 6 rfl hwst2 | exact M.put 7 rfl hwst2
  refine pnd ?_
  refine go 1 ?_
  exact RfP.bad hS hF hO hI M.tail.tail.tail.tail
 ·intro hco1
  have htl : (cleanP o.p).1.length ≤ 120 := by
   obtain ⟨k_, _, _, h3, h4⟩ := clean_ok hco1
   rw [h4]; exact h3
  refine cnd 2 ?_ ?_
  ·intro hco2
   have hS : (if (cleanP o.p).2 = 0 then namedS l (hfL hl) (cleanP o.p).1 o else (badS (cleanP o.p).2, l, hfL hl)) = (badS (mkdirL l (cleanP o.p).1).2, (mkdirL l (cleanP o.p).1).1, hfL hl) := by rw [if_pos hco1]; unfold namedS; rw [if_pos hco2]
   refine go 1 ?_
   refine x_call rfl rfl rfl rfl rfl en90 (rmkdir_x (p := (cleanP o.p).1) (X := _ :: _ :: _ :: _ :: X) M hF (by omega) (fun y hy => by have := (hT.row hy).2.2.1; omega) (by omega)) ?_
   rintro r_ w3 ⟨u1, L1, rfl, hF1, M⟩
   obtain ⟨pu1, cu1, rfl⟩ := (hF1.at_ M (fun y hy => mR hy)).shape
   refine ⟨trivial, ?_⟩
   refine go 1 ?_
   intro _ _ M
   refine go 1 ?_
   intro _ M
   refine go 0 ?_
   refine W.regD (by kernel_rfl) #[0, 0, 2, 7, 0, 16, 63, 127] [(0, false), (1, false), (2, false), (3, false), (4, false), (5, true), (6, true), (7, true)] (by kernel_rfl) ?_
   intro K wD2 hK hwD2
   have M := M.drew hwD2
   refine go 3 ?_
   refine x_call rfl rfl rfl rfl rfl en50 (rbad_c) ?_
   rintro r_ wcall4 ⟨rfl, hncall4⟩
   have M := M.new hncall4
   refine pnd ?_
   refine x_st [_, _] _ rfl rfl rfl sz70 rfl rfl rfl rfl (by first | exact M.at_ 0 rfl | exact M.at_ 1 rfl | exact M.at_ 2 rfl | exact M.at_ 3 rfl | exact M.at_ 4 rfl | exact M.at_ 5 rfl | exact M.at_ 6 rfl | exact M.at_ 7 rfl) rfl rfl rfl ?_
   intro wst4 hwst4
   have M := by first | exact M.put 0 rfl hwst4 | exact M.put 1 rfl hwst4 | exact M.put 2 rfl hwst4 | exact M.put 3 rfl hwst4 | exact M.put 4 rfl hwst4 | exact M.put 5 rfl hwst4 | exact M.put 6 rfl hwst4 | exact M.put 7 rfl hwst4
   refine pnd ?_
   refine x_st [_, _, _, _, _] _ rfl rfl rfl sz49 rfl rfl rfl rfl (by first | exact M.at_ 0 rfl | exact M.at_ 1 rfl | exact M.at_ 2 rfl | exact M.at_ 3 rfl | exact M.at_ 4 rfl | exact M.at_ 5 rfl | exact M.at_ 6 rfl | exact M.at_ 7 rfl) rfl rfl rfl ?_
   intro wst5 hwst5
   have M := by first | exact M.put 0 rfl hwst5 | exact M.put 1 rfl hwst5 | exact M.put 2 rfl hwst5 | exact M.put 3 rfl hwst5 | exact M.put 4 rfl hwst5 | exact M.put 5 rfl hwst5 | exact M.put 6 rfl hwst5 | exact M.put 7 rfl hwst5
   refine pnd ?_
   refine go 1 ?_
   exact RfP.rows hS RsK.bad hF1 hO (hI.mkdir (cleanP o.p).1) M.tail.tail.tail.tail.tail
  ·intro hco2
   refine cnd 1 ?_ ?_
   ·intro hco3
    have hS : (if (cleanP o.p).2 = 0 then namedS l (hfL hl) (cleanP o.p).1 o else (badS (cleanP o.p).2, l, hfL hl)) = removeS l (hfL hl) (cleanP o.p).1 := by rw [if_pos hco1]; unfold namedS; rw [if_neg hco2, if_pos hco3]; rfl
    refine go 1 ?_
    refine x_call rfl rfl rfl rfl rfl en91 (fremove_c (p := (cleanP o.p).1) (X := _ :: _ :: _ :: _ :: X) M hF hO hI hlen (by omega)) ?_
    rintro r_ w5 ⟨pu', cu', ph', ch', hl', L', rv, rfl, hr, hF', hO', hI', hh', hlen', M⟩
    obtain ⟨q1, k1, q2, k2, rfl, hr4, hr5⟩ := hr
    refine ⟨trivial, ?_⟩
    refine go 1 ?_
    intro _ M
    refine go 1 ?_
    intro _ M
    refine go 1 ?_
    rw [hS]
    exact ⟨_, _, _, _, hl', L', _, rfl, ⟨q1, k1, q2, k2, rfl, hr4, hr5⟩, hF', hO', hI', hh', hlen', M.tail.tail.tail.tail⟩
   ·intro hco3
    refine cnd 1 ?_ ?_
    ·intro hco4
     have hS : (if (cleanP o.p).2 = 0 then namedS l (hfL hl) (cleanP o.p).1 o else (badS (cleanP o.p).2, l, hfL hl)) = renameS l (hfL hl) (cleanP o.p).1 o.q := by rw [if_pos hco1]; unfold namedS; rw [if_neg hco2, if_neg hco3, if_pos hco4]; rfl
     refine go 2 ?_
     refine x_call rfl rfl rfl rfl rfl en92 (frename_c (p := (cleanP o.p).1) (q := o.q) (X := _ :: _ :: _ :: _ :: X) M hF hO hI hlen) ?_
     rintro r_ w6 ⟨pu', cu', ph', ch', hl', L', rv, rfl, hr, hF', hO', hI', hh', hlen', M⟩
     obtain ⟨q1, k1, q2, k2, rfl, hr4, hr5⟩ := hr
     refine ⟨trivial, ?_⟩
     refine go 1 ?_
     intro _ M
     refine go 1 ?_
     intro _ M
     refine go 1 ?_
     rw [hS]
     exact ⟨_, _, _, _, hl', L', _, rfl, ⟨q1, k1, q2, k2, rfl, hr4, hr5⟩, hF', hO', hI', hh', hlen', M.tail.tail.tail.tail⟩
    ·intro hco4
     have hS : (if (cleanP o.p).2 = 0 then namedS l (hfL hl) (cleanP o.p).1 o else (badS (cleanP o.p).2, l, hfL hl)) = (⟨(listL l (cleanP o.p).1).2, 0, 0, [], (listL l (cleanP o.p).1).1⟩, l, hfL hl) := by rw [if_pos hco1]; unfold namedS; rw [if_neg hco2, if_neg hco3, if_neg hco4]
     refine go 1 ?_
     refine x_call rfl rfl rfl rfl rfl en93 (rlist_x (p := (cleanP o.p).1) (X := _ :: _ :: _ :: _ :: X) M hF (by omega)) ?_
     rintro r_ w7 ⟨pl, cl, L7, rfl, hl7, M⟩
     refine ⟨trivial, ?_⟩
     refine go 3 ?_
     intro _ M
     refine go 1 ?_
     intro _ M
     refine go 1 ?_
     exact RfP.same hS ⟨none, 0, pl, cl, rfl, nilS (by decide), hl7⟩ hF hO hI M.tail.tail.tail.tail

end Go.Proofs.YtigfbpbnohkokaaGreat

namespace Go.Proofs.YtigfbpbnohkokaaGreat
open Go Go.Fw Go.RowKit
set_option linter.unusedVariables false
set_option linter.unusedSimpArgs false

section
variable {hf : HF} {who : Int} {l : List Raw} {hl : List Opn} {o : OpS} {i : Nat}
theorem low_full : (openL hf who).length = 16 ↔ lowH hf who = none := by
 unfold openL openN lowH
 rw [List.length_map, List.find?_eq_none]
 have h16 : (List.range 16).length = 16 := List.length_range
 constructor
 ·intro h i hi
  have := (List.length_filter_eq_length_iff (p := fun (i : Nat) => (hf who ((i : Int) + 1)).isSome) (l := List.range 16)).1 (by rw [h]; simp) i hi
  simp only [Option.isNone_iff_eq_none]
  intro e
  rw [e] at this
  cases this
 ·intro h
  have := (List.length_filter_eq_length_iff (p := fun (i : Nat) => (hf who ((i : Int) + 1)).isSome) (l := List.range 16)).2 (fun i hi => by
   have := h i hi
   cases hq : hf who ((i : Int) + 1) with
   | none => rw [hq] at this; exact absurd rfl this
   | some v => rfl)
  rw [this]; simp
theorem low_has (h : (openL hf who).length ≠ 16) : ∃ i, lowH hf who = some i := by
 cases hq : lowH hf who with
 | none => exact absurd (low_full.2 hq) h
 | some i => exact ⟨i, rfl⟩
/-- What opening finds, or makes. -/
def OpnC (l : List Raw) (o : OpS) (eO : Int) (lO : List Raw) (dO : Bool) : Prop :=
 ((findL l (cleanP o.p).1).2 = 9 ∧ o.c = true ∧ eO = (putL l (cleanP o.p).1 []).2 ∧ lO = (putL l (cleanP o.p).1 []).1 ∧ dO = false) ∨
 (¬ ((findL l (cleanP o.p).1).2 = 9 ∧ o.c = true) ∧ eO = (findL l (cleanP o.p).1).2 ∧ lO = l ∧ dO = (findL l (cleanP o.p).1).1.2.1)
theorem OpnC.bad {eO : Int} {lO : List Raw} {dO : Bool} (h : OpnC l o eO lO dO) (hl : lowH hf who = some i) (hc : (cleanP o.p).2 = 0) (he : eO ≠ 0) : openS l hf who o = (badS eO, l, hf) := by
 unfold openS
 rw [hl]
 simp only
 rw [if_pos hc]
 rcases h with ⟨h1, h2, rfl, rfl, rfl⟩ | ⟨h1, rfl, rfl, rfl⟩
 ·rw [if_pos ⟨h1, h2⟩, if_neg he]
 ·rw [if_neg h1, if_neg he]
theorem OpnC.dir {lO : List Raw} (h : OpnC l o 0 lO true) (hl : lowH hf who = some i) (hc : (cleanP o.p).2 = 0) : openS l hf who o = (badS 16, l, hf) := by
 unfold openS
 rw [hl]
 simp only
 rw [if_pos hc]
 rcases h with ⟨_, _, _, _, h5⟩ | ⟨h1, h2, rfl, h4⟩
 ·cases h5
 ·rw [if_neg h1, if_pos h2.symm, if_pos h4.symm]
theorem OpnC.ok {lO : List Raw} (h : OpnC l o 0 lO false) (hI : RI l hl) (hw : 0 ≤ who ∧ who < 8) (hlo : lowH (hfL hl) who = some i) (hc : (cleanP o.p).2 = 0) : openS l (hfL hl) who o = (⟨0, (i : Int) + 1, 0, [], []⟩, lO, setH (hfL hl) who ((i : Int) + 1) (some ((cleanP o.p).1, o.w))) ∧
  RI lO (hl ++ [(who, (i : Int) + 1, (cleanP o.p).1, o.w)]) ∧ hfL (hl ++ [(who, (i : Int) + 1, (cleanP o.p).1, o.w)]) = setH (hfL hl) who ((i : Int) + 1) (some ((cleanP o.p).1, o.w)) := by
 obtain ⟨g1, g2, g3⟩ := low_spec hlo
 have hk : 0 ≤ who ∧ who < 8 ∧ 1 ≤ (i : Int) + 1 ∧ (i : Int) + 1 ≤ 16 := ⟨hw.1, hw.2, by omega, by omega⟩
 refine ⟨?_, ?_, hfL_open g2⟩
 ·unfold openS
  rw [hlo]
  simp only
  rw [if_pos hc]
  rcases h with ⟨h1, h2, h3, rfl, _⟩ | ⟨h1, h2, rfl, h4⟩
  ·rw [if_pos ⟨h1, h2⟩, if_pos h3.symm]
  ·rw [if_neg h1, if_pos h2.symm, if_neg (by rw [← h4]; simp)]
 ·rcases h with ⟨h1, h2, h3, rfl, _⟩ | ⟨h1, h2, rfl, h4⟩
  ·obtain ⟨q1, q2⟩ := hI.put h3.symm (hI.tr.absent h1)
   exact q1.hand g2 q2 hk
  ·have hp0 : (cleanP o.p).1 ≠ [] := fun e => by rw [e, findL_root] at h4; cases h4
   obtain ⟨q1, q2⟩ := hI.tr.find h2.symm hp0
   obtain ⟨w, hw2⟩ : ∃ w, (findL lO (cleanP o.p).1).1 = w := ⟨_, rfl⟩
   rw [hw2] at q1 q2 h4
   obtain ⟨a, b, c⟩ := w
   simp only at q2 h4
   subst q2 h4
   exact hI.hand g2 q1 hk
end
end Go.Proofs.YtigfbpbnohkokaaGreat
