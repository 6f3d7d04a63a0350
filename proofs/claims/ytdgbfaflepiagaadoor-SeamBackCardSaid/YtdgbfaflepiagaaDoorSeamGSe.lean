/- The desk of package seam: Read. -/
import Derived.Test.YtdgbfaflepiagaaDoorSeamG0Se
namespace Go.Proofs.YtdgbfaflepiagaaDoor.Seam
open Go.RowKit Go.Proofs.YtdgbfaflepiagaaDoorW.PrintWords Go.Proofs.YtdgbfaflepiagaaDoorW.PrintMore Go.Proofs.YtdgbfaflepiagaaDoor.PSe Go.Proofs.YtdgbfaflepiagaaDoor.WireMath Go.Proofs.YtdgbfaflepiagaaDoor.WireB
set_option linter.unusedVariables false
set_option linter.unusedSimpArgs false
theorem own_keep {w w' : World} {g b : Nat} {e t : TypeId} {size n : Nat} {v : Value} {xs : List Value} {cs : Array Value} (h : w.ownsRow b e size v n xs) (hb : w.heap[g]? = some (.cells cs t (0, 0))) (ht : e ≠ t) (hk : KeepBut w w' g none) : w'.ownsRow b e size v n xs := by
  have hne := own_ne h hb ht
  refine ⟨h.1, ?_⟩
  rcases h.2 with h2 | ⟨r, cap, cur, rfl, h3, h4, h5⟩
  · exact .inl h2
  · refine .inr ⟨r, cap, cur, rfl, h3, ?_, h5⟩
    rw [hk.2 r (blk_lt h4) (fun he => hne (by rw [he]; rfl)) (by simp)]
    exact h4
theorem Dk.keep {w w' : World} {b g d : Nat} {me : Int} {v : Value} {l : List Rob} {cs : Array Value} (h : Dk w b d me v l) (hb : w.heap[g]? = some (.cells cs 114 (0, 0))) (hk : KeepBut w w' g none) : Dk w' b d me v l :=
  ⟨(hk.2 d (blk_lt h.blk) (fun he => by subst he; have := h.blk.symm.trans hb; simp at this) (by simp)).trans h.blk, own_keep h.own hb (by decide) hk, h.base⟩
/-- The reader, the desk, and what lay there before. -/
structure RS (w u : World) (g d : Nat) (s : Bytes) (f : Bool) (me : Int) (v : Value) (l : List Rob) : Prop where
  rd : IsS114 w u g (B s) f
  dk : Dk u w.heap.size d me v l
  bel : Below w.heap.size w u
section
variable {w u u1 : World} {g d : Nat} {s s1 : Bytes} {f f1 : Bool} {me : Int} {v : Value} {l : List Rob}
theorem RS.on (h : RS w u g d s f me v l) (hb : Below u.heap.size u u1) : RS w u1 g d s f me v l := ⟨h.rd.below hb, h.dk.below hb, below_step h.bel hb⟩
theorem RS.next (h : RS w u g d s f me v l) (hr : IsS114 w u1 g (B s1) f1) (hb : Below w.heap.size w u1) (hk : KeepBut u u1 g none) : RS w u1 g d s1 f1 me v l := ⟨hr, h.dk.keep h.rd.1 hk, hb⟩
theorem RS.int (h : RS w u g d s f me v l) (hT : Tabs w) : Calls Tryd.prog 43 #[.pointer (some ⟨g, 0, none⟩)] u fun e w' => e = .returned (.int .i64 (rInt (s, f)).1) ∧ RS w w' g d (rInt (s, f)).2.1 (rInt (s, f)).2.2 me v l :=
  (wire_Reader_Int.calls g (B s) f _ _ _ w u h.rd h.bel (rd_int s f) hT).mono fun e w' ⟨he, h1, h2, h3⟩ => ⟨he, h.next h1 h2 h3⟩
theorem RS.left (h : RS w u g d s f me v l) : Calls Tryd.prog 47 #[.pointer (some ⟨g, 0, none⟩)] u fun e w' => e = .returned (.int .i64 (s.length : Int)) ∧ RS w w' g d s f me v l :=
  (wire_Reader_Left.calls g (B s) f _ _ _ w u h.rd h.bel (rd_left s f)).mono fun e w' ⟨he, h1, h2, h3⟩ => ⟨he, h.next h1 h2 h3⟩
theorem RS.num (h : RS w u g d s f me v l) (hT : Tabs w) : Calls Tryd.prog 46 #[.pointer (some ⟨g, 0, none⟩)] u fun e w' => e = .returned (.int .i64 (rNum (s, f)).1) ∧ RS w w' g d (rNum (s, f)).2.1 (rNum (s, f)).2.2 me v l :=
  (wire_Reader_Num.calls g (B s) f _ _ _ w u h.rd h.bel (rd_num s f) hT).mono fun e w' ⟨he, h1, h2, h3⟩ => ⟨he, h.next h1 h2 h3⟩
theorem RS.done (h : RS w u g d s f me v l) : Calls Tryd.prog 44 #[.pointer (some ⟨g, 0, none⟩)] u fun e w' => e = .returned (.bool (!f && s.isEmpty)) ∧ RS w w' g d s f me v l :=
  (wire_Reader_Done.calls g (B s) f _ _ _ w u h.rd h.bel (rd_done s f)).mono fun e w' ⟨he, h1, h2, h3⟩ => ⟨he, h.next h1 h2 h3⟩
end
/-- What Read gives. -/
def ReadPost (w : World) (o : Option (Int × List Rob)) (e : Ending) (w' : World) : Prop :=
  Below w.heap.size w w' ∧ match o with
    | none => e = .returned (.tuple #[.pointer none, .bool false])
    | some (me, l) => ∃ (g : Nat) (v : Value), e = .returned (.tuple #[.pointer (some ⟨g, 0, none⟩), .bool true]) ∧ Dk w' w.heap.size g me v l
theorem ReadPost.no {w w' : World} {o : Option (Int × List Rob)} (h : o = none) (hb : Below w.heap.size w w') : ReadPost w o (.returned (.tuple #[.pointer none, .bool false])) w' := by subst h; exact ⟨hb, rfl⟩
theorem ReadPost.yes {w w' : World} {o : Option (Int × List Rob)} {me : Int} {l : List Rob} {g : Nat} {v : Value} (h : o = some (me, l)) (hb : Below w.heap.size w w') (hd : Dk w' w.heap.size g me v l) : ReadPost w o (.returned (.tuple #[.pointer (some ⟨g, 0, none⟩), .bool true])) w' := by subst h; exact ⟨hb, g, v, rfl, hd⟩
theorem bad_cases (ph no : Int) (rf : Bool) (h : ¬ okRob ⟨ph, no, rf⟩) : decide (ph < 0) = true ∨ (decide (ph < 0) = false ∧ decide (3 ≤ ph) = true) ∨ (decide (ph < 0) = false ∧ decide (3 ≤ ph) = false ∧ decide (no < 0) = true) ∨
    (decide (ph < 0) = false ∧ decide (3 ≤ ph) = false ∧ decide (no < 0) = false ∧ decide (2199023255552 < no) = true) ∨ (decide (ph < 0) = false ∧ decide (3 ≤ ph) = false ∧ decide (no < 0) = false ∧ decide (2199023255552 < no) = false ∧ rf = true ∧ (ph != 0) = true) := by
  change ¬ (0 ≤ ph ∧ ph < 3 ∧ 0 ≤ no ∧ no ≤ 2199023255552 ∧ (rf = true → ph = 0)) at h
  simp only [decide_eq_true_eq, decide_eq_false_iff_not, bne_iff_ne]
  by_cases h1 : ph < 0
  · exact .inl h1
  by_cases h2 : 3 ≤ ph
  · exact .inr (.inl ⟨h1, h2⟩)
  by_cases h3 : no < 0
  · exact .inr (.inr (.inl ⟨h1, h2, h3⟩))
  by_cases h4 : 2199023255552 < no
  · exact .inr (.inr (.inr (.inl ⟨h1, h2, h3, h4⟩)))
  refine .inr (.inr (.inr (.inr ⟨h1, h2, h3, h4, ?_⟩)))
  by_cases h5 : rf = true
  · refine ⟨h5, fun h6 => h ⟨by omega, by omega, by omega, by omega, fun _ => h6⟩⟩
  · exact absurd ⟨by omega, by omega, by omega, by omega, fun h6 => absurd h6 h5⟩ h
theorem good_cases (ph no : Int) (rf : Bool) (h : okRob ⟨ph, no, rf⟩) : decide (ph < 0) = false ∧ decide (3 ≤ ph) = false ∧ decide (no < 0) = false ∧ decide (2199023255552 < no) = false ∧ (rf = false ∨ rf = true ∧ (ph != 0) = false) := by
  obtain ⟨h1, h2, h3, h4, h5⟩ := h
  simp only at h1 h2 h3 h4 h5
  refine ⟨decide_eq_false (by omega), decide_eq_false (by omega), decide_eq_false (by omega), decide_eq_false (by omega), ?_⟩
  cases rf with
  | false => exact .inl rfl
  | true => exact .inr ⟨rfl, by rw [h5 rfl]; rfl⟩
theorem drew_below (w : World) : Below w.heap.size w w.drew := below_drew (Below.refl _ _)
set_option maxHeartbeats 8000000 in
set_option maxRecDepth 100000 in
theorem read_calls (s : Bytes) (w : World) (hs : s.length ≤ 100000000) (hT : Tabs w) :
    Calls Tryd.prog 14 #[.string (B s)] w fun e w' => ReadPost w (rdDesk s) e w' := by
  have HT := Aside0.mk hT
  clear hT
  go_enter Tryd.func14, Tryd.ntmps14
  go_wp2_with fail
  (with_reducible refine (wire_Open.calls (B s) (B s) false w w (Below.refl _ _) rfl).mono ?_)
  rintro e w1 ⟨g, rfl, h1, h2, _⟩
  have H1 := Aside0.mk (And.intro h1 h2)
  clear h1 h2
  go_wp2_with fail
  (with_reducible refine (wire_Reader_Int.calls g (B s) false _ _ _ w _ H1.out.1 H1.out.2 (rd_int s false) HT.out).mono ?_)
  rintro e w2 ⟨rfl, h1, h2, _⟩
  generalize hme : (rInt (s, false)).1 = me at *
  generalize hr2 : (rInt (s, false)).2 = r2 at *
  obtain ⟨s2, f2⟩ := r2
  simp only at h1
  have H2 : Aside0 (RS w (w2.alloc (.cells #[.int .i64 me, .slice none 0 0] 81 (0, 0))) g w2.heap.size s2 f2 me (.slice none 0 0) []) := ⟨⟨h1.alloc _, ⟨blk_new _ _, own_nil _ _ _ _, below_size h2⟩, below_alloc h2 _⟩⟩
  clear h1 h2 H1
  go_wp2_with fail
  (with_reducible refine (RS.num H2.out HT.out).mono ?_)
  rintro e w3 ⟨rfl, h3⟩
  have hn0 : 0 ≤ (rNum (s2, f2)).1 := number_nonneg 59 (s2, f2)
  have hn1 : (rNum (s2, f2)).1 ≤ 9223372036854775807 := (num_int (by decide) 0 (s2, f2)).2
  have hl1 : s2.length ≤ s.length := by have := num_le (e := 59) (by decide) (-9223372036854775808) (s, false); change (rInt (s, false)).2.1.length ≤ _ at this; rw [hr2] at this; exact this
  have hl2 : (rNum (s2, f2)).2.1.length ≤ s2.length := num_le (e := 59) (by decide) 0 (s2, f2)
  have HO : Aside0 (rdDesk s = fin s me (rdLoop (rNum (s2, f2)).1.toNat (rNum (s2, f2)).2 [])) := ⟨by unfold rdDesk; rw [hme, hr2]⟩
  generalize hnn : (rNum (s2, f2)).1 = n at *
  generalize hr3 : (rNum (s2, f2)).2 = r3 at *
  obtain ⟨s3, f3⟩ := r3
  simp only at h3 hl2
  generalize hd : w2.heap.size = d at *
  have H3 := Aside0.mk h3
  have HL := Aside0.mk (show s3.length ≤ 100000000 by omega)
  clear h3 H2 hr3 hnn hr2 hme hl1 hl2 hs hd
  go_wp2
  go_loopw [6, 7] (fun t6 _ wr => ∃ (n : Int) (s3 : Bytes) (f3 : Bool) (v : Value) (l : List Rob), t6 = .int .i64 n ∧ 0 ≤ n ∧ n ≤ 9223372036854775807 ∧ Aside0 (RS w wr g d s3 f3 me v l) ∧ Aside0 (rdDesk s = fin s me (rdLoop n.toNat (s3, f3) l)) ∧ Aside0 (s3.length + l.length ≤ 100000000) ∧ Aside0 (Ints l)) (fun t6 _ _ => (intOf t6).toNat)
  case atStart => exact ⟨n, s3, f3, _, [], rfl, hn0, hn1, H3, HO, ⟨by have := HL.out; simp only [List.length_nil]; omega⟩, ⟨fun _ h => by cases h⟩⟩
  case round =>
    clear H3 HO HL hn0 hn1
    obtain ⟨m, s4, f4, v, l, rfl, hn0, hn1, HR, HO, HL, HN⟩ := hrel
    by_cases hn : m = 0
    · subst hn
      rw [show (0 : Int).toNat = 0 from rfl, rdLoop] at HO
      have HL1 := Aside0.mk HR.out
      go_wp2_with fail
      (with_reducible refine (RS.done HL1.out).mono ?_)
      rintro e w9 ⟨rfl, h9⟩
      have H9 := Aside0.mk h9
      have HB := Aside0.mk h9.bel
      clear h9 HL1 HR
      cases hdn : (!f4 && s4.isEmpty) with
      | false =>
        have HF := Aside0.mk (show rdDesk s = none by rw [HO.out]; unfold fin; rw [Option.bind_some, if_neg (by rw [hdn]; simp)])
        go_wp2
        go_ret2
        exact ReadPost.no HF.out HB.out
      | true =>
        obtain ⟨A', c', rfl⟩ := H9.out.dk.slice
        have d0 := H9.out.dk.c0
        have d1 := H9.out.dk.c1
        by_cases hm : me = 0 ∨ me = 1
        · by_cases hl2 : l.length ≤ 200
          · have HC := Aside0.mk (bytes_calls w.heap.size d me _ l w9 H9.out.dk (by omega) (by rcases hm with rfl | rfl <;> exact ⟨by decide, by decide⟩) HN.out (HT.out.below H9.out.bel))
            have b2 : decide (200 < (l.length : Int)) = false := decide_eq_false (by omega)
            have b3 : decide (200 < l.length) = false := decide_eq_false (by omega)
            by_cases hx : encDesk me l = s
            · have HF := Aside0.mk (show rdDesk s = some (me, l) by rw [HO.out]; unfold fin; rw [Option.bind_some, if_pos ⟨hdn, hm, hl2, hx⟩])
              have b5 : ((B (encDesk me l)).toList != (B s).toList) = false := by rw [hx]; simp
              have b6 : (!(encDesk me l == s)) = false := by rw [hx]; simp
              rcases hm with rfl | rfl
              all_goals
                go_wp2_with (go_at_call 15; (with_reducible refine HC.out.mono ?_); rintro e w10 ⟨rfl, hb⟩; have HD10 := Aside0.mk (H9.out.on hb); clear hb)
                go_ret2
                exact ReadPost.yes HF.out HD10.out.bel HD10.out.dk
            · have HF := Aside0.mk (show rdDesk s = none by rw [HO.out]; unfold fin; rw [Option.bind_some, if_neg (fun h => hx h.2.2.2)])
              have b5 : ((B (encDesk me l)).toList != (B s).toList) = true := by rw [b_toList, b_toList]; exact bne_iff_ne.2 hx
              have b6 : (!(encDesk me l == s)) = true := by rw [beq_eq_false_iff_ne.2 hx]; rfl
              rcases hm with rfl | rfl
              all_goals
                go_wp2_with (go_at_call 15; (with_reducible refine HC.out.mono ?_); rintro e w10 ⟨rfl, hb⟩; have HD10 := Aside0.mk (H9.out.on hb); clear hb)
                go_ret2
                exact ReadPost.no HF.out HD10.out.bel
          · have HF := Aside0.mk (show rdDesk s = none by rw [HO.out]; unfold fin; rw [Option.bind_some, if_neg (fun h => hl2 h.2.2.1)])
            have b2 : decide (200 < (l.length : Int)) = true := decide_eq_true (by omega)
            rcases hm with rfl | rfl
            all_goals
              go_wp2
              go_ret2
              exact ReadPost.no HF.out HB.out
        · have HF := Aside0.mk (show rdDesk s = none by rw [HO.out]; unfold fin; rw [Option.bind_some, if_neg (fun h => hm h.2.1)])
          have b1 : (me != 0) = true := bne_iff_ne.2 (fun h => hm (.inl h))
          have b2 : (me != 1) = true := bne_iff_ne.2 (fun h => hm (.inr h))
          go_wp2
          go_ret2
          exact ReadPost.no HF.out HB.out
    · have b0 : decide (0 < m) = true := decide_eq_true (by omega)
      by_cases he : s4 = []
      · subst he
        have HO := Aside0.mk (show rdDesk s = fin s me (some (l, ([], f4))) by
          have e : m.toNat = (m - 1).toNat + 1 := by omega
          rw [HO.out, e, rdLoop, if_pos rfl])
        go_wp2_with fail
        (with_reducible refine (RS.left HR.out).mono ?_)
        rintro e w8 ⟨rfl, h8⟩
        have HL1 := Aside0.mk h8
        clear h8
        go_wp2_with fail
        (with_reducible refine (RS.done HL1.out).mono ?_)
        rintro e w9 ⟨rfl, h9⟩
        have H9 := Aside0.mk h9
        have HB := Aside0.mk h9.bel
        clear h9 HL1 HR
        cases hdn : (!f4 && ([] : Bytes).isEmpty) with
        | false =>
          have HF := Aside0.mk (show rdDesk s = none by rw [HO.out]; unfold fin; rw [Option.bind_some, if_neg (by rw [hdn]; simp)])
          go_wp2
          go_ret2
          exact ReadPost.no HF.out HB.out
        | true =>
          obtain ⟨A', c', rfl⟩ := H9.out.dk.slice
          have d0 := H9.out.dk.c0
          have d1 := H9.out.dk.c1
          by_cases hm : me = 0 ∨ me = 1
          · by_cases hl2 : l.length ≤ 200
            · have HC := Aside0.mk (bytes_calls w.heap.size d me _ l w9 H9.out.dk (by omega) (by rcases hm with rfl | rfl <;> exact ⟨by decide, by decide⟩) HN.out (HT.out.below H9.out.bel))
              have b2 : decide (200 < (l.length : Int)) = false := decide_eq_false (by omega)
              have b3 : decide (200 < l.length) = false := decide_eq_false (by omega)
              by_cases hx : encDesk me l = s
              · have HF := Aside0.mk (show rdDesk s = some (me, l) by rw [HO.out]; unfold fin; rw [Option.bind_some, if_pos ⟨hdn, hm, hl2, hx⟩])
                have b5 : ((B (encDesk me l)).toList != (B s).toList) = false := by rw [hx]; simp
                have b6 : (!(encDesk me l == s)) = false := by rw [hx]; simp
                rcases hm with rfl | rfl
                all_goals
                  go_wp2_with (go_at_call 15; (with_reducible refine HC.out.mono ?_); rintro e w10 ⟨rfl, hb⟩; have HD10 := Aside0.mk (H9.out.on hb); clear hb)
                  go_ret2
                  exact ReadPost.yes HF.out HD10.out.bel HD10.out.dk
              · have HF := Aside0.mk (show rdDesk s = none by rw [HO.out]; unfold fin; rw [Option.bind_some, if_neg (fun h => hx h.2.2.2)])
                have b5 : ((B (encDesk me l)).toList != (B s).toList) = true := by rw [b_toList, b_toList]; exact bne_iff_ne.2 hx
                have b6 : (!(encDesk me l == s)) = true := by rw [beq_eq_false_iff_ne.2 hx]; rfl
                rcases hm with rfl | rfl
                all_goals
                  go_wp2_with (go_at_call 15; (with_reducible refine HC.out.mono ?_); rintro e w10 ⟨rfl, hb⟩; have HD10 := Aside0.mk (H9.out.on hb); clear hb)
                  go_ret2
                  exact ReadPost.no HF.out HD10.out.bel
            · have HF := Aside0.mk (show rdDesk s = none by rw [HO.out]; unfold fin; rw [Option.bind_some, if_neg (fun h => hl2 h.2.2.1)])
              have b2 : decide (200 < (l.length : Int)) = true := decide_eq_true (by omega)
              rcases hm with rfl | rfl
              all_goals
                go_wp2
                go_ret2
                exact ReadPost.no HF.out HB.out
          · have HF := Aside0.mk (show rdDesk s = none by rw [HO.out]; unfold fin; rw [Option.bind_some, if_neg (fun h => hm h.2.1)])
            have b1 : (me != 0) = true := bne_iff_ne.2 (fun h => hm (.inl h))
            have b2 : (me != 1) = true := bne_iff_ne.2 (fun h => hm (.inr h))
            go_wp2
            go_ret2
            exact ReadPost.no HF.out HB.out
      · have b1 : decide ((0 : Int) < (s4.length : Int)) = true := decide_eq_true (by have := List.length_pos_iff.2 he; omega)
        have b2 : 0 < s4.length := List.length_pos_iff.2 he
        have b3 : decide (0 < s4.length) = true := decide_eq_true b2
        go_wp2_with fail
        (with_reducible refine (RS.left HR.out).mono ?_)
        rintro e w4 ⟨rfl, h4⟩
        have H4 := Aside0.mk h4
        clear h4 HR
        go_wp2_with fail
        (with_reducible refine (RS.int H4.out HT.out).mono ?_)
        rintro e w5 ⟨rfl, h⟩
        have i5 : isInt (rInt (s4, f4)).1 := num_int (by decide) _ _
        generalize hv5 : (rInt (s4, f4)).1 = ph at i5 ⊢
        generalize hr5 : (rInt (s4, f4)).2 = r at h
        obtain ⟨s5, f5⟩ := r
        have H5 := Aside0.mk h
        clear h H4
        go_wp2_with fail
        (with_reducible refine (RS.int H5.out HT.out).mono ?_)
        rintro e w6 ⟨rfl, h⟩
        have i6 : isInt (rInt (s5, f5)).1 := num_int (by decide) _ _
        generalize hv6 : (rInt (s5, f5)).1 = no at i6 ⊢
        generalize hr6 : (rInt (s5, f5)).2 = r at h
        obtain ⟨s6, f6⟩ := r
        have H6 := Aside0.mk h
        clear h H5
        go_wp2_with fail
        (with_reducible refine (RS.int H6.out HT.out).mono ?_)
        rintro e w7 ⟨rfl, h⟩
        have i7 : isInt (rInt (s6, f6)).1 := num_int (by decide) _ _
        generalize hv7 : (rInt (s6, f6)).1 = rv at i7 ⊢
        generalize hr7 : (rInt (s6, f6)).2 = r at h
        obtain ⟨s7, f7⟩ := r
        have H7 := Aside0.mk h
        clear h H6
        have HX : Aside0 (rdRob (s4, f4) = (⟨ph, no, rv == 1⟩, (s7, f7))) := ⟨by unfold rdRob; rw [hr5, hv5, hr6, hv6, hr7, hv7]⟩
        have HI := Aside0.mk (And.intro i5 i6)
        have HY := Aside0.mk (rob_lt (s4, f4) he)
        rw [HX.out] at HY
        clear hr5 hv5 hr6 hv6 hr7 hv7 i5 i6 i7
        have HO2 : Aside0 (rdDesk s = fin s me (if okRob ⟨ph, no, rv == 1⟩ then rdLoop (m - 1).toNat (s7, f7) (l ++ [⟨ph, no, rv == 1⟩]) else none)) := ⟨by
          rw [HO.out]
          have e : m.toNat = (m - 1).toNat + 1 := by omega
          rw [e, rdLoop, if_neg he, HX.out]⟩
        clear HO HX
        generalize hrf : (rv == 1) = rf at HO2
        by_cases hok : okRob ⟨ph, no, rf⟩
        · have HR := Aside0.mk (show rdDesk s = fin s me (rdLoop (m - 1).toNat (s7, f7) (l ++ [⟨ph, no, rf⟩])) by rw [HO2.out, if_pos hok])
          have hgc := good_cases ph no rf hok
          have HN2 : Aside0 (Ints (l ++ [⟨ph, no, rf⟩])) := ⟨by
            intro x hx
            rcases List.mem_append.1 hx with h1 | h1
            · exact HN.out x h1
            · rw [List.mem_singleton.1 h1]; exact HI.out⟩
          have hll : s7.length + (l.length + 1) ≤ 100000000 := by have h1 := HY.out; have h2 := HL.out; change s7.length < s4.length at h1; omega
          have HL2 := Aside0.mk hll
          obtain ⟨A', c', rfl⟩ := H7.out.dk.slice
          have HD := Aside0.mk H7.out.dk
          have hd1 := HD.out.c1
          have hdl := blk_lt HD.out.blk
          have hdf := blk_frozen HD.out.blk 1
          clear hok HO2 HY HN HI HL
          obtain ⟨c1, c2, c3, c4, c5⟩ := hgc
          rcases c5 with rfl | ⟨rfl, c6⟩
          · trace "M1"
            go_wp2
            have HE : Aside0 (∀ u : World, u = ((w7.alloc (.cells #[.int .i64 ph, .int .i64 no, .bool false] 83)).alloc (.cells #[.int .i64 ph, .int .i64 no, .bool false] 83)) → Below w7.heap.size w7 u ∧ u.heap[w7.heap.size + 1]? = some (.cells #[.int .i64 ph, .int .i64 no, .bool false] 83 (0, 0))) := ⟨by
              rintro u rfl
              refine ⟨below_alloc (below_alloc (Below.refl _ _) _) _, ?_⟩
              have := blk_new (w7.alloc (.cells #[.int .i64 ph, .int .i64 no, .bool false] 83)) (.cells #[.int .i64 ph, .int .i64 no, .bool false] 83)
              simpa using this⟩
            go_region_law (refine step_append_gen (w0 := w) w.heap.size (by rfl) (.tmp 64) (.tmp 66) 79 83 (.agg #[.int .i64 0, .int .i64 0, .bool false]) 3 24 rfl Tryd.underlying79 infoRob rfl (by omega) (by omega) (.slice A' l.length c') l.length (flat l) [.int .i64 ph, .int .i64 no, .bool false] ⟨w7.heap.size + 1, 0, none⟩ rfl rfl rfl (fun u hu => flat_cells [⟨ph, no, false⟩] u hu) (three_cells (t := 83) (blk_drew (HE.out _ rfl).2)) (pw_own_below HD.out.own (below_drew (HE.out _ rfl).1)) (below_then H7.out.bel (below_size H7.out.bel) (below_drew (HE.out _ rfl).1)) (Nat.le_trans (below_size H7.out.bel) (below_drew (HE.out _ rfl).1).size) (by omega) ?_; intro v1 w8 hown hbel hg hat; obtain ⟨A1, d1, rfl⟩ := own_slice hown; have HB1 := Aside0.mk (blk_grown (blk_below HD.out.blk (below_drew (HE.out _ rfl).1)) hg (own_ne HD.out.own HD.out.blk (by decide))); have HG1 := Aside0.mk ((H7.out.rd.below (below_drew (HE.out _ rfl).1)).grown hg (own_ne HD.out.own H7.out.rd.1 (by decide))); have HW1 := Aside0.mk (And.intro hown hbel); clear hown hbel hg hat hd1 hdl hdf; have z1 := (blk_cell HB1.out 1).trans rfl; have zf := blk_frozen HB1.out 1)
            all_goals
              clear z1 zf
              go_wp2
              go_roundw
              case rel =>
                refine ⟨m - 1, s7, f7, .slice A1 (l.length + 1) d1, l ++ [⟨ph, no, false⟩], by go_num, by omega, by omega, ⟨⟨?_, ⟨(blk_set HB1.out 1 _).trans rfl, ?_, HD.out.base⟩, HW1.out.2.setCell (p := ⟨d, 1, none⟩) HD.out.base _⟩⟩, HR, ⟨by rw [List.length_append]; exact hll⟩, HN2⟩
                · exact HG1.out.far (p := ⟨d, 1, none⟩) (HG1.out.ne_blk HB1.out (by decide)) _
                · rw [List.length_append, flat_append]
                  exact own_setCell HW1.out.1 (p := ⟨d, 1, none⟩) (own_ne HW1.out.1 HB1.out (by decide)) _
              case measure => simp [intOf]; omega
          · trace "M2"
            go_wp2
            have HE : Aside0 (∀ u : World, u = ((w7.alloc (.cells #[.int .i64 ph, .int .i64 no, .bool true] 83)).alloc (.cells #[.int .i64 ph, .int .i64 no, .bool true] 83)) → Below w7.heap.size w7 u ∧ u.heap[w7.heap.size + 1]? = some (.cells #[.int .i64 ph, .int .i64 no, .bool true] 83 (0, 0))) := ⟨by
              rintro u rfl
              refine ⟨below_alloc (below_alloc (Below.refl _ _) _) _, ?_⟩
              have := blk_new (w7.alloc (.cells #[.int .i64 ph, .int .i64 no, .bool true] 83)) (.cells #[.int .i64 ph, .int .i64 no, .bool true] 83)
              simpa using this⟩
            go_region_law (refine step_append_gen (w0 := w) w.heap.size (by rfl) (.tmp 64) (.tmp 66) 79 83 (.agg #[.int .i64 0, .int .i64 0, .bool false]) 3 24 rfl Tryd.underlying79 infoRob rfl (by omega) (by omega) (.slice A' l.length c') l.length (flat l) [.int .i64 ph, .int .i64 no, .bool true] ⟨w7.heap.size + 1, 0, none⟩ rfl rfl rfl (fun u hu => flat_cells [⟨ph, no, true⟩] u hu) (three_cells (t := 83) (blk_drew (HE.out _ rfl).2)) (pw_own_below HD.out.own (below_drew (HE.out _ rfl).1)) (below_then H7.out.bel (below_size H7.out.bel) (below_drew (HE.out _ rfl).1)) (Nat.le_trans (below_size H7.out.bel) (below_drew (HE.out _ rfl).1).size) (by omega) ?_; intro v1 w8 hown hbel hg hat; obtain ⟨A1, d1, rfl⟩ := own_slice hown; have HB1 := Aside0.mk (blk_grown (blk_below HD.out.blk (below_drew (HE.out _ rfl).1)) hg (own_ne HD.out.own HD.out.blk (by decide))); have HG1 := Aside0.mk ((H7.out.rd.below (below_drew (HE.out _ rfl).1)).grown hg (own_ne HD.out.own H7.out.rd.1 (by decide))); have HW1 := Aside0.mk (And.intro hown hbel); clear hown hbel hg hat hd1 hdl hdf; have z1 := (blk_cell HB1.out 1).trans rfl; have zf := blk_frozen HB1.out 1)
            all_goals
              clear z1 zf
              go_wp2
              go_roundw
              case rel =>
                refine ⟨m - 1, s7, f7, .slice A1 (l.length + 1) d1, l ++ [⟨ph, no, true⟩], by go_num, by omega, by omega, ⟨⟨?_, ⟨(blk_set HB1.out 1 _).trans rfl, ?_, HD.out.base⟩, HW1.out.2.setCell (p := ⟨d, 1, none⟩) HD.out.base _⟩⟩, HR, ⟨by rw [List.length_append]; exact hll⟩, HN2⟩
                · exact HG1.out.far (p := ⟨d, 1, none⟩) (HG1.out.ne_blk HB1.out (by decide)) _
                · rw [List.length_append, flat_append]
                  exact own_setCell HW1.out.1 (p := ⟨d, 1, none⟩) (own_ne HW1.out.1 HB1.out (by decide)) _
              case measure => simp [intOf]; omega
        · have HR := Aside0.mk (show rdDesk s = none by rw [HO2.out, if_neg hok]; rfl)
          have HB := Aside0.mk H7.out.bel
          rcases bad_cases ph no rf hok with c1 | ⟨c1, c2⟩ | ⟨c1, c2, c3⟩ | ⟨c1, c2, c3, c4⟩ | ⟨c1, c2, c3, c4, c5, c6⟩
          all_goals
            clear hok HO2
            subst hrf
            go_wp2
            go_ret2
            exact ReadPost.no HR.out (below_alloc HB.out _)
end Go.Proofs.YtdgbfaflepiagaaDoor.Seam
