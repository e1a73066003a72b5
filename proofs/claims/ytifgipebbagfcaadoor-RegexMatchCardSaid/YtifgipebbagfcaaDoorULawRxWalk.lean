/-
  EXPRESSIONS: THE POSITIONS, as the reference and as the program's matcher collect them.
-/
import Derived.Test.YtifgipebbagfcaaDoorULawRxBase
set_option linter.unusedVariables false
set_option linter.unusedSimpArgs false
namespace Go.Proofs.YtifgipebbagfcaaDoor
open Go Go.Av Go.Ev Go.Pl
def cL (l : List Nat) : List Int := l.map fun (k : Nat) => (k : Int)
theorem cL_app (a b : List Nat) : cL (a ++ b) = cL a ++ cL b := List.map_append
theorem cL_len (l : List Nat) : (cL l).length = l.length := List.length_map _
theorem cL_get {l : List Nat} {i : Nat} (h : i < l.length) : (cL l)[i]'(by rw [cL_len]; exact h) = (l[i] : Int) := by simp [cL]
theorem prodL_take {a : List Nat} {i : Nat} (h : i < a.length) (b : List Nat) : prodL (a.take (i + 1)) b = prodL (a.take i) b ++ prodL [a[i]] b := by
  unfold prodL
  rw [List.take_add_one, List.getElem?_eq_getElem h, List.flatMap_append]; rfl
theorem C_regex_count : ∀ (r : Rx), sz r ≤ 1000000 → Calls' tbl N_regex_count [.d .rx r] [] q_regex_count ((cnt r : Int), ()) := by
  refine rx_ind fun k lo up ks ih hs => ?_
  obtain ⟨hlen, hkid⟩ := rx_kid hs
  refine calls_of rfl (conv_of t_regex_count rfl (fun O m => x_regex_count O m (.mk k lo up ks)) ?_)
  unfold G_regex_count
  have hb : cnt (.mk k lo up ks) ≤ 1000000 := Nat.le_trans (cnt_le _) hs
  simp only [cnt] at hb
  have hc : ∀ i, cnts (ks.take i) ≤ cnts ks := fun i => by
    have : cnts ks = cnts (ks.take i) + cnts (ks.drop i) := by rw [← cnts_app, List.take_append_drop]
    omega
  have h0 : ∀ n : Nat, (Option.bind (Option.bind (bif (k == (1 : Int)) then some true else some (k == (2 : Int))) fun v => bif v then some (((1 : Int), ()) : Int × Unit) else some ((0 : Int), ())) fun (v : Int × Unit) => some v) = some (((bif k == 1 || k == 2 then 1 else 0 : Nat) : Int), ()) := fun _ => by
    cases (k == (1 : Int)) <;> cases (k == (2 : Int)) <;> rfl
  have h0' : (Option.bind (bif (k == (1 : Int)) then some true else some (k == (2 : Int))) fun v => bif v then some (((1 : Int), ()) : Int × Unit) else some ((0 : Int), ())) = some (((bif k == 1 || k == 2 then 1 else 0 : Nat) : Int), ()) := by
    cases (k == (1 : Int)) <;> cases (k == (2 : Int)) <;> rfl
  refine wp_bind (wp_id (a := (((bif k == 1 || k == 2 then 1 else 0 : Nat) : Int), ())) (fun _ => h0') ?_)
  refine wp_bind (wp_range (N := ks.length) (I := fun i s => s = ((((bif k == 1 || k == 2 then 1 else 0) + cnts (ks.take i) : Nat) : Int), (i : Int), ())) (by simp [cnts]) (fun i s hi hs => ?_) fun s hs => ?_)
  · subst hs
    unfold L_regex_count_0
    refine wp_in hi (wp_get0 hi ?_)
    rw [rx_eta]
    have hr := List.getElem_mem hi
    refine wp_call (ih ks[i] hr (by have := hkid _ hr; omega)) (wp_some ?_)
    have e2 : cnts (ks.take (i + 1)) = cnts (ks.take i) + cnt ks[i] := by
      rw [List.take_add_one, List.getElem?_eq_getElem hi, cnts_app]; simp [cnts]
    have := hc (i + 1)
    refine Prod.ext ?_ (Prod.ext (wrap_succ hi (by omega)) rfl)
    show IntKind.wrap .i64 ((((bif k == 1 || k == 2 then 1 else 0) + cnts (ks.take i) : Nat) : Int) + (cnt ks[i] : Int)) = _
    rw [wrap_i64 (by omega) (by omega), e2]
    omega
  · subst hs
    unfold L_regex_count_0
    refine wp_out (wp_some (wp_some ?_))
    rw [List.take_length]
    rfl
structure FolR (n : Nat) (F : List (List Int)) (P : List (Nat × Nat)) : Prop where
  len : F.length = n
  nd : ∀ l ∈ F, l.Nodup
  bd : ∀ l ∈ F, ∀ x ∈ l, 0 ≤ x ∧ x < (n : Int)
  mem : ∀ p (h : p < F.length) (q : Nat), (q : Int) ∈ F[p] ↔ (p, q) ∈ P
theorem FolR.congr {n : Nat} {F : List (List Int)} {P P' : List (Nat × Nat)} (h : FolR n F P) (e : ∀ x, x ∈ P ↔ x ∈ P') : FolR n F P' := ⟨h.len, h.nd, h.bd, fun p hp q => (h.mem p hp q).trans (e _)⟩
theorem FolR.len1 {n : Nat} {F : List (List Int)} {P : List (Nat × Nat)} (h : FolR n F P) {p : Nat} (hp : p < F.length) : F[p].length ≤ n := by
  have h1 := nodup_len F[p] ((List.range n).map fun (k : Nat) => (k : Int)) (h.nd _ (List.getElem_mem hp)) fun x hx => by
    have := h.bd _ (List.getElem_mem hp) x hx
    exact List.mem_map.2 ⟨x.toNat, List.mem_range.2 (by omega), by omega⟩
  simpa using h1
theorem FolR.add {n : Nat} {F : List (List Int)} {P : List (Nat × Nat)} (h : FolR n F P) {p q : Nat} (hp : p < F.length) (hq : q < n) (hn : (q : Int) ∉ F[p]) : FolR n (F.set p (F[p] ++ [(q : Int)])) (P ++ [(p, q)]) := by
  have hmem : ∀ l ∈ F.set p (F[p] ++ [(q : Int)]), l ∈ F ∨ l = F[p] ++ [(q : Int)] := fun l hl => by
    rcases List.mem_or_eq_of_mem_set hl with h | h
    · exact .inl h
    · exact .inr h
  refine ⟨by rw [List.length_set, h.len], fun l hl => ?_, fun l hl x hx => ?_, fun p' hp' q' => ?_⟩
  · rcases hmem l hl with h1 | rfl
    · exact h.nd l h1
    · exact List.nodup_append.2 ⟨h.nd _ (List.getElem_mem hp), by simp, fun a ha b hb => by simp at hb; subst hb; rintro rfl; exact hn ha⟩
  · rcases hmem l hl with h1 | rfl
    · exact h.bd l h1 x hx
    · rcases List.mem_append.1 hx with h2 | h2
      · exact h.bd _ (List.getElem_mem hp) x h2
      · simp at h2; subst h2; omega
  · have hp'' : p' < F.length := by simpa using hp'
    rw [List.getElem_set]
    split
    · rename_i e
      subst e
      simp only [List.mem_append, List.mem_singleton, h.mem p hp, Prod.mk.injEq, true_and]
      constructor
      · rintro (h1 | h1)
        · exact .inl h1
        · exact .inr (by omega)
      · rintro (h1 | h1)
        · exact .inl h1
        · exact .inr (by omega)
    · rename_i e
      simp only [List.mem_append, List.mem_singleton, h.mem p' hp'', Prod.mk.injEq]
      constructor
      · exact .inl
      · rintro (h1 | h1)
        · exact h1
        · exact absurd h1.1.symm e
theorem C_ref15_join {n : Nat} {F : List (List Int)} {P : List (Nat × Nat)} (hF : FolR n F P) (sp : List (Int × (Int × Unit))) {la fi : List Nat} (hla : ∀ p ∈ la, p < n) (hfi : ∀ q ∈ fi, q < n) (h1 : la.length ≤ 1000000) (h2 : fi.length ≤ 1000000) (hn : n ≤ 1000000) :
    ∃ F', FolR n F' (P ++ prodL la fi) ∧ Calls' tbl N_ref15_Positions_join_rdd [.ptr 0 0, .d (.list tI) (cL la), .d (.list tI) (cL fi)] [.box T_str_ref15_Positions [.sl 1, .sl 2], .vec T_str_ref15_Spot (pr [tI, tI]) sp, .tree T_sl_i64 (.s 3 1 .e .e) (.list tI) F none] q_ref15_Positions_join_rdd (sp, F', ()) := by
  suffices h : ∃ c : List (Int × (Int × Unit)) × List (List Int) × Unit, (∃ F', c = (sp, F', ()) ∧ FolR n F' (P ++ prodL la fi)) ∧ Calls' tbl N_ref15_Positions_join_rdd [.ptr 0 0, .d (.list tI) (cL la), .d (.list tI) (cL fi)] [.box T_str_ref15_Positions [.sl 1, .sl 2], .vec T_str_ref15_Spot (pr [tI, tI]) sp, .tree T_sl_i64 (.s 3 1 .e .e) (.list tI) F none] q_ref15_Positions_join_rdd c by
    obtain ⟨c, ⟨F', rfl, hF'⟩, hc⟩ := h
    exact ⟨F', hF', hc⟩
  refine calls_ex (sh := q_ref15_Positions_join_rdd) (fun _ => rfl) (conv_of t_ref15_Positions_join_rdd rfl (fun O m => x_ref15_Positions_join_rdd O m (cL la) (cL fi) sp F) ?_)
  unfold G_ref15_Positions_join_rdd
  refine wp_bind (wp_range (N := (cL la).length) (I := fun i s => ∃ F', s = ((i : Int), sp, F', ()) ∧ FolR n F' (P ++ prodL (la.take i) fi)) ⟨F, rfl, hF.congr fun x => by simp [prodL]⟩ ?_ ?_)
  · rintro i s hi ⟨F1, rfl, hF1⟩
    have hi' : i < la.length := by rw [cL_len] at hi; exact hi
    unfold L_ref15_Positions_join_rdd_2
    refine wp_in hi (wp_get0 hi ?_)
    rw [cL_get hi']
    have hp : la[i] < n := hla _ (List.getElem_mem hi')
    have hpI : la[i] < n := hp
    refine wp_bind (wp_range (N := (cL fi).length) (I := fun j s => ∃ F', s = ((j : Int), sp, F', ()) ∧ FolR n F' (P ++ prodL (la.take i) fi ++ prodL [la[i]] (fi.take j))) ⟨F1, rfl, hF1.congr fun x => by simp [prodL]⟩ ?_ ?_)
    · rintro j s hj ⟨F2, rfl, hF2⟩
      have hj' : j < fi.length := by rw [cL_len] at hj; exact hj
      have hq : fi[j] < n := hfi _ (List.getElem_mem hj')
      have hpF : la[i] < F2.length := by rw [hF2.len]; exact hp
      unfold L_ref15_Positions_join_rdd_1
      refine wp_in hj (wp_bind (wp_get0 hj ?_))
      rw [cL_get hj']
      refine wp_get0 hpF (wp_guard (decide_eq_true (by omega)) ?_)
      refine wp_get (x := F2[la[i]]) (by simp [List.getElem?_eq_getElem hpF]) (wp_get (x := F2[la[i]]) (by simp [List.getElem?_eq_getElem hpF]) (wp_guard (Nat.beq_refl _) ?_))
      refine wp_bind (wp_range (N := F2[la[i]].length) (I := fun m s => s = ((F2[la[i]].take m).any (· == ((fi[j] : Nat) : Int)), (m : Int), sp, (F2, ((la[i] : Nat) : Int)), F2[la[i]], ())) (by simp) ?_ ?_)
      · rintro m s hm rfl
        have hl := hF2.len1 hpF
        unfold L_ref15_Positions_join_rdd_0
        refine wp_in hm (wp_get0 hm (wp_get (x := F2[la[i]][m]) (by simp [List.getElem?_eq_getElem hm]) ?_))
        refine wp_bind (wp_or (b := (F2[la[i]][m] == ((fi[j] : Nat) : Int))) (fun _ => wp_some rfl) (wp_some ?_))
        rw [wrap_succ hm (by omega), List.take_add_one, List.getElem?_eq_getElem hm, List.any_append]
        simp
      · rintro s rfl
        unfold L_ref15_Positions_join_rdd_0
        refine wp_out (wp_some ?_)
        rw [List.take_length]
        have hset : F2.set la[i] F2[la[i]] = F2 := List.set_getElem_self hpF
        have hget : F2[la[i]]? = some F2[la[i]] := List.getElem?_eq_getElem hpF
        have e1 : (Int.toNat ((la[i] : Nat) : Int)) = la[i] := by omega
        simp only [e1, Int.toNat_natCast, hset]
        refine wp_get (x := F2[la[i]]) hget ?_
        have hl := hF2.len1 hpF
        have hstep : ∀ F3, FolR n F3 (P ++ prodL (la.take i) fi ++ prodL [la[i]] (fi.take j) ++ [(la[i], fi[j])]) → FolR n F3 (P ++ prodL (la.take i) fi ++ prodL [la[i]] (fi.take (j + 1))) := fun F3 h3 => h3.congr fun x => by
          rw [List.take_add_one, List.getElem?_eq_getElem hj']
          simp only [prodL, List.flatMap_cons, List.flatMap_nil, List.append_nil, List.map_append, Option.toList_some, List.map_cons, List.map_nil, List.append_assoc]
        refine wp_bif (fun h => ?_) fun h => wp_some (wp_some ⟨F2, ?_, hstep F2 ?_⟩)
        · have hnm : ((fi[j] : Nat) : Int) ∉ F2[la[i]] := fun hm => by
            have : F2[la[i]].any (· == ((fi[j] : Nat) : Int)) = true := List.any_eq_true.2 ⟨_, hm, by simp⟩
            rw [this] at h; cases h
          refine wp_guard (decide_eq_true (by omega)) (wp_get (x := F2[la[i]]) hget (wp_get0 hpF (wp_get (x := F2[la[i]]) hget (wp_guard (Nat.beq_refl _) ?_))))
          refine wp_guard (decide_eq_true (by simp; omega)) (wp_get0 hpF (wp_get (x := F2[la[i]]) hget (wp_guard (Nat.beq_refl _) (wp_get (x := F2[la[i]]) hget (wp_some (wp_some ⟨_, ?_, hstep _ (hF2.add hpF hq hnm)⟩))))))
          rw [wrap_succ hj (by rw [cL_len]; omega)]
        · rw [wrap_succ hj (by rw [cL_len]; omega)]
        · refine hF2.congr fun x => ?_
          have hm : ((fi[j] : Nat) : Int) ∈ F2[la[i]] := by
            have : F2[la[i]].any (· == ((fi[j] : Nat) : Int)) = true := by simpa using h
            obtain ⟨y, hy, he⟩ := List.any_eq_true.1 this
            have he : y = ((fi[j] : Nat) : Int) := by simpa using he
            rw [← he]; exact hy
          have := (hF2.mem _ hpF fi[j]).1 hm
          simp only [List.mem_append, List.mem_singleton] at this ⊢
          constructor
          · exact .inl
          · rintro (h1 | rfl)
            · exact h1
            · exact this
    · rintro s ⟨F2, rfl, hF2⟩
      unfold L_ref15_Positions_join_rdd_1
      refine wp_out (wp_some (wp_some ⟨F2, ?_, hF2.congr fun x => ?_⟩))
      · rw [wrap_succ hi (by rw [cL_len]; omega)]
      · rw [cL_len, List.take_length, prodL_take hi', List.append_assoc]
  · rintro s ⟨F1, rfl, hF1⟩
    unfold L_ref15_Positions_join_rdd_2
    refine wp_out (wp_some (wp_some ⟨_, rfl, F1, rfl, hF1.congr fun x => ?_⟩))
    rw [cL_len, List.take_length]
def spZ (l : List (Int × Int)) : List (Int × (Int × Unit)) := l.map fun p => (p.1, p.2, ())
theorem spZ_app (a b : List (Int × Int)) : spZ (a ++ b) = spZ a ++ spZ b := List.map_append
theorem spZ_len (l : List (Int × Int)) : (spZ l).length = l.length := List.length_map _
theorem FolR.one {n : Nat} {F : List (List Int)} {P : List (Nat × Nat)} (h : FolR n F P) (hP : ∀ p q, (p, q) ∈ P → p < n) : FolR (n + 1) (F ++ [[]]) P := by
  refine ⟨by simp [h.len], fun l hl => ?_, fun l hl x hx => ?_, fun p hp q => ?_⟩
  · rcases List.mem_append.1 hl with h1 | h1
    · exact h.nd l h1
    · simp at h1; subst h1; simp
  · rcases List.mem_append.1 hl with h1 | h1
    · have := h.bd l h1 x hx; omega
    · simp at h1; subst h1; cases hx
  · by_cases hpl : p < F.length
    · rw [List.getElem_append_left hpl]; exact h.mem p hpl q
    · have : p = F.length := by simp at hp; omega
      subst this
      simp only [List.getElem_concat_length, List.not_mem_nil, false_iff]
      intro hm
      have := hP _ _ hm
      have := h.len
      omega
theorem C_ref15_Walk : ∀ (r : Rx), wellB r = true → sz r ≤ 1000000 → ∀ (sp : List (Int × (Int × Unit))) (F : List (List Int)) (P : List (Nat × Nat)), FolR sp.length F P → (∀ p q, (p, q) ∈ P → p < sp.length) → sp.length + cnt r ≤ 1000000 →
    ∃ F', FolR (sp.length + (glu r sp.length).sp.length) F' (P ++ (glu r sp.length).pr) ∧
      Calls' tbl N_ref15_Positions_Walk_rd [.ptr 0 0, .d .rx r] [.box T_str_ref15_Positions [.sl 1, .sl 2], .vec T_str_ref15_Spot (pr [tI, tI]) sp, .tree T_sl_i64 (.s 3 1 .e .e) (.list tI) F none] q_ref15_Positions_Walk_rd
        (cL (glu r sp.length).fi, cL (glu r sp.length).la, sp ++ spZ (glu r sp.length).sp, F', ()) := by
  refine rx_ind fun k lo up ks ih hw hs sp F P hF hP hM => ?_
  obtain ⟨hlen, hkid⟩ := rx_kid hs
  obtain ⟨hn, hks⟩ := well_iff.1 hw
  have hgw := glu_well _ hw sp.length
  have hgl := glu_lie (.mk k lo up ks) sp.length
  have hcs : cnts ks ≤ cnt (.mk k lo up ks) := by simp only [cnt]; omega
  suffices h : ∃ c : List Int × List Int × List (Int × (Int × Unit)) × List (List Int) × Unit, (∃ F', c = (cL (glu (.mk k lo up ks) sp.length).fi, cL (glu (.mk k lo up ks) sp.length).la, sp ++ spZ (glu (.mk k lo up ks) sp.length).sp, F', ()) ∧ FolR (sp.length + (glu (.mk k lo up ks) sp.length).sp.length) F' (P ++ (glu (.mk k lo up ks) sp.length).pr)) ∧
      Calls' tbl N_ref15_Positions_Walk_rd [.ptr 0 0, .d .rx (.mk k lo up ks)] [.box T_str_ref15_Positions [.sl 1, .sl 2], .vec T_str_ref15_Spot (pr [tI, tI]) sp, .tree T_sl_i64 (.s 3 1 .e .e) (.list tI) F none] q_ref15_Positions_Walk_rd c by
    obtain ⟨c, ⟨F', rfl, hF'⟩, hc⟩ := h
    exact ⟨F', hF', hc⟩
  refine calls_ex (sh := q_ref15_Positions_Walk_rd) (fun _ => rfl) (conv_of t_ref15_Positions_Walk_rd rfl (fun O m => x_ref15_Positions_Walk_rd O m (.mk k lo up ks) sp F) ?_)
  unfold G_ref15_Positions_Walk_rd
  by_cases h12 : k = 1 ∨ k = 2
  · have hleaf : ∀ lo' up', glu (.mk k lo up ks) sp.length = gAt sp.length lo' up' → Wp (fun _ => (guardB (decide ((sp.length + (([(lo', up', ())] : List (Int × (Int × Unit)))).length) * 16 ≤ 140737488355328)) (guardB (decide ((F.length + (([([] : List Int)] : List (List Int))).length) * 24 ≤ 140737488355328)) (
        some ((.inr ((([IntKind.wrap .i64 (((sp ++ (([(lo', up', ())] : List (Int × (Int × Unit))))).length : Int) - (1 : Int))] : List Int), ([IntKind.wrap .i64 (((sp ++ (([(lo', up', ())] : List (Int × (Int × Unit))))).length : Int) - (1 : Int))] : List Int), sp ++ (([(lo', up', ())] : List (Int × (Int × Unit)))), F ++ (([([] : List Int)] : List (List Int))), ()))) : (List (Int × (Int × Unit)) × List (List Int) × List Int × List Int × Unit) ⊕ (List Int × List Int × List (Int × (Int × Unit)) × List (List Int) × Unit))))))
        fun r => ∃ F', r = .inr (cL (glu (.mk k lo up ks) sp.length).fi, cL (glu (.mk k lo up ks) sp.length).la, sp ++ spZ (glu (.mk k lo up ks) sp.length).sp, F', ()) ∧ FolR (sp.length + (glu (.mk k lo up ks) sp.length).sp.length) F' (P ++ (glu (.mk k lo up ks) sp.length).pr) := fun lo' up' he => by
      have hfl := hF.len
      refine wp_guard (decide_eq_true (by simp; omega)) (wp_guard (decide_eq_true (by simp; omega)) (wp_some ⟨F ++ [[]], ?_, ?_⟩))
      · rw [he]
        simp only [List.length_append, List.length_singleton]
        rw [wrap_i64 (by omega) (by omega), show ((sp.length + 1 : Nat) : Int) - 1 = (sp.length : Int) by omega]
        rfl
      · rw [he]
        simp only [gAt, List.length_singleton, List.append_nil]
        exact hF.one hP
    rcases h12 with rfl | rfl
    · refine wp_bind (Wp.imp (hleaf lo up (by simp [glu])) fun r hr => ?_)
      obtain ⟨F', rfl, hF'⟩ := hr
      exact wp_some ⟨_, rfl, F', rfl, hF'⟩
    · have hz := hn.zero (by decide)
      refine wp_bind (Wp.imp (hleaf lo 4294967295 (by rw [hz.1]; simp [glu])) fun r hr => ?_)
      obtain ⟨F', rfl, hF'⟩ := hr
      exact wp_some ⟨_, rfl, F', rfl, hF'⟩
  have h1 : k ≠ 1 := fun e => h12 (.inl e)
  have h2 : k ≠ 2 := fun e => h12 (.inr e)
  have e1 : (k == (1 : Int)) = false := by simpa using h1
  have e2 : (k == (2 : Int)) = false := by simpa using h2
  have key : ∀ (g : G), g.sp.length ≤ cnt (.mk k lo up ks) → Lie sp.length g → g.fi.length ≤ 1000000 ∧ g.la.length ≤ 1000000 := fun g h hl => by
    have := hl.fl; have := hl.ll; omega
  have hPx : ∀ (g : G), Lie sp.length g → ∀ p q, (p, q) ∈ P ++ g.pr → p < sp.length + g.sp.length := fun g hl p q h => by
    rcases List.mem_append.1 h with h | h
    · have := hP p q h; omega
    · have := hl.pr p q h; omega
  have htk : ∀ i, cnts (ks.take i) ≤ cnts ks := fun i => by
    have : cnts ks = cnts (ks.take i) + cnts (ks.drop i) := by rw [← cnts_app, List.take_append_drop]
    omega
  have htk1 : ∀ i (h : i < ks.length), cnts (ks.take i) + cnt ks[i] ≤ cnts ks := fun i h => by
    have e : cnts (ks.take (i + 1)) = cnts (ks.take i) + cnt ks[i] := by
      rw [List.take_add_one, List.getElem?_eq_getElem h, cnts_app]; simp [cnts]
    have := htk (i + 1); omega
  have lieS : ∀ i, Lie sp.length (gluS (ks.take i) sp.length (Pl.g0 true)) ∧ (gluS (ks.take i) sp.length (Pl.g0 true)).sp.length = cnts (ks.take i) ∧ (gluS (ks.take i) sp.length (Pl.g0 true)).em = nulA (ks.take i) := fun i => by
    have hl := glu_lie (.mk 3 0 0 (ks.take i)) sp.length
    have e : glu (.mk 3 0 0 (ks.take i)) sp.length = gluS (ks.take i) sp.length (Pl.g0 true) := by simp [glu]
    rw [e] at hl
    refine ⟨hl, ?_⟩
    have : ∀ (l : List Rx) (a : G), (∀ r ∈ l, r ∈ ks) → (gluS l sp.length a).sp.length = a.sp.length + cnts l ∧ (gluS l sp.length a).em = (a.em && nulA l) := by
      intro l
      induction l with
      | nil => intro a _; simp [gluS, cnts, nulA]
      | cons r l ihl =>
        intro a hl
        have hr := hl r (List.mem_cons_self ..)
        obtain ⟨g1, g2⟩ := glu_well r (hks r hr) (sp.length + a.sp.length)
        obtain ⟨g3, g4⟩ := ihl (seqG a (glu r (sp.length + a.sp.length))) fun x hx => hl x (List.mem_cons_of_mem _ hx)
        simp only [gluS, g3, g4, cnts, nulA]
        simp only [seqG, List.length_append, g1, g2, Bool.and_assoc]
        exact ⟨by omega, trivial⟩
    have := this (ks.take i) (Pl.g0 true) fun r hr => List.mem_of_mem_take hr
    simpa [Pl.g0] using this
  have lieA : ∀ i, Lie sp.length (gluA (ks.take i) sp.length (Pl.g0 false)) ∧ (gluA (ks.take i) sp.length (Pl.g0 false)).sp.length = cnts (ks.take i) := fun i => by
    have hl := glu_lie (.mk 4 0 0 (ks.take i)) sp.length
    have e : glu (.mk 4 0 0 (ks.take i)) sp.length = gluA (ks.take i) sp.length (Pl.g0 false) := by simp [glu]
    rw [e] at hl
    refine ⟨hl, ?_⟩
    have : ∀ (l : List Rx) (a : G), (∀ r ∈ l, r ∈ ks) → (gluA l sp.length a).sp.length = a.sp.length + cnts l := by
      intro l
      induction l with
      | nil => intro a _; simp [gluA, cnts]
      | cons r l ihl =>
        intro a hl
        have hr := hl r (List.mem_cons_self ..)
        obtain ⟨g1, g2⟩ := glu_well r (hks r hr) (sp.length + a.sp.length)
        have g3 := ihl (altG a (glu r (sp.length + a.sp.length))) fun x hx => hl x (List.mem_cons_of_mem _ hx)
        simp only [gluA, g3, cnts]
        simp only [altG, List.length_append, g1]
        omega
    have := this (ks.take i) (Pl.g0 false) fun r hr => List.mem_of_mem_take hr
    simpa [Pl.g0] using this
  refine wp_bind (wp_bind (wp_id (a := (false, sp, F, ())) (fun _ => ?_) ?_))
  · show (bif (k == (1 : Int)) then some ((k == (1 : Int)), sp, F, ()) else some ((k == (2 : Int)), sp, F, ())) = _
    rw [e1, e2]; rfl
  show Wp (fun n => bif (k == (3 : Int)) then _ else _) _
  by_cases h3 : k = 3
  · subst h3
    have eg : glu (.mk 3 lo up ks) sp.length = gluS ks sp.length (Pl.g0 true) := by simp [glu]
    show Wp (fun n => Option.bind (loopN n (L_ref15_Positions_Walk_rd_0 (evF tbl n) n (.mk 3 lo up ks)) (true, (0 : Int), sp, F, ([] : List Int), ([] : List Int), ())) _) _
    refine wp_bind (wp_range (N := ks.length) (I := fun i s => ∃ F', s = ((gluS (ks.take i) sp.length (Pl.g0 true)).em, (i : Int), sp ++ spZ (gluS (ks.take i) sp.length (Pl.g0 true)).sp, F', cL (gluS (ks.take i) sp.length (Pl.g0 true)).fi, cL (gluS (ks.take i) sp.length (Pl.g0 true)).la, ()) ∧ FolR (sp.length + (gluS (ks.take i) sp.length (Pl.g0 true)).sp.length) F' (P ++ (gluS (ks.take i) sp.length (Pl.g0 true)).pr)) ⟨F, by simp [gluS, Pl.g0, spZ, cL], by simpa [gluS, Pl.g0] using hF⟩ ?_ ?_)
    · rintro i s hi ⟨F1, rfl, hF1⟩
      obtain ⟨l1, l2, l3⟩ := lieS i
      rw [gluS_take hi]
      have hsp1 : (sp ++ spZ (gluS (ks.take i) sp.length (Pl.g0 true)).sp).length = sp.length + (gluS (ks.take i) sp.length (Pl.g0 true)).sp.length := by rw [List.length_append, spZ_len]
      have hkk := key _ (by rw [l2]; have := htk i; omega) l1
      generalize gluS (ks.take i) sp.length (Pl.g0 true) = a at *
      have hr := List.getElem_mem hi
      obtain ⟨w1, w2⟩ := glu_well ks[i] (hks _ hr) (sp.length + a.sp.length)
      have hlx := glu_lie ks[i] (sp.length + a.sp.length)
      unfold L_ref15_Positions_Walk_rd_0
      refine wp_in hi (wp_get0 hi ?_)
      rw [rx_eta]
      have hsz := hkid _ hr
      have hcn := htk1 i hi
      obtain ⟨F2, hF2, hc⟩ := ih ks[i] hr (hks _ hr) (by omega) (sp ++ spZ a.sp) F1 (P ++ a.pr) (by rw [hsp1]; exact hF1) (by rw [hsp1]; exact hPx a l1) (by rw [hsp1]; omega)
      rw [hsp1] at hF2 hc
      generalize glu ks[i] (sp.length + a.sp.length) = x at *
      refine wp_call hc (wp_call (C_ref15_Nullable ks[i] (by omega)) ?_)
      have hfx := hlx.fl
      have hllx := hlx.ll
      obtain ⟨F3, hF3, hc3⟩ := C_ref15_join hF2 (sp ++ spZ a.sp ++ spZ x.sp) (la := a.la) (fi := x.fi) (fun p hp => by have := l1.la p hp; omega) (fun q hq => by have := hlx.fi q hq; omega) (by omega) (by omega) (by omega)
      refine wp_call hc3 ?_
      have hF3' : FolR (sp.length + (seqG a x).sp.length) F3 (P ++ (seqG a x).pr) := by
        simp only [seqG, List.length_append]
        rw [← Nat.add_assoc]
        exact hF3.congr fun y => by simp only [List.append_assoc]
      have hfin : ∀ b : Bool, a.em = b → ∀ b2 : Bool, x.em = b2 → ((b && b2, ((i + 1 : Nat) : Int), sp ++ spZ a.sp ++ spZ x.sp, F3, (bif b then cL a.fi ++ cL x.fi else cL a.fi), (bif b2 then cL a.la else []) ++ cL x.la, ()) : Bool × Int × List (Int × (Int × Unit)) × List (List Int) × List Int × List Int × Unit) = ((seqG a x).em, ((i + 1 : Nat) : Int), sp ++ spZ (seqG a x).sp, F3, cL (seqG a x).fi, cL (seqG a x).la, ()) := fun b hb b2 hb2 => by
        simp only [seqG, hb, hb2, spZ_app, List.append_assoc]
        cases b <;> cases b2 <;> simp [cL_app, cL]
      rw [← w2]
      show Wp (fun n => Option.bind (bif a.em then _ else _) _) _
      cases hb : a.em
      · refine wp_bind (wp_some (wp_bind (wp_some ?_)))
        cases hb2 : x.em
        · refine wp_bind (wp_some (wp_guard (decide_eq_true (by simp only [cL_len, List.length_nil]; omega)) (wp_some ⟨F3, ?_, hF3'⟩)))
          rw [wrap_succ hi (by omega)]; exact hfin false hb false hb2
        · refine wp_bind (wp_some (wp_guard (decide_eq_true (by simp only [cL_len]; omega)) (wp_some ⟨F3, ?_, hF3'⟩)))
          rw [wrap_succ hi (by omega)]; exact hfin false hb true hb2
      · refine wp_bind (wp_guard (decide_eq_true (by simp only [cL_len]; omega)) (wp_some (wp_bind (wp_some ?_))))
        cases hb2 : x.em
        · refine wp_bind (wp_some (wp_guard (decide_eq_true (by simp only [cL_len, List.length_nil]; omega)) (wp_some ⟨F3, ?_, hF3'⟩)))
          rw [wrap_succ hi (by omega)]; exact hfin true hb false hb2
        · refine wp_bind (wp_some (wp_guard (decide_eq_true (by simp only [cL_len]; omega)) (wp_some ⟨F3, ?_, hF3'⟩)))
          rw [wrap_succ hi (by omega)]; exact hfin true hb true hb2
    · rintro s ⟨F1, rfl, hF1⟩
      unfold L_ref15_Positions_Walk_rd_0
      rw [List.take_length] at hF1 ⊢
      refine wp_out (wp_some (wp_some (wp_some ⟨_, rfl, F1, ?_, by rw [eg]; exact hF1⟩)))
      rw [eg]
  · have e3 : (k == (3 : Int)) = false := by simpa using h3
    rw [e3]
    show Wp (fun n => Option.bind (loopN n (L_ref15_Positions_Walk_rd_1 (evF tbl n) n (.mk k lo up ks)) ((0 : Int), sp, F, ([] : List Int), ([] : List Int), ())) _) _
    refine wp_bind (wp_range (N := ks.length) (I := fun i s => ∃ F', s = ((i : Int), sp ++ spZ (gluA (ks.take i) sp.length (Pl.g0 false)).sp, F', cL (gluA (ks.take i) sp.length (Pl.g0 false)).fi, cL (gluA (ks.take i) sp.length (Pl.g0 false)).la, ()) ∧ FolR (sp.length + (gluA (ks.take i) sp.length (Pl.g0 false)).sp.length) F' (P ++ (gluA (ks.take i) sp.length (Pl.g0 false)).pr)) ⟨F, by simp [gluA, Pl.g0, spZ, cL], by simpa [gluA, Pl.g0] using hF⟩ ?_ ?_)
    · rintro i s hi ⟨F1, rfl, hF1⟩
      obtain ⟨l1, l2⟩ := lieA i
      rw [gluA_take hi]
      have hsp1 : (sp ++ spZ (gluA (ks.take i) sp.length (Pl.g0 false)).sp).length = sp.length + (gluA (ks.take i) sp.length (Pl.g0 false)).sp.length := by rw [List.length_append, spZ_len]
      have hkk := key _ (by rw [l2]; have := htk i; omega) l1
      generalize gluA (ks.take i) sp.length (Pl.g0 false) = a at *
      have hr := List.getElem_mem hi
      obtain ⟨w1, w2⟩ := glu_well ks[i] (hks _ hr) (sp.length + a.sp.length)
      have hlx := glu_lie ks[i] (sp.length + a.sp.length)
      unfold L_ref15_Positions_Walk_rd_1
      refine wp_in hi (wp_get0 hi ?_)
      rw [rx_eta]
      have hsz := hkid _ hr
      have hcn := htk1 i hi
      obtain ⟨F2, hF2, hc⟩ := ih ks[i] hr (hks _ hr) (by omega) (sp ++ spZ a.sp) F1 (P ++ a.pr) (by rw [hsp1]; exact hF1) (by rw [hsp1]; exact hPx a l1) (by rw [hsp1]; omega)
      rw [hsp1] at hF2 hc
      generalize glu ks[i] (sp.length + a.sp.length) = x at *
      have hfx := hlx.fl
      have hllx := hlx.ll
      refine wp_call hc (wp_guard (decide_eq_true (by simp only [cL_len]; omega)) (wp_guard (decide_eq_true (by simp only [cL_len]; omega)) (wp_some ⟨F2, ?_, ?_⟩)))
      · rw [wrap_succ hi (by omega)]
        simp only [altG, spZ_app, cL_app, List.append_assoc]
      · simp only [altG, List.length_append]
        rw [← Nat.add_assoc]
        exact hF2.congr fun y => by simp only [List.append_assoc]
    · rintro s ⟨F1, rfl, hF1⟩
      unfold L_ref15_Positions_Walk_rd_1
      obtain ⟨l1, l2⟩ := lieA ks.length
      rw [List.take_length] at hF1 l1 l2 ⊢
      have hkk := key _ (by rw [l2]; omega) l1
      refine wp_out (wp_some ?_)
      have hloop : ∀ (hk : glu (.mk k lo up ks) sp.length = loopG (gluA ks sp.length (Pl.g0 false)) ∨ glu (.mk k lo up ks) sp.length = emG (loopG (gluA ks sp.length (Pl.g0 false)))), (glu (.mk k lo up ks) sp.length).fi = (gluA ks sp.length (Pl.g0 false)).fi ∧ (glu (.mk k lo up ks) sp.length).la = (gluA ks sp.length (Pl.g0 false)).la ∧ (glu (.mk k lo up ks) sp.length).sp = (gluA ks sp.length (Pl.g0 false)).sp ∧ (glu (.mk k lo up ks) sp.length).pr = (gluA ks sp.length (Pl.g0 false)).pr ++ prodL (gluA ks sp.length (Pl.g0 false)).la (gluA ks sp.length (Pl.g0 false)).fi := fun hk => by
        rcases hk with h | h <;> rw [h] <;> exact ⟨rfl, rfl, rfl, rfl⟩
      have hflat : ∀ (hk : glu (.mk k lo up ks) sp.length = gluA ks sp.length (Pl.g0 false) ∨ glu (.mk k lo up ks) sp.length = emG (gluA ks sp.length (Pl.g0 false))), (glu (.mk k lo up ks) sp.length).fi = (gluA ks sp.length (Pl.g0 false)).fi ∧ (glu (.mk k lo up ks) sp.length).la = (gluA ks sp.length (Pl.g0 false)).la ∧ (glu (.mk k lo up ks) sp.length).sp = (gluA ks sp.length (Pl.g0 false)).sp ∧ (glu (.mk k lo up ks) sp.length).pr = (gluA ks sp.length (Pl.g0 false)).pr := fun hk => by
        rcases hk with h | h <;> rw [h] <;> exact ⟨rfl, rfl, rfl, rfl⟩
      by_cases h56 : k = 5 ∨ k = 6
      · have hb : (bif (k == (5 : Int)) then some true else some (k == (6 : Int))) = some true := by
          rcases h56 with rfl | rfl <;> rfl
        refine wp_bind (wp_id (a := true) (fun _ => hb) ?_)
        obtain ⟨q1, q2, q3, q4⟩ := hloop (by
          rcases h56 with rfl | rfl
          · exact .inr (by simp [glu])
          · exact .inl (by simp [glu]))
        obtain ⟨F2, hF2, hc2⟩ := C_ref15_join hF1 (sp ++ spZ (gluA ks sp.length (Pl.g0 false)).sp) (la := (gluA ks sp.length (Pl.g0 false)).la) (fi := (gluA ks sp.length (Pl.g0 false)).fi) (fun p hp => by have := l1.la p hp; omega) (fun q hq => by have := l1.fi q hq; omega) hkk.2 hkk.1 (by omega)
        refine wp_call hc2 (wp_some (wp_some ⟨_, rfl, F2, ?_, ?_⟩))
        · rw [q1, q2, q3]
        · rw [q3, q4, ← List.append_assoc]; exact hF2
      · have h5 : k ≠ 5 := fun e => h56 (.inl e)
        have h6 : k ≠ 6 := fun e => h56 (.inr e)
        have hb : (bif (k == (5 : Int)) then some true else some (k == (6 : Int))) = some false := by
          rw [show (k == (5 : Int)) = false by simpa using h5, show (k == (6 : Int)) = false by simpa using h6]; rfl
        refine wp_bind (wp_id (a := false) (fun _ => hb) ?_)
        obtain ⟨q1, q2, q3, q4⟩ := hflat (by
          rcases hn.known with rfl | rfl | rfl | rfl | rfl | rfl | rfl | rfl
          · have := len_nil (hn.leaf (by simp)); subst this
            exact .inr (by simp [glu, gluA, Pl.g0, emG])
          · exact absurd rfl h1
          · exact absurd rfl h2
          · exact absurd rfl h3
          · exact .inl (by simp [glu])
          · exact absurd rfl h5
          · exact absurd rfl h6
          · exact .inr (by simp [glu]))
        refine wp_some (wp_some ⟨_, rfl, F1, ?_, ?_⟩)
        · rw [q1, q2, q3]
        · rw [q3, q4]; exact hF1
end Go.Proofs.YtifgipebbagfcaaDoor
