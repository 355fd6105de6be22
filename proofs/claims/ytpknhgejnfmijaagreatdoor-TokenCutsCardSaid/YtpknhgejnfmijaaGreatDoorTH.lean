/- A text of the claim, with what no other text of it needs taken out. -/
import Derived.Test.YtpknhgejnfmijaaGreatDoorTG
import Derived.Test.YtpknhgejnfmijaaGreatDoorEV
import Derived.Deep.RegionLaw
import Derived.Deep.AppendLies
namespace Go.Proofs.YtpknhgejnfmijaaGreatDoor.X
open Go.RowKit Go.Proofs.YtpknhgejnfmijaaGreatDoorW.PrintWords Go.Proofs.YtpknhgejnfmijaaGreatDoor
set_option linter.unusedVariables false
set_option linter.unusedSimpArgs false
theorem row_ne {w : World} {base n size : Nat} {e : TypeId} {v : Value} {xs : List Value} (h : w.ownsRow base e size v n xs) {b : Nat} {cs : Array Value} {T : TypeId} {fr : Nat × Nat} (hb : w.heap[b]? = some (.cells cs T fr)) (hne : T ≠ e) : ∀ k, v.ownBlock = some k → k ≠ b := by
  intro k hk hkb
  subst hkb
  rcases h.2 with ⟨rfl, _⟩ | ⟨g, cap, cur, rfl, _, hgg, _⟩
  · simp [Value.ownBlock] at hk
  · simp [Value.ownBlock] at hk
    subst hk
    have := hgg.symm.trans hb
    simp at this
    exact hne this.2.1.symm
theorem row_slice {w : World} {base n size : Nat} {e : TypeId} {v : Value} {xs : List Value} (h : w.ownsRow base e size v n xs) : ∃ A c, v = .slice A n c := by
  rcases h.2 with ⟨rfl, rfl⟩ | ⟨g, cap, cur, rfl, _⟩
  · exact ⟨_, _, rfl⟩
  · exact ⟨_, _, rfl⟩
theorem row_pos {w : World} {base n size : Nat} {e : TypeId} {A : Option Addr} {c : Nat} {xs : List Value} (h : w.ownsRow base e size (.slice A n c) n xs) (hn : 0 < n) : ∃ g, A = some ⟨g, 0, none⟩ ∧ base ≤ g ∧ n ≤ c := by
  rcases h.2 with ⟨h1, rfl⟩ | ⟨g, cap, cur, h1, hb, _, hc, _⟩
  · omega
  · simp only [Value.slice.injEq] at h1
    exact ⟨g, h1.1, hb, by omega⟩
def attrCells (l : List (List UInt8 × List UInt8)) : List Value := l.flatMap fun a => [.string ⟨a.1.toArray⟩, .string ⟨a.2.toArray⟩]
theorem rawCells_at (all : Int) : ∀ (rs : List T.Raw) (j : Nat) (a : T.Raw), rs[j]? = some a → (rawCells all rs)[j * 3]? = some (.string ⟨a.name.toArray⟩) ∧ (rawCells all rs)[j * 3 + 1]? = some (.string ⟨a.value.toArray⟩) ∧ (rawCells all rs)[j * 3 + 2]? = some (.int .i64 (all - a.left)) := by
  intro rs
  induction rs with
  | nil => intro j a h; simp at h
  | cons r rs ih =>
    intro j a h
    have e : rawCells all (r :: rs) = .string ⟨r.name.toArray⟩ :: .string ⟨r.value.toArray⟩ :: .int .i64 (all - r.left) :: rawCells all rs := by simp [rawCells]
    rw [e]
    cases j with
    | zero =>
      simp at h
      subst h
      exact ⟨rfl, rfl, rfl⟩
    | succ j =>
      have h2 : rs[j]? = some a := by simpa using h
      have h3 := ih j a h2
      have e1 : (j + 1) * 3 = j * 3 + 1 + 1 + 1 := by omega
      rw [e1]
      exact h3
def readP (all : Int) (tb : Nat) (base : Nat) (rs : List T.Raw) (k : Int) (n : List UInt8) (tx : ByteArray) (p : Int) (al : Nat) (e : Ending) (w : World) : Prop :=
  ∃ (A : Option Addr) (m c : Nat), TokAt tb k n (.slice A m c) tx p w ∧
    (if (T.readL al rs []).2.2 ≠ 0 then e = .returned (.tuple #[.int .i64 ((T.readL al rs []).2.1 : Nat), .int .i64 ((T.readL al rs []).2.2 : Nat)])
     else if 32 < rs.length then e = .returned (.tuple #[.int .i64 p, .int .i64 3])
     else e = .returned (.tuple #[.int .i64 0, .int .i64 0]) ∧ w.ownsRow base 38 2 (.slice A m c) rs.length (attrCells (T.readL al rs []).1))
set_option maxHeartbeats 4000000 in
set_option maxRecDepth 100000 in
theorem read_k (tb : Nat) (al base : Nat) (rs : List T.Raw) (v : Value) (w : World) (hG : Glob w) (k : Int) (n : List UInt8) (tx : ByteArray) (p : Int) (ht : TokAt tb k n (.slice none 0 0) tx p w) (hal : al ≤ 1000000000)
    (hrs : ∀ r ∈ rs, r.left ≤ al ∧ r.value.length ≤ al) (hrl : rs.length ≤ al) (hv : w.ownsRow base 108 3 v rs.length (rawCells al rs)) (w0 : World) (hw0 : Below w0.heap.size w0 w) (hG0 : Glob w0) (htb : w0.heap.size ≤ tb) :
    Calls Tryz.prog 40 #[.pointer (some ⟨tb, 0, none⟩), v] w fun e w' => readP al tb w.heap.size rs k n tx p al e w' ∧ Off [tb] w w' := by
  obtain ⟨A, c, rfl⟩ := row_slice hv
  have hvne := row_ne hv ht (by decide)
  have hlt := ht.lt
  have HV := Lib.hid hv
  have HT := Lib.hid ht
  obtain ⟨m, hm⟩ : ∃ m, m = rs.length := ⟨_, rfl⟩
  rw [← hm] at HV hvne hrl ⊢
  have HMm := Lib.hid hm
  clear hv ht hm
  go_enter Tryz.func40, Tryz.ntmps40
  go_wp2
  go_loopw [13] (fun i wr => ∃ (j : Nat) (acc : List (List UInt8 × List UInt8)) (av : Value), i = .int .i64 (j : Int) ∧ j ≤ m ∧ Off [tb] w wr ∧ TokAt tb k n av tx p wr ∧ wr.ownsRow w.heap.size 38 2 av j (attrCells acc) ∧ Hid (acc.length = j ∧ T.readL al (rs.drop j) acc = T.readL al rs []))
    (fun i _ => m - (intOf i).toNat)
  case atStart => exact ⟨0, [], _, rfl, by omega, Off.refl _ _, HT.out, World.ownsRow_nil _ _ _ _, rfl, rfl⟩
  case round =>
    obtain ⟨j, acc, av, rfl, hj, ho, ht1, hown, HA⟩ := hrel
    have hv1 := ho.row HV.out (fun k hk hk2 => hvne k hk (by simpa using hk2))
    by_cases hjm : j < m
    · obtain ⟨a, ha⟩ : ∃ a, rs[j]? = some a := ⟨rs[j]'(by have := HMm.out; omega), List.getElem?_eq_getElem (by have := HMm.out; omega)⟩
      obtain ⟨g, rfl, hbg, hmc⟩ := row_pos hv1 (by omega)
      obtain ⟨x0, x1, x2⟩ := rawCells_at al rs j a ha
      have y0 := hv1.cellAt (j * 3) (by omega)
      have y1 := hv1.cellAt (j * 3 + 1) (by omega)
      have y2 := hv1.cellAt (j * 3 + 2) (by omega)
      rw [x0] at y0; rw [x1] at y1; rw [x2] at y2
      have hmem : a ∈ rs := List.mem_of_getElem? ha
      obtain ⟨b1, b2⟩ := hrs a hmem
      have hD := E.D_le _ a.value (Nat.le_refl _)
      have hdrop : rs.drop j = a :: rs.drop (j + 1) := (List.drop_eq_getElem_cons (by have := HMm.out; omega)).trans (by rw [List.getElem?_eq_getElem (by have := HMm.out; omega)] at ha; rw [Option.some.inj ha])
      obtain ⟨o, q, er, hO⟩ : ∃ o q er, E.D a.value = (o, q, er) := ⟨_, _, _, rfl⟩
      have hread : T.readL al (rs.drop j) acc = if er ≠ 0 then (acc, al - a.left + q, er) else T.readL al (rs.drop (j + 1)) (acc ++ [(a.name, o)]) := by
        rw [hdrop]
        show (if (E.D a.value).2.2 ≠ 0 then (acc, al - a.left + (E.D a.value).2.1, (E.D a.value).2.2) else T.readL al (rs.drop (j + 1)) (acc ++ [(a.name, (E.D a.value).1)])) = _
        rw [hO]
      have hread2 := hread.symm.trans HA.out.2
      rw [hO] at hD
      simp only at hD
      have s0 : RawAt wr.heap.size a.name a.value (al - a.left) (wr.alloc (.cells #[.string ⟨a.name.toArray⟩, .string ⟨a.value.toArray⟩, .int .i64 (al - a.left)] 108 (0, 0))) := blk_new _ _
      have oa : Off [] wr (wr.alloc (.cells #[.string ⟨a.name.toArray⟩, .string ⟨a.value.toArray⟩, .int .i64 (al - a.left)] 108 (0, 0))) := Off.alloc _ _ _
      have hG1 : Glob (wr.alloc (.cells #[.string ⟨a.name.toArray⟩, .string ⟨a.value.toArray⟩, .int .i64 (al - a.left)] 108 (0, 0))) := hG0.of_below ((ho.below hw0 hw0.size (by simp; omega)).alloc (Nat.le_trans hw0.size ho.size) _)
      have ht2 := ht1.kept oa (by simp)
      have hl := hrs a hmem
      by_cases her : er = 0
      · subst her
        have HDEC := Lib.hid (fun W hg => entity_Decode.calls ⟨a.value.toArray⟩ ⟨o.toArray⟩ 0 0 W hg (by
          unfold entity_Decode.f
          have hsz := mk_sz a.value
          rw [if_pos (by omega)]
          show some ((⟨(decR a.value).1.toArray⟩ : ByteArray), (decR a.value).2.1, (decR a.value).2.2) = _
          unfold decR
          rw [hO]
          rfl))
        rw [if_neg (by simp)] at hread2
        clear hread
        obtain ⟨i0, hi, hz0, hz1, hz2⟩ := info_parts (P := Tryz.prog) (e := 38) (z := .agg #[.string ⟨#[]⟩, .string ⟨#[]⟩]) (size := 2) (bytes := 32) (by kernel_rfl)
        go_wp2_with (go_at_call 42; refine (HDEC.out _ hG1).mono ?_; rintro e w2 ⟨rfl, hb2⟩; have s2 := s0.kept (bs := []) (Off.of_below hb2) (by simp); have ht3 := ht2.kept (bs := []) (Off.of_below hb2) (by simp); have r0 := s2.c0; have r2 := s2.c2; have d2 := ht3.c2; have fr2 := ht3.soft 2)
        have own2 : w2.ownsRow w.heap.size 38 2 av j (attrCells acc) := ((hown.alloc _).kept (World.grownBy.but ⟨hb2.os, hb2.tape, hb2.output, hb2.size, fun i hi _ => hb2.block i hi⟩ none) (by cases hv : av.ownBlock <;> simp))
        have hsw : w.heap.size ≤ w2.heap.size := by have := ho.size; have := hb2.size; simp at this; omega
        have q2 : Off [tb] w w2 := (ho.trans (oa.more (by simp))).trans (Off.of_below hb2)
        have hne5 : some tb ≠ av.ownBlock := fun e => row_ne own2 ht3 (by decide) tb e.symm rfl
        have ht4 : TokAt tb k n av tx p (w2.alloc (.cells #[.string ⟨a.name.toArray⟩, .string ⟨o.toArray⟩] 38)) := blk_alloc ht3 _
        have d4 := ht4.c2
        go_region_law (refine step_append_lies _ rfl _ _ 31 rfl w.heap.size 38 i0 (.agg #[.string ⟨#[]⟩, .string ⟨#[]⟩]) 2 32 Tryz.underlying31 hi hz0 hz1 hz2 rfl (by decide) av j (attrCells acc) rfl (by first | exact own2 | exact own2.alloc _) _ 1 _ [.string ⟨a.name.toArray⟩, .string ⟨o.toArray⟩] rfl rfl (World.news_of_block (cs := #[.string ⟨a.name.toArray⟩, .string ⟨o.toArray⟩]) (t := 38) (fr := (0, 0)) (by first | exact heap_alloc_new _ _ | exact blk_drew (heap_alloc_new _ _))) (by intro u hu; simp only [List.mem_cons, List.not_mem_nil, or_false] at hu; rcases hu with rfl | rfl <;> rfl) (by decide) (by unfold maxLen; omega) (by omega) (by simp; omega) _ rfl ?_; intro g2 cap2 w5 own5 hgr5 hat5 hlt5; have ht5 : TokAt tb k n av tx p w5 := blk_grown (by first | exact blk_alloc ht3 _ | exact blk_alloc (blk_drew ht3) _ | exact blk_drew (blk_alloc ht3 _)) hgr5 hne5; have k2 := ht5.c2; have kf2 := ht5.soft 2; have q5 : Off [tb] w w5 := Off.own (by first | exact q2.trans (Off.alloc _ _ _) | exact q2.drew.trans (Off.alloc _ _ _) | exact (q2.trans (Off.alloc _ _ _)).drew) hgr5 (fun k hk => (own2.lt k hk).1))
        all_goals
          go_wp2
          have htf := blk_put (cs' := #[.int .u8 k, .string ⟨n.toArray⟩, .slice (some ⟨g2, 0, none⟩) (j + 1) cap2, .string tx, .int .i64 p]) ht5 2 (.slice (some ⟨g2, 0, none⟩) (j + 1) cap2) rfl
          have hac : attrCells (acc ++ [(a.name, o)]) = attrCells acc ++ [.string ⟨a.name.toArray⟩, .string ⟨o.toArray⟩] := by simp [attrCells]
          go_roundw
          case measure => simp [intOf]; omega
          case rel => exact ⟨j + 1, acc ++ [(a.name, o)], .slice (some ⟨g2, 0, none⟩) (j + 1) cap2, by push_cast; rfl, by omega, q5.trans (Off.put _ _ _ _ (by simp)), htf, (Off.put (bs := [tb]) _ _ _ _ (by simp)).row (by rw [hac]; exact own5) (fun k hk hk2 => row_ne own5 ht5 (by decide) k hk (by simpa using hk2)), by rw [List.length_append, HA.out.1]; rfl, hread2⟩
      · have HDEC := Lib.hid (fun W hg => entity_Decode.calls ⟨a.value.toArray⟩ ⟨#[]⟩ (q : Int) (er : Int) W hg (by
          unfold entity_Decode.f
          have hsz := mk_sz a.value
          rw [if_pos (by omega)]
          show some ((⟨(decR a.value).1.toArray⟩ : ByteArray), (decR a.value).2.1, (decR a.value).2.2) = _
          unfold decR
          rw [hO]
          simp only [if_neg her]))
        rw [if_pos her] at hread2
        have hen : ((er : Int) != 0) = true := by simp [her]
        have hwr : IntKind.i64.wrap ((al : Int) - a.left + q) = (al : Int) - a.left + q := IntWalk.i64_in _ (by omega)
        go_wp2_with (go_at_call 42; refine (HDEC.out _ hG1).mono ?_; rintro e w2 ⟨rfl, hb2⟩; have s2 := s0.kept (bs := []) (Off.of_below hb2) (by simp); have ht3 := ht2.kept (bs := []) (Off.of_below hb2) (by simp); have r2 := s2.c2)
        go_ret2
        have e1 : ((al - a.left + q : Nat) : Int) = (al : Int) - a.left + q := by omega
        have e2 : (T.readL al rs []).2.2 = er := by rw [← hread2]
        have e3 : (T.readL al rs []).2.1 = al - a.left + q := by rw [← hread2]
        obtain ⟨A', c', rfl⟩ := row_slice hown
        refine ⟨⟨A', _, c', ht3, ?_⟩, (ho.trans (oa.more (by simp))).trans (Off.of_below hb2)⟩
        rw [e2, if_pos her, e3, e1]
        rfl
    · obtain rfl : j = m := by omega
      have hr0 : T.readL al rs [] = (acc, 0, 0) := by rw [← HA.out.2, HMm.out, List.drop_length]; rfl
      have tc4 := ht1.c4
      by_cases h32 : 32 < j
      · have d32 : decide ((32 : Int) < (j : Int)) = true := decide_eq_true (by omega)
        go_wp2
        go_ret2
        obtain ⟨A', c', rfl⟩ := row_slice hown
        refine ⟨⟨A', _, c', ht1, ?_⟩, ho⟩
        rw [hr0, if_neg (by simp), if_pos (by have := HMm.out; omega)]
        rfl
      · have d32 : decide ((32 : Int) < (j : Int)) = false := decide_eq_false (by omega)
        go_wp2
        go_ret2
        obtain ⟨A', c', rfl⟩ := row_slice hown
        refine ⟨⟨A', _, c', ht1, ?_⟩, ho⟩
        rw [hr0, if_neg (by simp), if_neg (by have := HMm.out; omega), ← HMm.out]
        exact ⟨rfl, hown⟩
end Go.Proofs.YtpknhgejnfmijaaGreatDoor.X
