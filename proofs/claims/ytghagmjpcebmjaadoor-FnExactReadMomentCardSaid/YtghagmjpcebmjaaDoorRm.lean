/-
  Contracts of reading moments.
-/
import Derived.Test.YtghagmjpcebmjaaDoorRl
import Derived.Test.YtghagmjpcebmjaaDoorMrm
namespace Go.Proofs.YtghagmjpcebmjaaDoor
set_option linter.unusedVariables false
set_option linter.unusedSimpArgs false
open Go.RowKit
open Go.Lib (decDigits itoa)

theorem sub_list (s : ByteArray) {a k : Nat} : (s.extract a (a + k)).data.toList = sub s.data.toList a k := by
  rw [Lib.extract_data]; simp [sub]
theorem sz_sub (s : ByteArray) {a k : Nat} (h : a + k ≤ s.size) : (s.extract a (a + k)).size = k := by
  rw [← sz_list, sub_list]; unfold sub; rw [List.length_take, List.length_drop, sz_list]; omega
/-- Digits read. -/
noncomputable def dgB (l : List UInt8) : Bool := @decide (∀ c ∈ l, isDg c) (Classical.propDecidable _)
noncomputable def dgV (l : List UInt8) : Int := if dgB l then (dva 0 l : Nat) else 0
theorem dg_yes {l : List UInt8} (h : ∀ c ∈ l, isDg c) : dgB l = true ∧ dgV l = (dva 0 l : Nat) := by
  have e : dgB l = true := @decide_eq_true _ (Classical.propDecidable _) h
  exact ⟨e, by unfold dgV; rw [e]; rfl⟩
theorem dg_no {l : List UInt8} (h : ∃ c ∈ l, ¬ isDg c) : dgB l = false ∧ dgV l = 0 := by
  have e : dgB l = false := @decide_eq_false _ (Classical.propDecidable _) (fun k => by obtain ⟨c, hc, hd⟩ := h; exact hd (k c hc))
  exact ⟨e, by unfold dgV; rw [e]; rfl⟩
theorem dgB_t {l : List UInt8} (h : dgB l = true) : ∀ c ∈ l, isDg c := @of_decide_eq_true _ (Classical.propDecidable _) h
theorem sDigits (s : ByteArray) (w : World) (hs : s.size ≤ 4) :
    Calls Tryd.prog 102 #[.string s] w fun e w' => e = .returned (.tuple #[.int .i64 (dgV s.data.toList), .bool (dgB s.data.toList)]) ∧ w = w' := by
  go_enter Tryd.func102, Tryd.ntmps102
  go_wp2
  go_loop [4, 5] (fun n i => ∃ (k : Nat) (N : Int), k ≤ s.size ∧ i = .int .i64 k ∧ n = .int .i64 N ∧ 0 ≤ N ∧ N ≤ 9999 ∧ Hid (Rd s.data.toList 0 k N)) (fun _ i => s.size - (intOf i).toNat)
  case atStart => exact ⟨0, 0, by omega, rfl, rfl, by omega, by omega, Rd.start _ (by omega)⟩
  case round =>
    obtain ⟨k, N, hk, rfl, rfl, hN0, hN1, HR⟩ := hrel
    by_cases hlt : k < s.size
    · have e := bAt_eq s k hlt
      have hb := bAt_bd s k
      have HC := Lib.hid (bAt_list s k)
      by_cases g : 48 ≤ bAt s k ∧ bAt s k ≤ 57
      · have HR' := Lib.hid (HR.out.step (by rw [sz_list]; exact hlt) HC.out g.1 g.2)
        have hN3 := (HR'.out.bd (j := 4) (by omega)).2
        have hN4 := (HR.out.bd (j := 3) (by omega)).2
        obtain ⟨g1, g2⟩ := g
        clear HC
        rw [← e] at g1 g2 hN3 HR' hb
        clear e
        go_wp2
        go_round
        case rel => exact ⟨k + 1, _, by omega, by go_num, by first | rfl | go_num, by omega, by omega, by first | exact HR' | (have := HR'.out; simpa using this)⟩
        case measure => simp [intOf]; omega
      · have HB := Lib.hid (dg_no (l := s.data.toList) (by have := Rd.bad (l := s.data.toList) (a := 0) (by rw [sz_list]; exact hlt) (by omega) HC.out g; simpa using this))
        rw [← e] at g hb
        clear HC e
        have g' : (s[k].toNat : Int) < 48 ∨ 57 < (s[k].toNat : Int) := by omega
        clear g
        rcases g' with g' | g'
        · go_wp2
          go_ret2
          exact ⟨ret_ib HB.out.2.symm HB.out.1.symm, rfl⟩
        · go_wp2
          go_ret2
          exact ⟨ret_ib HB.out.2.symm HB.out.1.symm, rfl⟩
    · obtain rfl : k = s.size := by omega
      have HD := Lib.hid (HR.out.done)
      have HB := Lib.hid (dg_yes (l := s.data.toList) (by have := HD.out.2; simpa using this))
      go_wp2
      go_ret2
      exact ⟨ret_ib (by rw [HB.out.2, HD.out.1, List.drop_zero]) HB.out.1.symm, rfl⟩
section
variable {P : Program}
/-- append of one element that has just been laid, onto what the call owns; of the blocks that were there only its own may turn. -/
theorem wpApp2 {wr : World} {ops : Array Oper} {rest : List Oper} {o : Oper} {a : Act} {Q : Exit → Act → World → Prop} (hgd : o.guard = none) (s x : Operand) (t : TypeId)
    (ho : o.op = .call { callee := .builtin .append, args := #[s, x], argTypes := #[t, t] })
    (B : Nat) (e : TypeId) (i : TypeInfo) (z : Value) (bytes : Nat) (ht : P.underlying t = some (.slice e)) (hi : P.info? e = some i) (hz : i.zero = some z)
    (hsize : i.size = 1) (hby : i.bytes = bytes) (hzs : z.cells.size = 1)
    (v : Value) (n : Nat) (xs : List Value) (hs : a.eval s = v) (hown : wr.ownsRow B e 1 v n xs) (u : Value) (hu : u.oneCell' = true)
    (hx : a.eval x = .slice (some ⟨wr.heap.size, 0, none⟩) 1 1) (hb : (n + 1) * bytes ≤ 140737488355328) (h63 : n + 1 ≤ maxLen) (hB : B ≤ wr.heap.size)
    (h : ∀ v' w', w'.ownsRow B e 1 v' (n + 1) (xs ++ [u]) → Below B wr w' → wr.heap.size < w'.heap.size → (∀ k, k < wr.heap.size → v.ownBlock ≠ some k → w'.heap[k]? = wr.heap[k]?) → (v'.ownBlock = v.ownBlock ∨ v'.ownBlock = some (wr.heap.size + 1)) → wpList P ops Q rest (a.put o.dst v') w') :
    wpList P ops Q (o :: rest) a (wr.alloc (.cells #[u] e)) := by
  refine wpList_append_own_at (wr.alloc (.cells #[u] e)) hgd s x t ho B e i z 1 bytes ht hi hz hsize hby hzs (by decide) v n xs hs (hown.alloc _) ⟨wr.heap.size, 0, none⟩ 1 1 [u] hx rfl ?_ ?_ h63 hb (by simp; omega) ?_
  · intro j u' hu'
    exact World.news_of_block (heap_alloc_new wr (.cells #[u] e)) j u' (by simpa using hu')
  · intro u' hu'
    simp only [List.mem_singleton] at hu'
    subst hu'
    exact hu
  · intro v' w' h1 h2 _ h4
    refine h v' w' h1 ?_ (by have := h2.size; simp at this; omega) ?_ (by simpa using h4)
    · exact (((Below.refl B wr).alloc hB _).grown h2 (by simp; omega) (fun k hk => (hown.lt k hk).1))
    · intro k hk hne
      rw [h2.block k (by simp; omega) (fun e => hne (by first | exact e | exact e.symm))]
      exact Below.heap_alloc wr _ k hk
end
theorem res2 {w wr : World} {T : TypeId} (h : Below (w.heap.size + 1) (w.alloc (.cells #[.int .i64 0, .int .i64 0] T)) wr) : wr.cell? ⟨w.heap.size, 0, none⟩ = some (.int .i64 0) ∧ wr.cell? ⟨w.heap.size, 1, none⟩ = some (.int .i64 0) ∧ wr.frozen? ⟨w.heap.size, 0, none⟩ = false ∧ wr.frozen? ⟨w.heap.size, 1, none⟩ = false ∧ Below w.heap.size w wr := by
  obtain ⟨hc, hf⟩ := bcell h
  refine ⟨?_, ?_, ?_, ?_, ((Below.refl _ _).alloc (Nat.le_refl _) _).trans (h.mono (by omega))⟩
  · rw [hc _ _ (by omega), World.cell?_alloc_new]; rfl
  · rw [hc _ _ (by omega), World.cell?_alloc_new]; rfl
  · rw [hf _ _ (by omega)]; exact World.frozen?_alloc_at _ _ _ _ rfl
  · rw [hf _ _ (by omega)]; exact World.frozen?_alloc_at _ _ _ _ rfl
/-- A field as the programs cut it out. -/
def pB (s : ByteArray) (k : Nat) : ByteArray := s.extract (pS k) (pS k + pW k)
/-- The first k fields are digits and their numbers are zs. -/
def Dgs (l : List UInt8) (k : Nat) (zs : List Int) : Prop := zs = (List.range k).map (fun j => ((fn l j : Nat) : Int)) ∧ ∀ j, j < k → ∀ c ∈ fp l j, isDg c
theorem Dgs.start (l : List UInt8) : Dgs l 0 [] := ⟨rfl, fun j hj => by omega⟩
theorem Dgs.step {l : List UInt8} {k : Nat} {zs : List Int} (h : Dgs l k zs) (hd : ∀ c ∈ fp l k, isDg c) : Dgs l (k + 1) (zs ++ [((fn l k : Nat) : Int)]) := by
  refine ⟨by rw [h.1, List.range_succ, List.map_append]; rfl, fun j hj => ?_⟩
  by_cases e : j = k
  · subst e; exact hd
  · exact h.2 j (by omega)
theorem Dgs.get {l : List UInt8} {k j : Nat} {zs : List Int} (h : Dgs l k zs) (hj : j < k) : zs.getD j 0 = ((fn l j : Nat) : Int) := by rw [h.1]; simp [List.getD, hj]
theorem rm_dig {l : List UInt8} {k : Nat} (hk : k < 7) (h : dgB (fp l k) = false) : rmB l = false ∧ rmP l = (0, 0) :=
  rm_no (fun ⟨x, hx⟩ => by
    have := (dg_yes ((mom_inv hx).2.1 k hk)).1
    rw [h] at this
    cases this)
theorem mom_val {l : List UInt8} {d m : Int} (h : IsMom l d m) : finB (fn l 0 : Nat) (fn l 1 : Nat) (fn l 2 : Nat) = true ∧ d = finA (fn l 0 : Nat) (fn l 1 : Nat) (fn l 2 : Nat) ∧ m = milOf l := by
  obtain ⟨-, -, a, -, -, -, b⟩ := mom_inv h
  have := fin_mk a (okM_t h.1).1
  exact ⟨this.1, this.2.symm, b⟩
theorem dig_parse {l : List UInt8} {k u : Nat} (h : Lib.parseUintB 32 (fp l k) = .ok u) : (∀ c ∈ fp l k, isDg c) ∧ fn l k = u := by
  obtain ⟨-, a, b⟩ := parseUB_digits h
  exact ⟨a, b⟩
theorem rm_parse {l : List UInt8} {k : Nat} (hk : k < 7) (h : ∀ u, Lib.parseUintB 32 (fp l k) ≠ .ok u) : rmB l = false ∧ rmP l = (0, 0) :=
  rm_no (fun ⟨x, hx⟩ => h _ (hx.parse hk))
theorem seps_no {s : ByteArray} {k : Nat} {c : UInt8} (hc : ∀ l : List UInt8, Seps l → l.getD k 0 = c) (h : ¬ bAt s k = (c.toNat : Int)) : rmB s.data.toList = false ∧ rmP s.data.toList = (0, 0) :=
  rm_no (fun ⟨x, hx⟩ => h (by rw [bAt_list, hc _ (mom_inv hx).1]))
theorem byte_eq {s : ByteArray} {k : Nat} {c : UInt8} (h : bAt s k = (c.toNat : Int)) : s.data.toList.getD k 0 = c := by
  rw [bAt_list] at h
  exact UInt8.toNat_inj.1 (by omega)
theorem ret_m {p : Int × Int} {b : Bool} {x y : Int} {c : Bool} (h : p = (x, y)) (g : b = c) : Ending.returned (.tuple #[.agg #[.int .i64 x, .int .i64 y], .bool c]) = .returned (.tuple #[.agg #[.int .i64 p.1, .int .i64 p.2], .bool b]) := by rw [h, g]
set_option maxRecDepth 100000 in
set_option maxHeartbeats 4000000 in
theorem sReadMom (s : ByteArray) (w : World) (hs : s.size ≤ 1048576) :
    Calls Tryd.prog 80 #[.string s] w fun e w' => e = .returned (.tuple #[.agg #[.int .i64 (rmP s.data.toList).1, .int .i64 (rmP s.data.toList).2], .bool (rmB s.data.toList)]) ∧ Below w.heap.size w w' := by
  by_cases h0 : s.size = 23
  · skip
    have e4 := bAt_eq s 4 (by omega)
    by_cases c4 : bAt s 4 = ((45 : UInt8).toNat : Int)
    · replace e4 : (s[4].toNat : Int) = 45 := by rw [e4, c4]; rfl
      have C4 := Lib.hid (byte_eq c4)
      clear c4
      have e7 := bAt_eq s 7 (by omega)
      by_cases c7 : bAt s 7 = ((45 : UInt8).toNat : Int)
      · replace e7 : (s[7].toNat : Int) = 45 := by rw [e7, c7]; rfl
        have C7 := Lib.hid (byte_eq c7)
        clear c7
        have e10 := bAt_eq s 10 (by omega)
        by_cases c10 : bAt s 10 = ((32 : UInt8).toNat : Int)
        · replace e10 : (s[10].toNat : Int) = 32 := by rw [e10, c10]; rfl
          have C10 := Lib.hid (byte_eq c10)
          clear c10
          have e13 := bAt_eq s 13 (by omega)
          by_cases c13 : bAt s 13 = ((58 : UInt8).toNat : Int)
          · replace e13 : (s[13].toNat : Int) = 58 := by rw [e13, c13]; rfl
            have C13 := Lib.hid (byte_eq c13)
            clear c13
            have e16 := bAt_eq s 16 (by omega)
            by_cases c16 : bAt s 16 = ((58 : UInt8).toNat : Int)
            · replace e16 : (s[16].toNat : Int) = 58 := by rw [e16, c16]; rfl
              have C16 := Lib.hid (byte_eq c16)
              clear c16
              have e19 := bAt_eq s 19 (by omega)
              by_cases c19 : bAt s 19 = ((46 : UInt8).toNat : Int)
              · replace e19 : (s[19].toNat : Int) = 46 := by rw [e19, c19]; rfl
                have C19 := Lib.hid (byte_eq c19)
                clear c19
                have HS : Hid (Seps s.data.toList) := ⟨by rw [sz_list]; exact h0, C4.out, C7.out, C10.out, C13.out, C16.out, C19.out⟩
                clear C4 C7 C10 C13 C16 C19
                have H23 := Lib.hid h0
                obtain ⟨i0', hi, hz0, hz1, hz2⟩ := info_parts infoInt64
                go_enter Tryd.func80, Tryd.ntmps80
                go_wp2
                go_region_held3 (fun _ => True) (simp [*]) (fail)
                go_wp2
                have nn0 := Lib.hid (OwnL.made (w.alloc (.cells #[.int .i64 0, .int .i64 0] 32)) (w.heap.size + 1) (by simp))
                have HP : Hid (∀ k, k < 7 → (pB s k).data.toList = fp s.data.toList k ∧ (pB s k).size ≤ 4) := fun k hk => ⟨by unfold pB; exact sub_list s, by
                  have := fp_len (l := s.data.toList) (by rw [sz_list]; exact H23.out) hk
                  have hw := pW_bd hk
                  have e : (pB s k).data.toList.length = pW k := by unfold pB; rw [sub_list s]; exact this
                  rw [sz_list] at e
                  omega⟩
                have p0 : s.extract 0 4 = pB s 0 := rfl
                have p1 : s.extract 5 7 = pB s 1 := rfl
                have p2 : s.extract 8 10 = pB s 2 := rfl
                have p3 : s.extract 11 13 = pB s 3 := rfl
                have p4 : s.extract 14 16 = pB s 4 := rfl
                have p5 : s.extract 17 19 = pB s 5 := rfl
                have p6 : s.extract 20 23 = pB s 6 := rfl
                rw [p0, p1, p2, p3, p4, p5, p6]
                clear p0 p1 p2 p3 p4 p5 p6 e4 e7 e10 e13 e16 e19
                go_loopw [4, 6] (fun v i wr => ∃ (k : Nat) (zs : List Int), k ≤ 7 ∧ i = .int .i64 k ∧ zs.length = k ∧ Hid (Dgs s.data.toList k zs) ∧ Hid (Below (w.heap.size + 1) (w.alloc (.cells #[.int .i64 0, .int .i64 0] 32)) wr) ∧ w.heap.size + 2 < wr.heap.size ∧ (∀ j, j < 7 → wr.cell? ⟨w.heap.size + 2, j, none⟩ = some (.string (pB s j))) ∧ v.ownBlock ≠ some (w.heap.size + 2) ∧ Hid (OwnL wr (w.heap.size + 1) v zs)) (fun _ i _ => 7 - (intOf i).toNat)
                case atStart =>
                  refine ⟨0, [], by omega, rfl, rfl, Dgs.start _, (((Below.refl _ _).alloc (by simp) _).alloc (by simp) _).drew, by simp, ?_, by simp [Value.ownBlock], ?_⟩
                  · intro j hj
                    have e : ((w.alloc (.cells #[.int .i64 0, .int .i64 0] 32)).alloc (.cells #[] 2)).heap.size = w.heap.size + 2 := by simp
                    rw [World.cell?_drew, ← e, World.cell?_alloc_new]
                    match j, hj with
                    | 0, _ => rfl
                    | 1, _ => rfl
                    | 2, _ => rfl
                    | 3, _ => rfl
                    | 4, _ => rfl
                    | 5, _ => rfl
                    | 6, _ => rfl
                  · have h := nn0.out
                    have e : (w.alloc (.cells #[.int .i64 0, .int .i64 0] 32)).heap.size = w.heap.size + 1 := by simp
                    rw [e] at h
                    exact ownsRow_below h (((Below.refl _ _).alloc (Nat.le_refl _) _).drew)
                case round =>
                  obtain ⟨k, zs, hk, rfl, hz, HG, hbr1, hsz, hcell, hown0, HO⟩ := hrel
                  obtain ⟨hm0, hm1, hf0, hf1, hbr⟩ := res2 hbr1.out
                  by_cases hlt : k < 7
                  · have hp := hcell k hlt
                    obtain ⟨hpl, hps⟩ := HP.out k hlt
                    have HPL := Lib.hid hpl
                    have HC := Lib.hid hcell
                    clear hpl hcell
                    generalize pB s k = p at *
                    have i0 : (0 : Int) ≤ k := by omega
                    have i1 : (k : Int) < 7 := by omega
                    have i2 : (k : Int).toNat = k := by omega
                    cases hd : dgB p.data.toList
                    · have HB := Lib.hid (rm_dig hlt (by rw [← HPL.out]; exact hd))
                      go_wp2_with fail
                      (with_reducible refine (sDigits _ _ hps).mono ?_)
                      rintro e w' ⟨rfl, rfl⟩
                      go_wp2
                      exact bodyPost_ret (v := .tuple #[.agg #[.int .i64 0, .int .i64 0], .bool false]) (by simp [results, Tryd.results80, go_sem, *]) rfl ⟨ret_m HB.out.2 HB.out.1, by (repeat (first | exact Below.refl _ _ | assumption | (refine Below.drewN ?_ _) | (refine Below.drew ?_) | (refine Below.alloc ?_ (by first | (simp; done) | (simp; omega) | omega) _) | (refine Below.setCell ?_ (by first | (simp; done) | (simp; omega) | omega) _) | (refine Below.trans ?_ (Below.mono (by assumption) (by first | (simp; done) | (simp; omega) | omega)))))⟩
                    · have HD := Lib.hid (dgB_t hd)
                      have HV := Lib.hid ((dg_yes HD.out).2)
                      have HG' := Lib.hid (HG.out.step (by rw [← HPL.out]; exact HD.out))
                      have HE : Hid (((fn s.data.toList k : Nat) : Int) = dgV p.data.toList) := by show _ = _; rw [HV.out]; unfold fn; rw [← HPL.out]
                      rw [HE.out] at HG'
                      go_wp2_with fail
                      (with_reducible refine (sDigits _ _ hps).mono ?_)
                      rintro e w' ⟨rfl, rfl⟩
                      go_wp2_with (at_builtin; refine wpApp2 rfl (.tmp 78) (.tmp 80) _ rfl (w.heap.size + 1) 2 i0' _ 8 Tryd.underlying41 hi hz0 hz1 hz2 rfl _ _ _ (by rfl) HO.out (.int .i64 (dgV p.data.toList)) rfl (by rfl) (by omega) (by unfold maxLen; omega) (by omega) ?_; intro v' w3 hown' hbel hgt hkeep hblk)
                      go_roundw
                      case rel =>
                        refine ⟨k + 1, zs ++ [dgV p.data.toList], by omega, by go_num, by simp; omega, HG', hbr1.out.trans hbel, by omega, fun j hj => (World.cell?_of_block (w := wr) (hkeep _ (by omega) hown0)).trans (HC.out j hj), ?_, OwnL.snoc hown'⟩
                        rcases hblk with e | e
                        · rw [e]; exact hown0
                        · rw [e]; simp; omega
                      case measure => simp [intOf]; omega
                  · obtain rfl : k = 7 := by omega
                    obtain ⟨a, cp, rfl, hro⟩ := HO.out.row
                    rw [hz] at hro ⊢
                    obtain ⟨-, h7 | ⟨g, rfl, hg1, hg2, HOI⟩⟩ := hro
                    · omega
                    have HD : Hid (Digs s.data.toList) := HG.out.2
                    have hget : ∀ j, j < 7 → zs.getD j 0 = ((fn s.data.toList j : Nat) : Int) := fun j hj => HG.out.get hj
                    have hbd : ∀ j, j < 7 → fn s.data.toList j < 10 ^ pW j := fun j hj => fn_bd HS.out.1 HD.out hj
                    have q0 := hbd 0 (by omega)
                    have q1 := hbd 1 (by omega)
                    have q2 := hbd 2 (by omega)
                    have q3 := hbd 3 (by omega)
                    have q4 := hbd 4 (by omega)
                    have q5 := hbd 5 (by omega)
                    have q6 := hbd 6 (by omega)
                    simp only [show pW 0 = 4 from rfl, show pW 1 = 2 from rfl, show pW 2 = 2 from rfl, show pW 3 = 2 from rfl, show pW 4 = 2 from rfl, show pW 5 = 2 from rfl, show pW 6 = 3 from rfl] at q0 q1 q2 q3 q4 q5 q6
                    have c0 : wr.cell? ⟨g, 0, none⟩ = some (.int .i64 (fn s.data.toList 0 : Nat)) := ((HOI 0 (by omega)).1).trans (by show some (Value.int .i64 (zs.getD 0 0)) = _; rw [hget 0 (by omega)])
                    have c1 : wr.cell? ⟨g, 1, none⟩ = some (.int .i64 (fn s.data.toList 1 : Nat)) := ((HOI 1 (by omega)).1).trans (by show some (Value.int .i64 (zs.getD 1 0)) = _; rw [hget 1 (by omega)])
                    have c2 : wr.cell? ⟨g, 2, none⟩ = some (.int .i64 (fn s.data.toList 2 : Nat)) := ((HOI 2 (by omega)).1).trans (by show some (Value.int .i64 (zs.getD 2 0)) = _; rw [hget 2 (by omega)])
                    have c3 : wr.cell? ⟨g, 3, none⟩ = some (.int .i64 (fn s.data.toList 3 : Nat)) := ((HOI 3 (by omega)).1).trans (by show some (Value.int .i64 (zs.getD 3 0)) = _; rw [hget 3 (by omega)])
                    have c4 : wr.cell? ⟨g, 4, none⟩ = some (.int .i64 (fn s.data.toList 4 : Nat)) := ((HOI 4 (by omega)).1).trans (by show some (Value.int .i64 (zs.getD 4 0)) = _; rw [hget 4 (by omega)])
                    have c5 : wr.cell? ⟨g, 5, none⟩ = some (.int .i64 (fn s.data.toList 5 : Nat)) := ((HOI 5 (by omega)).1).trans (by show some (Value.int .i64 (zs.getD 5 0)) = _; rw [hget 5 (by omega)])
                    have c6 : wr.cell? ⟨g, 6, none⟩ = some (.int .i64 (fn s.data.toList 6 : Nat)) := ((HOI 6 (by omega)).1).trans (by show some (Value.int .i64 (zs.getD 6 0)) = _; rw [hget 6 (by omega)])
                    clear HOI hbd
                    clear hget
                    have HI : Hid (∀ D M, IsMom s.data.toList D M → finB (fn s.data.toList 0 : Nat) (fn s.data.toList 1 : Nat) (fn s.data.toList 2 : Nat) = true ∧ fn s.data.toList 3 ≤ 23 ∧ fn s.data.toList 4 ≤ 59 ∧ fn s.data.toList 5 ≤ 59) := fun D M h => by
                      obtain ⟨-, -, a, b, c, d, -⟩ := mom_inv h
                      exact ⟨(fin_mk a (okM_t h.1).1).1, b, c, d⟩
                    have HM : Hid (finB (fn s.data.toList 0 : Nat) (fn s.data.toList 1 : Nat) (fn s.data.toList 2 : Nat) = true → fn s.data.toList 3 ≤ 23 → fn s.data.toList 4 ≤ 59 → fn s.data.toList 5 ≤ 59 → rmB s.data.toList = true ∧ rmP s.data.toList = (finA (fn s.data.toList 0 : Nat) (fn s.data.toList 1 : Nat) (fn s.data.toList 2 : Nat), ((((fn s.data.toList 3 : Nat) : Int) * 60 + (fn s.data.toList 4 : Nat)) * 60 + (fn s.data.toList 5 : Nat)) * 1000 + (fn s.data.toList 6 : Nat))) := fun a b c d => rm_yes (mom_of HS.out HD.out (fin_t a).1 (fin_t a).2 b c d)
                    obtain ⟨n0, e0⟩ : ∃ n : Int, ((fn s.data.toList 0 : Nat) : Int) = n := ⟨_, rfl⟩
                    obtain ⟨n1, e1⟩ : ∃ n : Int, ((fn s.data.toList 1 : Nat) : Int) = n := ⟨_, rfl⟩
                    obtain ⟨n2, e2⟩ : ∃ n : Int, ((fn s.data.toList 2 : Nat) : Int) = n := ⟨_, rfl⟩
                    obtain ⟨n3, e3⟩ : ∃ n : Int, ((fn s.data.toList 3 : Nat) : Int) = n := ⟨_, rfl⟩
                    obtain ⟨n4, e4⟩ : ∃ n : Int, ((fn s.data.toList 4 : Nat) : Int) = n := ⟨_, rfl⟩
                    obtain ⟨n5, e5⟩ : ∃ n : Int, ((fn s.data.toList 5 : Nat) : Int) = n := ⟨_, rfl⟩
                    obtain ⟨n6, e6⟩ : ∃ n : Int, ((fn s.data.toList 6 : Nat) : Int) = n := ⟨_, rfl⟩
                    have r0 : 0 ≤ n0 ∧ n0 ≤ 9999 := by omega
                    have r1 : 0 ≤ n1 ∧ n1 ≤ 99 := by omega
                    have r2 : 0 ≤ n2 ∧ n2 ≤ 99 := by omega
                    have r3 : 0 ≤ n3 ∧ n3 ≤ 99 := by omega
                    have r4 : 0 ≤ n4 ∧ n4 ≤ 99 := by omega
                    have r5 : 0 ≤ n5 ∧ n5 ≤ 99 := by omega
                    have r6 : 0 ≤ n6 ∧ n6 ≤ 999 := by omega
                    rw [e0] at c0
                    rw [e1] at c1
                    rw [e2] at c2
                    rw [e3] at c3
                    rw [e4] at c4
                    rw [e5] at c5
                    rw [e6] at c6
                    have HI' : Hid (∀ D M, IsMom s.data.toList D M → finB n0 n1 n2 = true ∧ n3 ≤ 23 ∧ n4 ≤ 59 ∧ n5 ≤ 59) := fun D M h => by
                      have := HI.out D M h
                      rw [e0, e1, e2] at this
                      exact ⟨this.1, by omega, by omega, by omega⟩
                    have HM' : Hid (finB n0 n1 n2 = true → n3 ≤ 23 → n4 ≤ 59 → n5 ≤ 59 → rmB s.data.toList = true ∧ rmP s.data.toList = (finA n0 n1 n2, ((n3 * 60 + n4) * 60 + n5) * 1000 + n6)) := fun a b c d => by
                      have := HM.out
                      rw [e0, e1, e2, e3, e4, e5, e6] at this
                      exact this a (by omega) (by omega) (by omega)
                    clear HI HM e0 e1 e2 e3 e4 e5 e6 q0 q1 q2 q3 q4 q5 q6 HG hz
                    have HC := Lib.hid hcell
                    clear hcell
                    have hgw : ¬ g = w.heap.size := by omega
                    have hgw' : ¬ w.heap.size = g := by omega
                    go_wp2_with fail
                    go_quiet ((first | (go_at_call 103; exact quiet_same (sFind _ _ _ _))))
                    cases hfb : finB n0 n1 n2
                    · have HB := Lib.hid (rm_no (l := s.data.toList) (fun ⟨x, hx⟩ => by have := (HI'.out _ _ hx).1; rw [hfb] at this; cases this))
                      clear HI' HM'
                      generalize finA n0 n1 n2 = A at *
                      go_wp2
                      exact bodyPost_ret (v := .tuple #[.agg #[.int .i64 0, .int .i64 0], .bool false]) (by simp [results, Tryd.results80, go_sem, *]) rfl ⟨ret_m HB.out.2 HB.out.1, by (repeat (first | exact Below.refl _ _ | assumption | (refine Below.drewN ?_ _) | (refine Below.drew ?_) | (refine Below.alloc ?_ (by first | (simp; done) | (simp; omega) | omega) _) | (refine Below.setCell ?_ (by first | (simp; done) | (simp; omega) | omega) _) | (refine Below.trans ?_ (Below.mono (by assumption) (by first | (simp; done) | (simp; omega) | omega)))))⟩
                    by_cases h3 : 23 < n3
                    · have HB := Lib.hid (rm_no (l := s.data.toList) (fun ⟨x, hx⟩ => by have := (HI'.out _ _ hx).2.1; omega))
                      clear HI' HM'
                      generalize finA n0 n1 n2 = A at *
                      go_wp2
                      exact bodyPost_ret (v := .tuple #[.agg #[.int .i64 0, .int .i64 0], .bool false]) (by simp [results, Tryd.results80, go_sem, *]) rfl ⟨ret_m HB.out.2 HB.out.1, by (repeat (first | exact Below.refl _ _ | assumption | (refine Below.drewN ?_ _) | (refine Below.drew ?_) | (refine Below.alloc ?_ (by first | (simp; done) | (simp; omega) | omega) _) | (refine Below.setCell ?_ (by first | (simp; done) | (simp; omega) | omega) _) | (refine Below.trans ?_ (Below.mono (by assumption) (by first | (simp; done) | (simp; omega) | omega)))))⟩
                    by_cases h4 : 59 < n4
                    · have HB := Lib.hid (rm_no (l := s.data.toList) (fun ⟨x, hx⟩ => by have := (HI'.out _ _ hx).2.2.1; omega))
                      clear HI' HM'
                      generalize finA n0 n1 n2 = A at *
                      go_wp2
                      exact bodyPost_ret (v := .tuple #[.agg #[.int .i64 0, .int .i64 0], .bool false]) (by simp [results, Tryd.results80, go_sem, *]) rfl ⟨ret_m HB.out.2 HB.out.1, by (repeat (first | exact Below.refl _ _ | assumption | (refine Below.drewN ?_ _) | (refine Below.drew ?_) | (refine Below.alloc ?_ (by first | (simp; done) | (simp; omega) | omega) _) | (refine Below.setCell ?_ (by first | (simp; done) | (simp; omega) | omega) _) | (refine Below.trans ?_ (Below.mono (by assumption) (by first | (simp; done) | (simp; omega) | omega)))))⟩
                    by_cases h5 : 59 < n5
                    · have HB := Lib.hid (rm_no (l := s.data.toList) (fun ⟨x, hx⟩ => by have := (HI'.out _ _ hx).2.2.2; omega))
                      clear HI' HM'
                      generalize finA n0 n1 n2 = A at *
                      go_wp2
                      exact bodyPost_ret (v := .tuple #[.agg #[.int .i64 0, .int .i64 0], .bool false]) (by simp [results, Tryd.results80, go_sem, *]) rfl ⟨ret_m HB.out.2 HB.out.1, by (repeat (first | exact Below.refl _ _ | assumption | (refine Below.drewN ?_ _) | (refine Below.drew ?_) | (refine Below.alloc ?_ (by first | (simp; done) | (simp; omega) | omega) _) | (refine Below.setCell ?_ (by first | (simp; done) | (simp; omega) | omega) _) | (refine Below.trans ?_ (Below.mono (by assumption) (by first | (simp; done) | (simp; omega) | omega)))))⟩
                    have HB := Lib.hid (HM'.out hfb (by omega) (by omega) (by omega))
                    clear HI' HM'
                    generalize finA n0 n1 n2 = A at *
                    have y1 : IntKind.i64.wrap (n3 * 60) = n3 * 60 := IntWalk.i64_in _ (by omega)
                    have y2 : IntKind.i64.wrap (n3 * 60 + n4) = n3 * 60 + n4 := IntWalk.i64_in _ (by omega)
                    have y3 : IntKind.i64.wrap ((n3 * 60 + n4) * 60) = (n3 * 60 + n4) * 60 := IntWalk.i64_in _ (by omega)
                    have y4 : IntKind.i64.wrap ((n3 * 60 + n4) * 60 + n5) = (n3 * 60 + n4) * 60 + n5 := IntWalk.i64_in _ (by omega)
                    have y5 : IntKind.i64.wrap (((n3 * 60 + n4) * 60 + n5) * 1000) = ((n3 * 60 + n4) * 60 + n5) * 1000 := IntWalk.i64_in _ (by omega)
                    have y6 : IntKind.i64.wrap (((n3 * 60 + n4) * 60 + n5) * 1000 + n6) = ((n3 * 60 + n4) * 60 + n5) * 1000 + n6 := IntWalk.i64_in _ (by omega)
                    go_wp2
                    go_region_held3 (fun w' => w'.cell? ⟨g, 3, none⟩ = some (.int .i64 n3) ∧ w'.cell? ⟨g, 4, none⟩ = some (.int .i64 n4) ∧ w'.cell? ⟨g, 5, none⟩ = some (.int .i64 n5) ∧ w'.cell? ⟨g, 6, none⟩ = some (.int .i64 n6)) (simp [*, World.cell?_alloc_some, World.cell?_setCell_far, World.cell?_alloc_past]) (fail)
                    go_wp2
                    exact bodyPost_ret (v := .tuple #[.agg #[.int .i64 A, .int .i64 (((n3 * 60 + n4) * 60 + n5) * 1000 + n6)], .bool true]) (by simp [results, Tryd.results80, go_sem, *]) rfl ⟨ret_m HB.out.2 HB.out.1, by (repeat (first | exact Below.refl _ _ | assumption | (refine Below.drewN ?_ _) | (refine Below.drew ?_) | (refine Below.alloc ?_ (by first | (simp; done) | (simp; omega) | omega) _) | (refine Below.setCell ?_ (by first | (simp; done) | (simp; omega) | omega) _) | (refine Below.trans ?_ (Below.mono (by assumption) (by first | (simp; done) | (simp; omega) | omega)))))⟩
              · have HB := Lib.hid (seps_no (s := s) (fun l h => h.2.2.2.2.2.2) c19)
                replace e19 : ((s[19].toNat : Int) == 46) = false := beq_false_of_ne (by rw [e19]; exact c19)
                have ne19 : ((s[19].toNat : Int) != 46) = true := by simp only [bne, e19]; rfl
                clear c19
                go_enter Tryd.func80, Tryd.ntmps80
                go_wp2
                exact bodyPost_ret (v := .tuple #[.agg #[.int .i64 0, .int .i64 0], .bool false]) (by simp [results, Tryd.results80, go_sem, *]) rfl ⟨ret_m HB.out.2 HB.out.1, by (repeat (first | exact Below.refl _ _ | assumption | (refine Below.drewN ?_ _) | (refine Below.drew ?_) | (refine Below.alloc ?_ (by first | (simp; done) | (simp; omega) | omega) _) | (refine Below.setCell ?_ (by first | (simp; done) | (simp; omega) | omega) _) | (refine Below.trans ?_ (Below.mono (by assumption) (by first | (simp; done) | (simp; omega) | omega)))))⟩
            · have HB := Lib.hid (seps_no (s := s) (fun l h => h.2.2.2.2.2.1) c16)
              replace e16 : ((s[16].toNat : Int) == 58) = false := beq_false_of_ne (by rw [e16]; exact c16)
              have ne16 : ((s[16].toNat : Int) != 58) = true := by simp only [bne, e16]; rfl
              clear c16
              go_enter Tryd.func80, Tryd.ntmps80
              go_wp2
              exact bodyPost_ret (v := .tuple #[.agg #[.int .i64 0, .int .i64 0], .bool false]) (by simp [results, Tryd.results80, go_sem, *]) rfl ⟨ret_m HB.out.2 HB.out.1, by (repeat (first | exact Below.refl _ _ | assumption | (refine Below.drewN ?_ _) | (refine Below.drew ?_) | (refine Below.alloc ?_ (by first | (simp; done) | (simp; omega) | omega) _) | (refine Below.setCell ?_ (by first | (simp; done) | (simp; omega) | omega) _) | (refine Below.trans ?_ (Below.mono (by assumption) (by first | (simp; done) | (simp; omega) | omega)))))⟩
          · have HB := Lib.hid (seps_no (s := s) (fun l h => h.2.2.2.2.1) c13)
            replace e13 : ((s[13].toNat : Int) == 58) = false := beq_false_of_ne (by rw [e13]; exact c13)
            have ne13 : ((s[13].toNat : Int) != 58) = true := by simp only [bne, e13]; rfl
            clear c13
            go_enter Tryd.func80, Tryd.ntmps80
            go_wp2
            exact bodyPost_ret (v := .tuple #[.agg #[.int .i64 0, .int .i64 0], .bool false]) (by simp [results, Tryd.results80, go_sem, *]) rfl ⟨ret_m HB.out.2 HB.out.1, by (repeat (first | exact Below.refl _ _ | assumption | (refine Below.drewN ?_ _) | (refine Below.drew ?_) | (refine Below.alloc ?_ (by first | (simp; done) | (simp; omega) | omega) _) | (refine Below.setCell ?_ (by first | (simp; done) | (simp; omega) | omega) _) | (refine Below.trans ?_ (Below.mono (by assumption) (by first | (simp; done) | (simp; omega) | omega)))))⟩
        · have HB := Lib.hid (seps_no (s := s) (fun l h => h.2.2.2.1) c10)
          replace e10 : ((s[10].toNat : Int) == 32) = false := beq_false_of_ne (by rw [e10]; exact c10)
          have ne10 : ((s[10].toNat : Int) != 32) = true := by simp only [bne, e10]; rfl
          clear c10
          go_enter Tryd.func80, Tryd.ntmps80
          go_wp2
          exact bodyPost_ret (v := .tuple #[.agg #[.int .i64 0, .int .i64 0], .bool false]) (by simp [results, Tryd.results80, go_sem, *]) rfl ⟨ret_m HB.out.2 HB.out.1, by (repeat (first | exact Below.refl _ _ | assumption | (refine Below.drewN ?_ _) | (refine Below.drew ?_) | (refine Below.alloc ?_ (by first | (simp; done) | (simp; omega) | omega) _) | (refine Below.setCell ?_ (by first | (simp; done) | (simp; omega) | omega) _) | (refine Below.trans ?_ (Below.mono (by assumption) (by first | (simp; done) | (simp; omega) | omega)))))⟩
      · have HB := Lib.hid (seps_no (s := s) (fun l h => h.2.2.1) c7)
        replace e7 : ((s[7].toNat : Int) == 45) = false := beq_false_of_ne (by rw [e7]; exact c7)
        have ne7 : ((s[7].toNat : Int) != 45) = true := by simp only [bne, e7]; rfl
        clear c7
        go_enter Tryd.func80, Tryd.ntmps80
        go_wp2
        exact bodyPost_ret (v := .tuple #[.agg #[.int .i64 0, .int .i64 0], .bool false]) (by simp [results, Tryd.results80, go_sem, *]) rfl ⟨ret_m HB.out.2 HB.out.1, by (repeat (first | exact Below.refl _ _ | assumption | (refine Below.drewN ?_ _) | (refine Below.drew ?_) | (refine Below.alloc ?_ (by first | (simp; done) | (simp; omega) | omega) _) | (refine Below.setCell ?_ (by first | (simp; done) | (simp; omega) | omega) _) | (refine Below.trans ?_ (Below.mono (by assumption) (by first | (simp; done) | (simp; omega) | omega)))))⟩
    · have HB := Lib.hid (seps_no (s := s) (fun l h => h.2.1) c4)
      replace e4 : ((s[4].toNat : Int) == 45) = false := beq_false_of_ne (by rw [e4]; exact c4)
      have ne4 : ((s[4].toNat : Int) != 45) = true := by simp only [bne, e4]; rfl
      clear c4
      go_enter Tryd.func80, Tryd.ntmps80
      go_wp2
      exact bodyPost_ret (v := .tuple #[.agg #[.int .i64 0, .int .i64 0], .bool false]) (by simp [results, Tryd.results80, go_sem, *]) rfl ⟨ret_m HB.out.2 HB.out.1, by (repeat (first | exact Below.refl _ _ | assumption | (refine Below.drewN ?_ _) | (refine Below.drew ?_) | (refine Below.alloc ?_ (by first | (simp; done) | (simp; omega) | omega) _) | (refine Below.setCell ?_ (by first | (simp; done) | (simp; omega) | omega) _) | (refine Below.trans ?_ (Below.mono (by assumption) (by first | (simp; done) | (simp; omega) | omega)))))⟩
  · have h0b : ((s.size : Int) == 23) = false := by simp; omega
    have HB := Lib.hid (rm_no (l := s.data.toList) (fun ⟨x, hx⟩ => h0 (by rw [← sz_list]; exact (mom_inv hx).1.1)))
    go_enter Tryd.func80, Tryd.ntmps80
    go_wp2
    exact bodyPost_ret (v := .tuple #[.agg #[.int .i64 0, .int .i64 0], .bool false]) (by simp [results, Tryd.results80, go_sem, *]) rfl ⟨ret_m HB.out.2 HB.out.1, by (repeat (first | exact Below.refl _ _ | assumption | (refine Below.drewN ?_ _) | (refine Below.drew ?_) | (refine Below.alloc ?_ (by first | (simp; done) | (simp; omega) | omega) _) | (refine Below.setCell ?_ (by first | (simp; done) | (simp; omega) | omega) _) | (refine Below.trans ?_ (Below.mono (by assumption) (by first | (simp; done) | (simp; omega) | omega)))))⟩
/-- Where the walk over the fields stands. -/
def pA (k : Nat) : Nat := [0, 5, 8, 11, 14, 17, 20, 24].getD k 0
/-- What the library's parse of an unsigned number ends in, where it does not take a text. -/
def UintFell (w : World) (e : Ending) (w' : World) : Prop := ∃ (v : Int) (t : TypeId) (N : Nat), e = .returned (.tuple #[.int .u64 v, .iface t (.pointer (some ⟨N, 0, none⟩))]) ∧ Below w.heap.size w w'
theorem shUintOk (s : ByteArray) (u : Nat) (w : World) (hs : s.size ≤ 1048576) (h : Lib.parseUintB 32 s.data.toList = .ok u) :
    Calls Tryd.prog 81 #[.string s, .int .i64 10, .int .i64 32] w fun e w' => e = .returned (.tuple #[.int .u64 u, .nilIface]) ∧ Below w.heap.size w w' :=
  (Tryd.strconv_ParseUint_10_at32_ok s (by omega) u h w).mono fun e w' ⟨he, hw⟩ => ⟨he, by
    rcases hw with rfl | rfl
    · exact Below.refl _ _
    · exact Lib.bytesWorld_below _ _ _⟩
theorem shUintNo (s : ByteArray) (w : World) (hs : s.size ≤ 1048576) (h : ∀ v, Lib.parseUintB 32 s.data.toList ≠ .ok v) (hE : ErrIn w) :
    Calls Tryd.prog 81 #[.string s, .int .i64 10, .int .i64 32] w (UintFell w) := by
  obtain ⟨⟨t1, p1, h1⟩, t2, p2, h2⟩ := hE
  rcases c : Lib.parseUintB 32 s.data.toList with v | _ | _
  · exact absurd c (h v)
  · exact (Tryd.strconv_ParseUint_10_at32_syntax_var s (by omega) c t1 p1 w h1).mono fun e w' ⟨N, he, _, _, hb⟩ => ⟨_, _, N, he, hb⟩
  · exact (Tryd.strconv_ParseUint_10_at32_range_var s (by omega) c t2 p2 w h2).mono fun e w' ⟨N, he, _, _, hb⟩ => ⟨_, _, N, he, hb⟩
theorem infoIntW : (Tryd.prog.info? 3).map (fun i => (i.zero, i.size, i.bytes)) = some (some (.int .i64 0), 1, 8) := by kernel_rfl
theorem idxW (k : Nat) (hk : k < 7) (w : World) : (Instr.index 84 (.agg #[.int .i64 4, .int .i64 2, .int .i64 2, .int .i64 2, .int .i64 2, .int .i64 2, .int .i64 3]) (.int .i64 (k : Int))).run Tryd.prog w = .ok (.int .i64 (pW k)) w := by
  have hu := Tryd.underlying84
  obtain ⟨i0, hi, -, -, -⟩ := info_parts infoIntW
  have hc : Tryd.prog.cellsOf 3 = 1 := by kernel_rfl
  have hx : (#[.int .i64 4, .int .i64 2, .int .i64 2, .int .i64 2, .int .i64 2, .int .i64 2, .int .i64 3] : Array Value)[k]? = some (.int .i64 (pW k)) := by
    match k, hk with
    | 0, _ => rfl
    | 1, _ => rfl
    | 2, _ => rfl
    | 3, _ => rfl
    | 4, _ => rfl
    | 5, _ => rfl
    | 6, _ => rfl
  have hx2 : ([.int .i64 4, .int .i64 2, .int .i64 2, .int .i64 2, .int .i64 2, .int .i64 2, .int .i64 3] : List Value)[k]? = some (.int .i64 (pW k)) := by simpa using hx
  have h7 : (k : Int) < 7 := by omega
  simp [Instr.index, asIntOf, run_underlying hu, hc, hk, h7, hx2, go_sem]
  exact (List.getElem?_eq_some_iff.1 hx2).2
set_option maxRecDepth 100000 in
set_option maxHeartbeats 4000000 in
theorem iReadMom (s : ByteArray) (w : World) (hs : s.size ≤ 1048576) (hT : TabIn w) (hE : ErrIn w) :
    Calls Tryd.prog 39 #[.string s] w fun e w' => e = .returned (.tuple #[.agg #[.int .i64 (rmP s.data.toList).1, .int .i64 (rmP s.data.toList).2], .bool (rmB s.data.toList)]) ∧ Below w.heap.size w w' := by
  have HT := Lib.hid hT
  have HE := Lib.hid hE
  clear hT hE
  by_cases h0 : s.size = 23
  · have H23 := Lib.hid h0
    have HP : Hid (∀ k, k < 7 → (pB s k).data.toList = fp s.data.toList k ∧ (pB s k).size ≤ 4) := fun k hk => ⟨by unfold pB; exact sub_list s, by
      have := fp_len (l := s.data.toList) (by rw [sz_list]; exact H23.out) hk
      have hw := pW_bd hk
      have e : (pB s k).data.toList.length = pW k := by unfold pB; rw [sub_list s]; exact this
      rw [sz_list] at e
      omega⟩
    have HBD : Hid (∀ k, k < 7 → (∀ c ∈ fp s.data.toList k, isDg c) → fn s.data.toList k < 10000) := fun k hk hd => by
      have h1 := dva_bd hd
      have h2 := fp_len (l := s.data.toList) (by rw [sz_list]; exact H23.out) hk
      have h3 := pW_bd hk
      rw [h2] at h1
      have h4 : 10 ^ pW k ≤ 10 ^ 4 := Nat.pow_le_pow_right (by omega) h3.2
      show dva 0 _ < _
      omega
    go_enter Tryd.func39, Tryd.ntmps39
    go_wp2
    go_loopw [5, 18] (fun v i wr => ∃ k : Nat, k ≤ 7 ∧ i = .int .i64 k ∧ v = .int .i64 (pA k) ∧ Hid (∀ j, j < k → ∀ c ∈ fp s.data.toList j, isDg c) ∧ Hid (Below (w.heap.size + 1) (w.alloc (.cells #[.int .i64 0, .int .i64 0] 32)) wr) ∧ w.heap.size + 1 < wr.heap.size ∧ Hid (OwnI wr (w.heap.size + 1) (fun j => if j < k then ((fn s.data.toList j : Nat) : Int) else 0) 7)) (fun _ i _ => 7 - (intOf i).toNat)
    case atStart =>
      refine ⟨0, by omega, rfl, rfl, fun j hj => by omega, (Below.refl _ _).alloc (by simp) _, by simp, ?_⟩
      have e : (w.alloc (.cells #[.int .i64 0, .int .i64 0] 32)).heap.size = w.heap.size + 1 := by simp
      rw [← e]
      intro j hj
      refine ⟨?_, World.frozen?_alloc_at _ _ _ _ rfl⟩
      rw [World.cell?_alloc_new]
      match j, hj with
      | 0, _ => rfl
      | 1, _ => rfl
      | 2, _ => rfl
      | 3, _ => rfl
      | 4, _ => rfl
      | 5, _ => rfl
      | 6, _ => rfl
    case round =>
      obtain ⟨k, hk, rfl, rfl, HG, hbr1, hsz, HO⟩ := hrel
      obtain ⟨hm0, hm1, hf0, hf1, hbr⟩ := res2 hbr1.out
      by_cases hlt : k < 7
      · obtain ⟨hpl, hps⟩ := HP.out k hlt
        have HT2 := Lib.hid (HT.out.below hbr)
        have HE2 := Lib.hid (HE.out.below hbr)
        have HPL := Lib.hid hpl
        clear hpl
        by_cases hpv : ∃ u, Lib.parseUintB 32 (pB s k).data.toList = .ok u
        · obtain ⟨u, hu⟩ := hpv
          have HV := Lib.hid hu
          have HDP := Lib.hid (dig_parse (l := s.data.toList) (k := k) (by rw [← HPL.out]; exact hu))
          have hub : u < 10000 := by rw [← HDP.out.2]; exact HBD.out k hlt HDP.out.1
          have HG' : Hid (∀ j, j < k + 1 → ∀ c ∈ fp s.data.toList j, isDg c) := fun j hj => by
            by_cases e : j = k
            · subst e; exact HDP.out.1
            · exact HG.out j (by omega)
          clear hu
          have hcases : k = 0 ∨ k = 1 ∨ k = 2 ∨ k = 3 ∨ k = 4 ∨ k = 5 ∨ k = 6 := by omega
          have HO' : Hid (∀ w2 : World, Below wr.heap.size wr w2 → OwnI (w2.setCell ⟨w.heap.size + 1, k, none⟩ (.int .i64 u)) (w.heap.size + 1) (fun j => if j < k + 1 then ((fn s.data.toList j : Nat) : Int) else 0) 7) := fun w2 hb2 => ((HO.out.keep hb2).set hlt u).congr (fun j _ => by
            by_cases e : j = k
            · subst e; rw [if_pos rfl, if_pos (by omega), HDP.out.2]
            · rw [if_neg e]; by_cases h : j < k
              · rw [if_pos h, if_pos (by omega)]
              · rw [if_neg h, if_neg (by omega)])
          rcases hcases with rfl | rfl | rfl | rfl | rfl | rfl | rfl
          · have g1 : s.extract 0 4 = pB s 0 := rfl
            have hix := idxW 0 (by omega)
            rw [show ((0 : Nat) : Int) = 0 from rfl, show ((pW 0 : Nat) : Int) = 4 from rfl] at hix
            have g2 : pA 0 = 0 := rfl
            rw [g2]
            go_wp2_with fail
            (with_reducible refine (shUintOk _ u _ (show (pB s 0).size ≤ 1048576 by omega) HV.out).mono ?_)
            rintro e w2 ⟨rfl, hb2⟩
            obtain ⟨hdst, hfr⟩ := (HO.out.keep hb2) 0 (by omega)
            have hs2 := hb2.size
            go_wp2
            go_roundw
            case rel => exact ⟨1, by omega, by go_num, by go_num, HG', (hbr1.out.trans (hb2.mono (by omega))).setCell (by simp) _, by simp; omega, HO'.out w2 hb2⟩
            case measure => simp [intOf]
          · have g1 : s.extract 5 7 = pB s 1 := rfl
            have hix := idxW 1 (by omega)
            rw [show ((1 : Nat) : Int) = 1 from rfl, show ((pW 1 : Nat) : Int) = 2 from rfl] at hix
            have g2 : pA 1 = 5 := rfl
            rw [g2]
            go_wp2_with fail
            (with_reducible refine (shUintOk _ u _ (show (pB s 1).size ≤ 1048576 by omega) HV.out).mono ?_)
            rintro e w2 ⟨rfl, hb2⟩
            obtain ⟨hdst, hfr⟩ := (HO.out.keep hb2) 1 (by omega)
            have hs2 := hb2.size
            go_wp2
            go_roundw
            case rel => exact ⟨2, by omega, by go_num, by go_num, HG', (hbr1.out.trans (hb2.mono (by omega))).setCell (by simp) _, by simp; omega, HO'.out w2 hb2⟩
            case measure => simp [intOf]
          · have g1 : s.extract 8 10 = pB s 2 := rfl
            have hix := idxW 2 (by omega)
            rw [show ((2 : Nat) : Int) = 2 from rfl, show ((pW 2 : Nat) : Int) = 2 from rfl] at hix
            have g2 : pA 2 = 8 := rfl
            rw [g2]
            go_wp2_with fail
            (with_reducible refine (shUintOk _ u _ (show (pB s 2).size ≤ 1048576 by omega) HV.out).mono ?_)
            rintro e w2 ⟨rfl, hb2⟩
            obtain ⟨hdst, hfr⟩ := (HO.out.keep hb2) 2 (by omega)
            have hs2 := hb2.size
            go_wp2
            go_roundw
            case rel => exact ⟨3, by omega, by go_num, by go_num, HG', (hbr1.out.trans (hb2.mono (by omega))).setCell (by simp) _, by simp; omega, HO'.out w2 hb2⟩
            case measure => simp [intOf]
          · have g1 : s.extract 11 13 = pB s 3 := rfl
            have hix := idxW 3 (by omega)
            rw [show ((3 : Nat) : Int) = 3 from rfl, show ((pW 3 : Nat) : Int) = 2 from rfl] at hix
            have g2 : pA 3 = 11 := rfl
            rw [g2]
            go_wp2_with fail
            (with_reducible refine (shUintOk _ u _ (show (pB s 3).size ≤ 1048576 by omega) HV.out).mono ?_)
            rintro e w2 ⟨rfl, hb2⟩
            obtain ⟨hdst, hfr⟩ := (HO.out.keep hb2) 3 (by omega)
            have hs2 := hb2.size
            go_wp2
            go_roundw
            case rel => exact ⟨4, by omega, by go_num, by go_num, HG', (hbr1.out.trans (hb2.mono (by omega))).setCell (by simp) _, by simp; omega, HO'.out w2 hb2⟩
            case measure => simp [intOf]
          · have g1 : s.extract 14 16 = pB s 4 := rfl
            have hix := idxW 4 (by omega)
            rw [show ((4 : Nat) : Int) = 4 from rfl, show ((pW 4 : Nat) : Int) = 2 from rfl] at hix
            have g2 : pA 4 = 14 := rfl
            rw [g2]
            go_wp2_with fail
            (with_reducible refine (shUintOk _ u _ (show (pB s 4).size ≤ 1048576 by omega) HV.out).mono ?_)
            rintro e w2 ⟨rfl, hb2⟩
            obtain ⟨hdst, hfr⟩ := (HO.out.keep hb2) 4 (by omega)
            have hs2 := hb2.size
            go_wp2
            go_roundw
            case rel => exact ⟨5, by omega, by go_num, by go_num, HG', (hbr1.out.trans (hb2.mono (by omega))).setCell (by simp) _, by simp; omega, HO'.out w2 hb2⟩
            case measure => simp [intOf]
          · have g1 : s.extract 17 19 = pB s 5 := rfl
            have hix := idxW 5 (by omega)
            rw [show ((5 : Nat) : Int) = 5 from rfl, show ((pW 5 : Nat) : Int) = 2 from rfl] at hix
            have g2 : pA 5 = 17 := rfl
            rw [g2]
            go_wp2_with fail
            (with_reducible refine (shUintOk _ u _ (show (pB s 5).size ≤ 1048576 by omega) HV.out).mono ?_)
            rintro e w2 ⟨rfl, hb2⟩
            obtain ⟨hdst, hfr⟩ := (HO.out.keep hb2) 5 (by omega)
            have hs2 := hb2.size
            go_wp2
            go_roundw
            case rel => exact ⟨6, by omega, by go_num, by go_num, HG', (hbr1.out.trans (hb2.mono (by omega))).setCell (by simp) _, by simp; omega, HO'.out w2 hb2⟩
            case measure => simp [intOf]
          · have g1 : s.extract 20 23 = pB s 6 := rfl
            have hix := idxW 6 (by omega)
            rw [show ((6 : Nat) : Int) = 6 from rfl, show ((pW 6 : Nat) : Int) = 3 from rfl] at hix
            have g2 : pA 6 = 20 := rfl
            rw [g2]
            go_wp2_with fail
            (with_reducible refine (shUintOk _ u _ (show (pB s 6).size ≤ 1048576 by omega) HV.out).mono ?_)
            rintro e w2 ⟨rfl, hb2⟩
            obtain ⟨hdst, hfr⟩ := (HO.out.keep hb2) 6 (by omega)
            have hs2 := hb2.size
            go_wp2
            go_roundw
            case rel => exact ⟨7, by omega, by go_num, by go_num, HG', (hbr1.out.trans (hb2.mono (by omega))).setCell (by simp) _, by simp; omega, HO'.out w2 hb2⟩
            case measure => simp [intOf]
        · have hp' : Hid (∀ v, Lib.parseUintB 32 (pB s k).data.toList ≠ .ok v) := fun v h => hpv ⟨v, h⟩
          have HB := Lib.hid (rm_parse (l := s.data.toList) hlt (fun u h => hp'.out u (by rw [HPL.out]; exact h)))
          clear hpv
          have hcases : k = 0 ∨ k = 1 ∨ k = 2 ∨ k = 3 ∨ k = 4 ∨ k = 5 ∨ k = 6 := by omega
          rcases hcases with rfl | rfl | rfl | rfl | rfl | rfl | rfl
          · have g1 : s.extract 0 4 = pB s 0 := rfl
            have hix := idxW 0 (by omega)
            rw [show ((0 : Nat) : Int) = 0 from rfl, show ((pW 0 : Nat) : Int) = 4 from rfl] at hix
            have g2 : pA 0 = 0 := rfl
            rw [g2]
            go_wp2_with fail
            (with_reducible refine (shUintNo _ _ (show (pB s 0).size ≤ 1048576 by omega) hp'.out HE2.out).mono ?_)
            rintro e w2 ⟨v, t, N, rfl, hb2⟩
            have hs2 := hb2.size
            obtain ⟨hm0, hm1, hf0, hf1, hbr⟩ := res2 (hbr1.out.trans (hb2.mono (by omega)))
            go_wp2
            exact bodyPost_ret (v := .tuple #[.agg #[.int .i64 0, .int .i64 0], .bool false]) (by simp [results, Tryd.results39, go_sem, *]) rfl ⟨ret_m HB.out.2 HB.out.1, by (repeat (first | exact Below.refl _ _ | assumption | (refine Below.drewN ?_ _) | (refine Below.drew ?_) | (refine Below.alloc ?_ (by first | (simp; done) | (simp; omega) | omega) _) | (refine Below.setCell ?_ (by first | (simp; done) | (simp; omega) | omega) _) | (refine Below.trans ?_ (Below.mono (by assumption) (by first | (simp; done) | (simp; omega) | omega)))))⟩
          · have g1 : s.extract 5 7 = pB s 1 := rfl
            have hix := idxW 1 (by omega)
            rw [show ((1 : Nat) : Int) = 1 from rfl, show ((pW 1 : Nat) : Int) = 2 from rfl] at hix
            have g2 : pA 1 = 5 := rfl
            rw [g2]
            go_wp2_with fail
            (with_reducible refine (shUintNo _ _ (show (pB s 1).size ≤ 1048576 by omega) hp'.out HE2.out).mono ?_)
            rintro e w2 ⟨v, t, N, rfl, hb2⟩
            have hs2 := hb2.size
            obtain ⟨hm0, hm1, hf0, hf1, hbr⟩ := res2 (hbr1.out.trans (hb2.mono (by omega)))
            go_wp2
            exact bodyPost_ret (v := .tuple #[.agg #[.int .i64 0, .int .i64 0], .bool false]) (by simp [results, Tryd.results39, go_sem, *]) rfl ⟨ret_m HB.out.2 HB.out.1, by (repeat (first | exact Below.refl _ _ | assumption | (refine Below.drewN ?_ _) | (refine Below.drew ?_) | (refine Below.alloc ?_ (by first | (simp; done) | (simp; omega) | omega) _) | (refine Below.setCell ?_ (by first | (simp; done) | (simp; omega) | omega) _) | (refine Below.trans ?_ (Below.mono (by assumption) (by first | (simp; done) | (simp; omega) | omega)))))⟩
          · have g1 : s.extract 8 10 = pB s 2 := rfl
            have hix := idxW 2 (by omega)
            rw [show ((2 : Nat) : Int) = 2 from rfl, show ((pW 2 : Nat) : Int) = 2 from rfl] at hix
            have g2 : pA 2 = 8 := rfl
            rw [g2]
            go_wp2_with fail
            (with_reducible refine (shUintNo _ _ (show (pB s 2).size ≤ 1048576 by omega) hp'.out HE2.out).mono ?_)
            rintro e w2 ⟨v, t, N, rfl, hb2⟩
            have hs2 := hb2.size
            obtain ⟨hm0, hm1, hf0, hf1, hbr⟩ := res2 (hbr1.out.trans (hb2.mono (by omega)))
            go_wp2
            exact bodyPost_ret (v := .tuple #[.agg #[.int .i64 0, .int .i64 0], .bool false]) (by simp [results, Tryd.results39, go_sem, *]) rfl ⟨ret_m HB.out.2 HB.out.1, by (repeat (first | exact Below.refl _ _ | assumption | (refine Below.drewN ?_ _) | (refine Below.drew ?_) | (refine Below.alloc ?_ (by first | (simp; done) | (simp; omega) | omega) _) | (refine Below.setCell ?_ (by first | (simp; done) | (simp; omega) | omega) _) | (refine Below.trans ?_ (Below.mono (by assumption) (by first | (simp; done) | (simp; omega) | omega)))))⟩
          · have g1 : s.extract 11 13 = pB s 3 := rfl
            have hix := idxW 3 (by omega)
            rw [show ((3 : Nat) : Int) = 3 from rfl, show ((pW 3 : Nat) : Int) = 2 from rfl] at hix
            have g2 : pA 3 = 11 := rfl
            rw [g2]
            go_wp2_with fail
            (with_reducible refine (shUintNo _ _ (show (pB s 3).size ≤ 1048576 by omega) hp'.out HE2.out).mono ?_)
            rintro e w2 ⟨v, t, N, rfl, hb2⟩
            have hs2 := hb2.size
            obtain ⟨hm0, hm1, hf0, hf1, hbr⟩ := res2 (hbr1.out.trans (hb2.mono (by omega)))
            go_wp2
            exact bodyPost_ret (v := .tuple #[.agg #[.int .i64 0, .int .i64 0], .bool false]) (by simp [results, Tryd.results39, go_sem, *]) rfl ⟨ret_m HB.out.2 HB.out.1, by (repeat (first | exact Below.refl _ _ | assumption | (refine Below.drewN ?_ _) | (refine Below.drew ?_) | (refine Below.alloc ?_ (by first | (simp; done) | (simp; omega) | omega) _) | (refine Below.setCell ?_ (by first | (simp; done) | (simp; omega) | omega) _) | (refine Below.trans ?_ (Below.mono (by assumption) (by first | (simp; done) | (simp; omega) | omega)))))⟩
          · have g1 : s.extract 14 16 = pB s 4 := rfl
            have hix := idxW 4 (by omega)
            rw [show ((4 : Nat) : Int) = 4 from rfl, show ((pW 4 : Nat) : Int) = 2 from rfl] at hix
            have g2 : pA 4 = 14 := rfl
            rw [g2]
            go_wp2_with fail
            (with_reducible refine (shUintNo _ _ (show (pB s 4).size ≤ 1048576 by omega) hp'.out HE2.out).mono ?_)
            rintro e w2 ⟨v, t, N, rfl, hb2⟩
            have hs2 := hb2.size
            obtain ⟨hm0, hm1, hf0, hf1, hbr⟩ := res2 (hbr1.out.trans (hb2.mono (by omega)))
            go_wp2
            exact bodyPost_ret (v := .tuple #[.agg #[.int .i64 0, .int .i64 0], .bool false]) (by simp [results, Tryd.results39, go_sem, *]) rfl ⟨ret_m HB.out.2 HB.out.1, by (repeat (first | exact Below.refl _ _ | assumption | (refine Below.drewN ?_ _) | (refine Below.drew ?_) | (refine Below.alloc ?_ (by first | (simp; done) | (simp; omega) | omega) _) | (refine Below.setCell ?_ (by first | (simp; done) | (simp; omega) | omega) _) | (refine Below.trans ?_ (Below.mono (by assumption) (by first | (simp; done) | (simp; omega) | omega)))))⟩
          · have g1 : s.extract 17 19 = pB s 5 := rfl
            have hix := idxW 5 (by omega)
            rw [show ((5 : Nat) : Int) = 5 from rfl, show ((pW 5 : Nat) : Int) = 2 from rfl] at hix
            have g2 : pA 5 = 17 := rfl
            rw [g2]
            go_wp2_with fail
            (with_reducible refine (shUintNo _ _ (show (pB s 5).size ≤ 1048576 by omega) hp'.out HE2.out).mono ?_)
            rintro e w2 ⟨v, t, N, rfl, hb2⟩
            have hs2 := hb2.size
            obtain ⟨hm0, hm1, hf0, hf1, hbr⟩ := res2 (hbr1.out.trans (hb2.mono (by omega)))
            go_wp2
            exact bodyPost_ret (v := .tuple #[.agg #[.int .i64 0, .int .i64 0], .bool false]) (by simp [results, Tryd.results39, go_sem, *]) rfl ⟨ret_m HB.out.2 HB.out.1, by (repeat (first | exact Below.refl _ _ | assumption | (refine Below.drewN ?_ _) | (refine Below.drew ?_) | (refine Below.alloc ?_ (by first | (simp; done) | (simp; omega) | omega) _) | (refine Below.setCell ?_ (by first | (simp; done) | (simp; omega) | omega) _) | (refine Below.trans ?_ (Below.mono (by assumption) (by first | (simp; done) | (simp; omega) | omega)))))⟩
          · have g1 : s.extract 20 23 = pB s 6 := rfl
            have hix := idxW 6 (by omega)
            rw [show ((6 : Nat) : Int) = 6 from rfl, show ((pW 6 : Nat) : Int) = 3 from rfl] at hix
            have g2 : pA 6 = 20 := rfl
            rw [g2]
            go_wp2_with fail
            (with_reducible refine (shUintNo _ _ (show (pB s 6).size ≤ 1048576 by omega) hp'.out HE2.out).mono ?_)
            rintro e w2 ⟨v, t, N, rfl, hb2⟩
            have hs2 := hb2.size
            obtain ⟨hm0, hm1, hf0, hf1, hbr⟩ := res2 (hbr1.out.trans (hb2.mono (by omega)))
            go_wp2
            exact bodyPost_ret (v := .tuple #[.agg #[.int .i64 0, .int .i64 0], .bool false]) (by simp [results, Tryd.results39, go_sem, *]) rfl ⟨ret_m HB.out.2 HB.out.1, by (repeat (first | exact Below.refl _ _ | assumption | (refine Below.drewN ?_ _) | (refine Below.drew ?_) | (refine Below.alloc ?_ (by first | (simp; done) | (simp; omega) | omega) _) | (refine Below.setCell ?_ (by first | (simp; done) | (simp; omega) | omega) _) | (refine Below.trans ?_ (Below.mono (by assumption) (by first | (simp; done) | (simp; omega) | omega)))))⟩
      · obtain rfl : k = 7 := by omega
        have HS7 : Hid (∀ j, j < 7 → wr.cell? ⟨w.heap.size + 1, j, none⟩ = some (.int .i64 (fn s.data.toList j : Nat))) := fun j hj => ((HO.out j hj).1).trans (by show some (Value.int .i64 (if j < 7 then _ else _)) = _; rw [if_pos hj])
        have c0 := HS7.out 0 (by omega)
        have c1 := HS7.out 1 (by omega)
        have c2 := HS7.out 2 (by omega)
        have c3 := HS7.out 3 (by omega)
        have c4 := HS7.out 4 (by omega)
        have c5 := HS7.out 5 (by omega)
        have c6 := HS7.out 6 (by omega)
        have q0 := HBD.out 0 (by omega) (HG.out 0 (by omega))
        have q1 := HBD.out 1 (by omega) (HG.out 1 (by omega))
        have q2 := HBD.out 2 (by omega) (HG.out 2 (by omega))
        have q3 := HBD.out 3 (by omega) (HG.out 3 (by omega))
        have q4 := HBD.out 4 (by omega) (HG.out 4 (by omega))
        have q5 := HBD.out 5 (by omega) (HG.out 5 (by omega))
        have q6 := HBD.out 6 (by omega) (HG.out 6 (by omega))
        have HV : Hid (∀ D M, IsMom s.data.toList D M → finB (fn s.data.toList 0 : Nat) (fn s.data.toList 1 : Nat) (fn s.data.toList 2 : Nat) = true ∧ D = finA (fn s.data.toList 0 : Nat) (fn s.data.toList 1 : Nat) (fn s.data.toList 2 : Nat) ∧ M = ((((fn s.data.toList 3 : Nat) : Int) * 60 + (fn s.data.toList 4 : Nat)) * 60 + (fn s.data.toList 5 : Nat)) * 1000 + (fn s.data.toList 6 : Nat)) := fun D M h => mom_val h
        obtain ⟨n0, e0⟩ : ∃ n : Int, ((fn s.data.toList 0 : Nat) : Int) = n := ⟨_, rfl⟩
        obtain ⟨n1, e1⟩ : ∃ n : Int, ((fn s.data.toList 1 : Nat) : Int) = n := ⟨_, rfl⟩
        obtain ⟨n2, e2⟩ : ∃ n : Int, ((fn s.data.toList 2 : Nat) : Int) = n := ⟨_, rfl⟩
        obtain ⟨n3, e3⟩ : ∃ n : Int, ((fn s.data.toList 3 : Nat) : Int) = n := ⟨_, rfl⟩
        obtain ⟨n4, e4⟩ : ∃ n : Int, ((fn s.data.toList 4 : Nat) : Int) = n := ⟨_, rfl⟩
        obtain ⟨n5, e5⟩ : ∃ n : Int, ((fn s.data.toList 5 : Nat) : Int) = n := ⟨_, rfl⟩
        obtain ⟨n6, e6⟩ : ∃ n : Int, ((fn s.data.toList 6 : Nat) : Int) = n := ⟨_, rfl⟩
        have r0 : 0 ≤ n0 ∧ n0 ≤ 9999 := by omega
        have r1 : 0 ≤ n1 ∧ n1 ≤ 9999 := by omega
        have r2 : 0 ≤ n2 ∧ n2 ≤ 9999 := by omega
        have r3 : 0 ≤ n3 ∧ n3 ≤ 9999 := by omega
        have r4 : 0 ≤ n4 ∧ n4 ≤ 9999 := by omega
        have r5 : 0 ≤ n5 ∧ n5 ≤ 9999 := by omega
        have r6 : 0 ≤ n6 ∧ n6 ≤ 9999 := by omega
        rw [e0] at c0
        rw [e1] at c1
        rw [e2] at c2
        rw [e3] at c3
        rw [e4] at c4
        rw [e5] at c5
        rw [e6] at c6
        have HV' : Hid (∀ D M, IsMom s.data.toList D M → finB n0 n1 n2 = true ∧ D = finA n0 n1 n2 ∧ M = ((n3 * 60 + n4) * 60 + n5) * 1000 + n6) := fun D M h => by
          have := HV.out D M h
          rw [e0, e1, e2, e3, e4, e5, e6] at this
          exact this
        clear HV e0 e1 e2 e3 e4 e5 e6 q0 q1 q2 q3 q4 q5 q6 HS7 HO HBD HP HE
        have y1 : IntKind.i64.wrap (n3 * 60) = n3 * 60 := IntWalk.i64_in _ (by omega)
        have y2 : IntKind.i64.wrap (n3 * 60 + n4) = n3 * 60 + n4 := IntWalk.i64_in _ (by omega)
        have y3 : IntKind.i64.wrap ((n3 * 60 + n4) * 60) = (n3 * 60 + n4) * 60 := IntWalk.i64_in _ (by omega)
        have y4 : IntKind.i64.wrap ((n3 * 60 + n4) * 60 + n5) = (n3 * 60 + n4) * 60 + n5 := IntWalk.i64_in _ (by omega)
        have y5 : IntKind.i64.wrap (((n3 * 60 + n4) * 60 + n5) * 1000) = ((n3 * 60 + n4) * 60 + n5) * 1000 := IntWalk.i64_in _ (by omega)
        have y6 : IntKind.i64.wrap (((n3 * 60 + n4) * 60 + n5) * 1000 + n6) = ((n3 * 60 + n4) * 60 + n5) * 1000 + n6 := IntWalk.i64_in _ (by omega)
        go_wp2_with fail
        (with_reducible refine (iDayOf _ _ _ _).mono ?_)
        rintro e w' ⟨rfl, rfl⟩
        cases hfb : finB n0 n1 n2
        · have HB := Lib.hid (rm_no (l := s.data.toList) (fun ⟨x, hx⟩ => by have := (HV'.out _ _ hx).1; rw [hfb] at this; cases this))
          obtain ⟨d1, d2⟩ := day_fin.2 hfb
          clear HV'
          generalize dayA n0 n1 n2 = A at *
          go_wp2
          exact bodyPost_ret (v := .tuple #[.agg #[.int .i64 0, .int .i64 0], .bool false]) (by simp [results, Tryd.results39, go_sem, *]) rfl ⟨ret_m HB.out.2 HB.out.1, by (repeat (first | exact Below.refl _ _ | assumption | (refine Below.drewN ?_ _) | (refine Below.drew ?_) | (refine Below.alloc ?_ (by first | (simp; done) | (simp; omega) | omega) _) | (refine Below.setCell ?_ (by first | (simp; done) | (simp; omega) | omega) _) | (refine Below.trans ?_ (Below.mono (by assumption) (by first | (simp; done) | (simp; omega) | omega)))))⟩
        obtain ⟨d1, d2⟩ := day_fin.1 hfb
        have HVV : Hid (∀ D M, IsMom s.data.toList D M → D = dayA n0 n1 n2 ∧ M = ((n3 * 60 + n4) * 60 + n5) * 1000 + n6) := fun D M h => by rw [d1]; exact (HV'.out D M h).2
        clear HV' d1 hfb
        have dbd : -9223372036854775808 ≤ dayA n0 n1 n2 ∧ dayA n0 n1 n2 ≤ 9223372036854775807 := by
          unfold dayA
          split
          · rename_i h
            rw [Bool.and_eq_true] at h
            have := inB_t h.2
            omega
          · omega
        generalize dayA n0 n1 n2 = A at *
        obtain ⟨M, hM⟩ : ∃ M, ((n3 * 60 + n4) * 60 + n5) * 1000 + n6 = M := ⟨_, rfl⟩
        have mbd : 0 ≤ M ∧ M ≤ 1000000000000 := by omega
        rw [hM] at HVV y6
        have HMM := Lib.hid hM
        have wlt1 : w.heap.size < wr.heap.size + 1 := by omega
        have wne : ¬ wr.heap.size = w.heap.size := by omega
        have wne' : ¬ w.heap.size = wr.heap.size := by omega
        cases hok : okM A M
        · have HB := Lib.hid (rm_no (l := s.data.toList) (fun ⟨x, hx⟩ => by have := HVV.out _ _ hx; have h1 := hx.1; rw [this.1, this.2, hok] at h1; cases h1))
          go_wp2_with fail
          (with_reducible refine (iValidMoment _ _ _).mono ?_)
          rintro e W1 ⟨rfl, hbv⟩
          have sv := hbv.size
          (try simp at sv)
          obtain ⟨cv, fv⟩ := bcell hbv
          have HB1 : Hid (Below (w.heap.size + 1) (w.alloc (.cells #[.int .i64 0, .int .i64 0] 32)) W1) := (hbr1.out.alloc (by omega) _).trans (hbv.mono (by simp; omega))
          obtain ⟨hm0, hm1, hf0, hf1, hbr⟩ := res2 HB1.out
          have mc0 : W1.cell? ⟨wr.heap.size, 0, none⟩ = some (.int .i64 A) := (cv _ _ (by simp)).trans (by rw [World.cell?_alloc_new]; rfl)
          have mc1 : W1.cell? ⟨wr.heap.size, 1, none⟩ = some (.int .i64 M) := (cv _ _ (by simp)).trans (by rw [World.cell?_alloc_new]; rfl)
          have wlt2 : w.heap.size < W1.heap.size := by omega
          have wlt3 : wr.heap.size < W1.heap.size := by omega
          clear cv fv hbv
          go_wp2
          exact bodyPost_ret (v := .tuple #[.agg #[.int .i64 0, .int .i64 0], .bool false]) (by simp [results, Tryd.results39, go_sem, *]) rfl ⟨ret_m HB.out.2 HB.out.1, by (repeat (first | exact Below.refl _ _ | assumption | (refine Below.drewN ?_ _) | (refine Below.drew ?_) | (refine Below.alloc ?_ (by first | (simp; done) | (simp; omega) | omega) _) | (refine Below.setCell ?_ (by first | (simp; done) | (simp; omega) | omega) _) | (refine Below.trans ?_ (Below.mono (by assumption) (by first | (simp; done) | (simp; omega) | omega)))))⟩
        go_wp2_with fail
        (with_reducible refine (iValidMoment _ _ _).mono ?_)
        rintro e W1 ⟨rfl, hbv⟩
        have sv := hbv.size
        (try simp at sv)
        obtain ⟨cv, fv⟩ := bcell hbv
        have HB1 : Hid (Below (w.heap.size + 1) (w.alloc (.cells #[.int .i64 0, .int .i64 0] 32)) W1) := (hbr1.out.alloc (by omega) _).trans (hbv.mono (by simp; omega))
        obtain ⟨hm0, hm1, hf0, hf1, hbr⟩ := res2 HB1.out
        have mc0 : W1.cell? ⟨wr.heap.size, 0, none⟩ = some (.int .i64 A) := (cv _ _ (by simp)).trans (by rw [World.cell?_alloc_new]; rfl)
        have mc1 : W1.cell? ⟨wr.heap.size, 1, none⟩ = some (.int .i64 M) := (cv _ _ (by simp)).trans (by rw [World.cell?_alloc_new]; rfl)
        have wlt2 : w.heap.size < W1.heap.size := by omega
        have wlt3 : wr.heap.size < W1.heap.size := by omega
        clear cv fv hbv
        obtain ⟨V, hVs⟩ : ∃ V, V = tx (moT A M) := ⟨_, rfl⟩
        have HVs := Lib.hid hVs
        clear hVs
        by_cases he : V = s
        · have HB := Lib.hid (rm_yes (l := s.data.toList) (d := A) (m := M) ⟨hok, by rw [← he, HVs.out, tx_list]⟩)
          have heb : (V.toList == s.toList) = true := by rw [he]; simp
          clear he
          go_wp2_with fail
          (with_reducible refine (iMomentText _ _ _ (HT.out.below hbr)).mono ?_)
          rintro e W2 ⟨rfl, hbt⟩
          rw [← HVs.out]
          have sv := hbt.size
          obtain ⟨cv, fv⟩ := bcell hbt
          have HB2 : Hid (Below (w.heap.size + 1) (w.alloc (.cells #[.int .i64 0, .int .i64 0] 32)) W2) := HB1.out.trans (hbt.mono (by omega))
          obtain ⟨hm0, hm1, hf0, hf1, hbr⟩ := res2 HB2.out
          have mc0 : W2.cell? ⟨wr.heap.size, 0, none⟩ = some (.int .i64 A) := (cv _ _ wlt3).trans mc0
          have mc1 : W2.cell? ⟨wr.heap.size, 1, none⟩ = some (.int .i64 M) := (cv _ _ wlt3).trans mc1
          clear cv fv hbt
          go_wp2
          exact bodyPost_ret (v := .tuple #[.agg #[.int .i64 A, .int .i64 M], .bool true]) (by simp [results, Tryd.results39, go_sem, *]) rfl ⟨ret_m HB.out.2 HB.out.1, by (repeat (first | exact Below.refl _ _ | assumption | (refine Below.drewN ?_ _) | (refine Below.drew ?_) | (refine Below.alloc ?_ (by first | (simp; done) | (simp; omega) | omega) _) | (refine Below.setCell ?_ (by first | (simp; done) | (simp; omega) | omega) _) | (refine Below.trans ?_ (Below.mono (by assumption) (by first | (simp; done) | (simp; omega) | omega)))))⟩
        · have HB := Lib.hid (rm_no (l := s.data.toList) (fun ⟨x, hx⟩ => by
            have h1 := HVV.out _ _ hx
            have h2 := hx.2
            rw [h1.1, h1.2] at h2
            exact he (by rw [HVs.out, h2]; exact (tx_of s).symm)))
          have heb : (V.toList == s.toList) = false := beq_false_of_ne (fun e => he (tl_inj e))
          clear he
          go_wp2_with fail
          (with_reducible refine (iMomentText _ _ _ (HT.out.below hbr)).mono ?_)
          rintro e W2 ⟨rfl, hbt⟩
          rw [← HVs.out]
          have sv := hbt.size
          obtain ⟨cv, fv⟩ := bcell hbt
          have HB2 : Hid (Below (w.heap.size + 1) (w.alloc (.cells #[.int .i64 0, .int .i64 0] 32)) W2) := HB1.out.trans (hbt.mono (by omega))
          obtain ⟨hm0, hm1, hf0, hf1, hbr⟩ := res2 HB2.out
          have mc0 : W2.cell? ⟨wr.heap.size, 0, none⟩ = some (.int .i64 A) := (cv _ _ wlt3).trans mc0
          have mc1 : W2.cell? ⟨wr.heap.size, 1, none⟩ = some (.int .i64 M) := (cv _ _ wlt3).trans mc1
          clear cv fv hbt
          go_wp2
          exact bodyPost_ret (v := .tuple #[.agg #[.int .i64 0, .int .i64 0], .bool false]) (by simp [results, Tryd.results39, go_sem, *]) rfl ⟨ret_m HB.out.2 HB.out.1, by (repeat (first | exact Below.refl _ _ | assumption | (refine Below.drewN ?_ _) | (refine Below.drew ?_) | (refine Below.alloc ?_ (by first | (simp; done) | (simp; omega) | omega) _) | (refine Below.setCell ?_ (by first | (simp; done) | (simp; omega) | omega) _) | (refine Below.trans ?_ (Below.mono (by assumption) (by first | (simp; done) | (simp; omega) | omega)))))⟩
  · have h0b : ((s.size : Int) == 23) = false := by simp; omega
    have HB := Lib.hid (rm_no (l := s.data.toList) (fun ⟨x, hx⟩ => h0 (by rw [← sz_list]; exact (mom_inv hx).1.1)))
    go_enter Tryd.func39, Tryd.ntmps39
    go_wp2
    exact bodyPost_ret (v := .tuple #[.agg #[.int .i64 0, .int .i64 0], .bool false]) (by simp [results, Tryd.results39, go_sem, *]) rfl ⟨ret_m HB.out.2 HB.out.1, by (repeat (first | exact Below.refl _ _ | assumption | (refine Below.drewN ?_ _) | (refine Below.drew ?_) | (refine Below.alloc ?_ (by first | (simp; done) | (simp; omega) | omega) _) | (refine Below.setCell ?_ (by first | (simp; done) | (simp; omega) | omega) _) | (refine Below.trans ?_ (Below.mono (by assumption) (by first | (simp; done) | (simp; omega) | omega)))))⟩
theorem sReadMoment (s : ByteArray) (w : World) (hs : s.size ≤ 1048576) :
    Calls Tryd.prog 38 #[.string s] w fun e w' => e = .returned (.tuple #[.agg #[.int .i64 (rmP s.data.toList).1, .int .i64 (rmP s.data.toList).2], .bool (rmB s.data.toList)]) ∧ Below w.heap.size w w' := by
  go_enter Tryd.func38, Tryd.ntmps38
  go_wp2_with fail
  (with_reducible refine (sReadMom _ _ hs).mono ?_)
  rintro e w1 ⟨rfl, hb⟩
  obtain ⟨hm0, hm1, hf0, hf1, hbr⟩ := res2 (hb.mono (by simp))
  have hz : w.heap.size < w1.heap.size := by have := hb.size; simp at this; omega
  have HQ := Lib.hid hb
  clear hb
  go_wp2
  exact bodyPost_ret (v := .tuple #[.agg #[.int .i64 (rmP s.data.toList).1, .int .i64 (rmP s.data.toList).2], .bool (rmB s.data.toList)]) (by simp [results, Tryd.results38, go_sem, *]) rfl ⟨rfl, by (repeat (first | exact Below.refl _ _ | assumption | (refine Below.drewN ?_ _) | (refine Below.drew ?_) | (refine Below.alloc ?_ (by first | (simp; done) | (simp; omega) | omega) _) | (refine Below.setCell ?_ (by first | (simp; done) | (simp; omega) | omega) _) | (refine Below.trans ?_ (Below.mono (by assumption) (by first | (simp; done) | (simp; omega) | omega)))))⟩
theorem walk_FnExactReadMoment (a0 : ByteArray) (w : World) (w0 : a0.size ≤ maxLen) (hT : TabIn w) (hE : ErrIn w) :
    Calls Tryd.prog 11 #[.string a0] w fun e w' => e = .returned (.bool true) ∧ Below w.heap.size w w' := by
  have HT := Lib.hid hT
  have HE := Lib.hid hE
  clear hT hE
  by_cases hl : a0.size ≤ 1048576
  · clear w0
    go_enter Tryd.func11, Tryd.ntmps11
    go_wp2_with fail
    (with_reducible refine (sReadMoment _ _ hl).mono ?_)
    rintro e W1 ⟨rfl, hb1⟩
    have hs1 := hb1.size
    (try simp at hs1)
    obtain ⟨hc1, hf1⟩ := bcell hb1
    (try have hz0_1 : w.heap.size < W1.heap.size := by omega)
    (try have hy0_1 : w.heap.size + 1 < W1.heap.size := by omega)
    go_wp2_with fail
    (with_reducible refine (iReadMom _ _ hl (HT.out.below (by (repeat (first | exact Below.refl _ _ | assumption | (refine Below.drewN ?_ _) | (refine Below.drew ?_) | (refine Below.alloc ?_ (by first | (simp; done) | (simp; omega) | omega) _) | (refine Below.setCell ?_ (by first | (simp; done) | (simp; omega) | omega) _) | (refine Below.trans ?_ (Below.mono (by assumption) (by first | (simp; done) | (simp; omega) | omega))))))) (HE.out.below (by (repeat (first | exact Below.refl _ _ | assumption | (refine Below.drewN ?_ _) | (refine Below.drew ?_) | (refine Below.alloc ?_ (by first | (simp; done) | (simp; omega) | omega) _) | (refine Below.setCell ?_ (by first | (simp; done) | (simp; omega) | omega) _) | (refine Below.trans ?_ (Below.mono (by assumption) (by first | (simp; done) | (simp; omega) | omega)))))))).mono ?_)
    rintro e W2 ⟨rfl, hb2⟩
    have hs2 := hb2.size
    (try simp at hs2)
    obtain ⟨hc2, hf2⟩ := bcell hb2
    (try have hz0_2 : w.heap.size < W2.heap.size := by omega)
    (try have hy0_2 : w.heap.size + 1 < W2.heap.size := by omega)
    (try have hz1_2 : W1.heap.size < W2.heap.size := by omega)
    (try have hy1_2 : W1.heap.size + 1 < W2.heap.size := by omega)
    go_wp2_with (go_at_call 40; (with_reducible refine (lEqMoment _ _ _).mono ?_); rintro e w' ⟨rfl, hb⟩; have hs := hb.size; (try simp at hs); (try have hz : w.heap.size < w'.heap.size := by omega); (try have hy : w.heap.size < w'.heap.size + 1 := by omega); (try have hyy : w.heap.size < w'.heap.size + 1 + 1 := by omega); (try have hz1 : w.heap.size + 1 < w'.heap.size := by omega); (try have hn : ¬ w'.heap.size = w.heap.size := by omega); (try have hn1 : ¬ w'.heap.size = w.heap.size + 1 := by omega); (try have hz2 : w.heap.size + 1 + 1 < w'.heap.size := by omega); (try have hq := Nat.lt_of_lt_of_le (by assumption) hs); (try have hq := Nat.lt_of_succ_le hs); obtain ⟨hc, hf⟩ := bcell hb; (try simp only [World.size_drew, World.cell?_drew, World.frozen?_drew, World.heap_drewN, World.cell?_drewN, World.frozen?_drewN] at hc hf))
    go_ret
    exact ⟨rfl, by (repeat (first | exact Below.refl _ _ | assumption | (refine Below.drewN ?_ _) | (refine Below.drew ?_) | (refine Below.alloc ?_ (by first | (simp; done) | (simp; omega) | omega) _) | (refine Below.setCell ?_ (by first | (simp; done) | (simp; omega) | omega) _) | (refine Below.trans ?_ (Below.mono (by assumption) (by first | (simp; done) | (simp; omega) | omega)))))⟩
  · unfold maxLen at w0
    have h : 1048576 < a0.size := by omega
    go_enter Tryd.func11, Tryd.ntmps11
    go_wp2
    go_ret
    exact ⟨rfl, by (repeat (first | exact Below.refl _ _ | assumption | (refine Below.drewN ?_ _) | (refine Below.drew ?_) | (refine Below.alloc ?_ (by first | (simp; done) | (simp; omega) | omega) _) | (refine Below.setCell ?_ (by first | (simp; done) | (simp; omega) | omega) _) | (refine Below.trans ?_ (Below.mono (by assumption) (by first | (simp; done) | (simp; omega) | omega)))))⟩
end Go.Proofs.YtghagmjpcebmjaaDoor
