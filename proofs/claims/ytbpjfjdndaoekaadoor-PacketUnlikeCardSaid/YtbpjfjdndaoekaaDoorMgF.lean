/- The statements of unlike packets and of cut ones. A burst of at most sixteen bits is never hidden from the sum: plain laws. The statement of turned bits. Conditions: the listed variables as laid. -/
import Derived.Test.YtbpjfjdndaoekaaDoorMgE
import Derived.RegionTactic
set_option linter.unusedVariables false
set_option linter.unusedSimpArgs false
namespace Go.Proofs.YtbpjfjdndaoekaaDoor
open Go.RowKit Go.Proofs.YtbpjfjdndaoekaaDoorW.PrintWords
open SlS SlT
theorem eqW_has {f g : Nat → Nat} (h : eqW f g = true) (n : Nat) (hn : n < 16384) : hasN f n = hasN g n := by
  unfold eqW at h
  rw [List.all_eq_true] at h
  have := h (n / 64) (List.mem_range.2 (by omega))
  unfold hasN
  rw [eq_of_beq this]
theorem unlike {c c' : Array Value} {K F O K' F' O' e cu e' cu' : Nat} {a a' : Array Value} {f f' : Nat → Nat} (hp : Pk c K F O e cu a f) (hp' : Pk c' K' F' O' e' cu' a' f') (hr : rightV K F O e cu = true) (hr' : rightV K' F' O' e' cu' = true) :
    ((⟨(encV K F O e cu (printH (hasN f))).toArray⟩ : ByteArray).toList == (⟨(encV K' F' O' e' cu' (printH (hasN f'))).toArray⟩ : ByteArray).toList) = eqP K F O e cu f K' F' O' e' cu' f' := by
  rw [str_eq_list, Bool.eq_iff_iff, decide_eq_true_eq, eqP_iff]
  constructor
  · intro h
    obtain ⟨rfl, rfl, rfl, rfl, rfl, hf⟩ := pk_inj hr hr' hp.he hp.hcu hp'.he hp'.hcu h
    exact ⟨rfl, rfl, rfl, rfl, rfl, (eqP_iff.1 (eqP_self K F O e cu f hf hp.words hp'.words)).2.2.2.2.2⟩
  · rintro ⟨h1, h2, h3, rfl, rfl, h6⟩
    obtain rfl : K = K' := by omega
    obtain rfl : F = F' := by omega
    obtain rfl : O = O' := by omega
    have : printH (hasN f) = printH (hasN f') := by
      have e1 : (List.range 16384).filter (hasN f) = (List.range 16384).filter (hasN f') := List.filter_congr fun n hn => eqW_has h6 n (List.mem_range.1 hn)
      unfold printH rngH
      rw [e1]
    show encV K F O e cu (printH (hasN f)) = encV K F O e cu (printH (hasN f'))
    rw [this]
set_option maxHeartbeats 4000000 in
set_option maxRecDepth 100000 in
theorem PacketUnlike_walk (c : Array Value) (k fr o : Int) (e cu : Nat) (a : Array Value) (f : Nat → Nat) (c' : Array Value) (k' fr' o' : Int) (e' cu' : Nat) (a' : Array Value) (f' : Nat → Nat) (hp : Pk c k fr o e cu a f) (hp' : Pk c' k' fr' o' e' cu' a' f') (w : World) (hE : Env w) :
    Calls Tryd.prog 8 #[.agg c, .agg c'] w fun r w' => r = .returned (.bool true) ∧ Below w.heap.size w w' := by
  have hi : (Tryd.prog.info? 26).map (·.size) = some c.size := by rw [hp.size]; exact info26
  have hi' : (Tryd.prog.info? 26).map (·.size) = some c'.size := by rw [hp'.size]; exact info26
  have hE1 := fun W h => Encode_calls c k fr o e cu a f hp W h
  have hE2 := fun W h => Encode_calls c' k' fr' o' e' cu' a' f' hp' W h
  obtain ⟨T, x, hT, hx⟩ := enc_ret k fr o e cu f
  obtain ⟨T', x', hT', hx'⟩ := enc_ret k' fr' o' e' cu' f'
  rw [hT] at hE1
  rw [hT'] at hE2
  have hx3 : x = 140 ∨ (x = 0 ∧ x' = 140) ∨ (x = 0 ∧ x' = 0 ∧ ∃ B, (T.toList == T'.toList) = B ∧ ∀ W, (binOp .eql 26 (.agg c) (.agg c')).run Tryd.prog W = .ok (.bool B) W) := by
    rcases hx with ⟨rfl, K, F, O, rfl, rfl, rfl, hr, rfl⟩ | ⟨rfl, -⟩
    · rcases hx' with ⟨rfl, K', F', O', rfl, rfl, rfl, hr', rfl⟩ | ⟨rfl, -⟩
      · exact Or.inr (Or.inr ⟨rfl, rfl, _, unlike hp hp' hr hr', fun W => eqlPk hp hp' W⟩)
      · exact Or.inr (Or.inl ⟨rfl, rfl⟩)
    · exact Or.inl rfl
  clear hT hT' hx hx' hp hp'
  have hX : XB w w.heap.size c ((w.alloc (.cells c 26)).alloc (.cells c' 26)) := (XB.new w c).keep (below_new' _ _)
  have hX' : XB w (w.heap.size + 1) c' ((w.alloc (.cells c 26)).alloc (.cells c' 26)) := ⟨hX.bel, heap1 w _ _, by simp⟩
  rcases hx3 with rfl | ⟨rfl, rfl⟩ | ⟨rfl, rfl, B, hB, hq⟩
  all_goals
    go_enter Tryd.func8, Tryd.ntmps8
    go_wp2_with (refine wpList_load_row rfl 26 (.tmp 2) rfl w.heap.size rfl 26 c (0, 0) _ hX.box Tryd.underlying26 rfl hi ?_)
    refine (hE1 _ (hE.below hX.bel)).mono ?_
    rintro r w1 ⟨rfl, hb⟩
    have hX1 := hX.keep hb
    have hX1' := hX'.keep hb
    clear hb hX hX' hE1
    go_wp2_with (refine wpList_load_row rfl 26 (.tmp 3) rfl (w.heap.size + 1) rfl 26 c' (0, 0) _ hX1'.box Tryd.underlying26 rfl hi' ?_)
    refine (hE2 _ (hE.below hX1.bel)).mono ?_
    rintro r w2 ⟨rfl, hb⟩
    have hX2 := hX1.keep hb
    have hX2' := hX1'.keep hb
    clear hb hX1 hX1' hE2
    go_wp2_with fail
    refine (alive_calls _ (hE.below hX2.bel)).mono ?_
    rintro r w3 ⟨rfl, hb⟩
    have hX3 := hX2.keep hb
    have hX3' := hX2'.keep hb
    clear hb hX2 hX2'
    go_wp2_with (first
      | (refine wpList_load_row_g (by first | rfl | simp [Region.wanted, yielded]) 26 (.tmp 2) rfl w.heap.size rfl 26 c (0, 0) _ hX3.box Tryd.underlying26 rfl hi ?_)
      | (refine wpList_load_row_g (by first | rfl | simp [Region.wanted, yielded]) 26 (.tmp 3) rfl (w.heap.size + 1) rfl 26 c' (0, 0) _ hX3'.box Tryd.underlying26 rfl hi' ?_))
    go_ret
    exact ⟨by simp, hX3.bel⟩
theorem cut_no {K F O e cu n : Nat} {t : List UInt8} (ht : t.length < 65536) (hn : n < (encV K F O e cu t).length) {c : Array Value} {x : Int} (h : DcIs ((encV K F O e cu t).take n) c x) : x = 140 := by
  rcases h with ⟨rfl, K', F', O', e', cu', a, f, hp, hr, he⟩ | ⟨rfl, -⟩
  · have h2 := print_len (hasN f)
    have := encV_prefix (k := K') (fr := F') (o := O') (e := e') (cu := cu') (t := printH (hasN f)) (t' := t) (more := (encV K F O e cu t).drop n) (Nat.lt_of_le_of_lt h2 (by decide)) ht (k' := K) (fr' := F) (o' := O) (e' := e) (cu' := cu) (by rw [he]; exact List.take_append_drop n _)
    have := congrArg List.length this
    rw [List.length_drop] at this
    simp at this
    omega
  · rfl
theorem more_no {K F O e cu : Nat} {t more : List UInt8} (ht : t.length < 65536) (hm : more ≠ []) {c : Array Value} {x : Int} (h : DcIs (encV K F O e cu t ++ more) c x) : x = 140 := by
  rcases h with ⟨rfl, K', F', O', e', cu', a, f, hp, hr, he⟩ | ⟨rfl, -⟩
  · have h2 := print_len (hasN f)
    exact absurd (encV_prefix (k := K) (fr := F) (o := O) (e := e) (cu := cu) (t := t) (t' := printH (hasN f)) (more := more) ht (Nat.lt_of_le_of_lt h2 (by decide)) he.symm) hm
  · rfl
set_option maxHeartbeats 4000000 in
set_option maxRecDepth 100000 in
theorem PacketCuts_walk (c : Array Value) (k fr o : Int) (e cu : Nat) (a : Array Value) (f : Nat → Nat) (n : Int) (hn : -9223372036854775808 ≤ n ∧ n ≤ 9223372036854775807) (more : ByteArray) (hmore : more.size ≤ 140737488351232) (hp : Pk c k fr o e cu a f) (w : World) (hE : Env w) :
    Calls Tryd.prog 7 #[.agg c, .int .i64 n, .string more] w fun r w' => r = .returned (.bool true) ∧ Below w.heap.size w w' := by
  have hi : (Tryd.prog.info? 26).map (·.size) = some c.size := by rw [hp.size]; exact info26
  have hE1 := fun W h => Encode_calls c k fr o e cu a f hp W h
  obtain ⟨T, x, hT, hx⟩ := enc_ret k fr o e cu f
  rw [hT] at hE1
  have hX := XB.new w c
  have hx2 : x = 140 ∨ (x = 0 ∧ T.size ≤ 70000 ∧ (∀ n : Nat, n < T.size → ∀ d y, DcIs (T.extract 0 n).data.toList d y → y = 140) ∧ (more.data.toList ≠ [] → ∀ d y, DcIs (T ++ more).data.toList d y → y = 140) ∧ (∀ d y, DcIs T.data.toList d y → y = 0)) := by
    rcases hx with ⟨rfl, K, F, O, rfl, rfl, rfl, hr, rfl⟩ | ⟨rfl, -⟩
    · have h1 := encV_len K F O e cu (printH (hasN f))
      have h2 : (printH (hasN f)).length ≤ 65390 := print_len (hasN f)
      refine Or.inr ⟨rfl, by rw [size_mk]; omega, fun m hm d y h => ?_, fun hne d y h => ?_, fun d y h => ?_⟩
      · rw [size_mk] at hm
        rw [ext_list] at h
        exact cut_no (by omega) hm h
      · rw [ByteArray.data_append] at h
        simp only [Array.toList_append] at h
        exact more_no (by omega) hne h
      · exact (h.same (Or.inl ⟨rfl, K, F, O, e, cu, a, f, hp, hr, rfl⟩)).1
    · exact Or.inl rfl
  clear hT hx hp
  have hc : x = 140 ∨ (x = 0 ∧ n < 0) ∨ (x = 0 ∧ ¬ n < 0 ∧ (T.size : Int) ≤ n) ∨ (x = 0 ∧ ¬ n < 0 ∧ n < (T.size : Int) ∧ 1000 < (more.size : Int)) ∨ (x = 0 ∧ ¬ n < 0 ∧ n < (T.size : Int) ∧ ¬ 1000 < (more.size : Int)) := by
    rcases hx2 with h | ⟨h, -⟩
    · exact Or.inl h
    · omega
  rcases hc with rfl | ⟨rfl, h1⟩ | ⟨rfl, h1, h2⟩ | ⟨rfl, h1, h2, h3⟩ | ⟨rfl, h1, h2, h3⟩
  iterate 4
    · clear hx2
      go_enter Tryd.func7, Tryd.ntmps7
      go_wp2_with (refine wpList_load_row rfl 26 (.tmp 3) rfl w.heap.size rfl 26 c (0, 0) _ hX.box Tryd.underlying26 rfl hi ?_)
      refine (hE1 _ (hE.below hX.bel)).mono ?_
      rintro r w1 ⟨rfl, hb⟩
      have hX1 := hX.keep hb
      clear hb hX hE1
      go_wp2_with fail
      refine (alive_calls _ (hE.below hX1.bel)).mono ?_
      rintro r w3 ⟨rfl, hb⟩
      have hX3 := hX1.keep hb
      go_wp2_with fail
      go_ret
      exact ⟨rfl, hX3.bel⟩
  · obtain ⟨n, rfl⟩ : ∃ m : Nat, n = m := ⟨n.toNat, by omega⟩
    obtain ⟨-, hTs, hcut, hadd, hself⟩ := hx2.resolve_left (by decide)
    have hD1 := fun W h => Decode_calls (T.extract 0 n) (by rw [ByteArray.size_extract]; omega) W h
    have hD2 := fun W h => Decode_calls (T ++ more) (by rw [ByteArray.size_append]; omega) W h
    have hcut' := hcut n (by omega)
    have hsum : ¬ (9223372036854775807 : Int) < (T.size : Int) + (more.size : Int) := by omega
    have hsumN : ¬ 9223372036854775807 < T.size + more.size := by omega
    have hlast : ∃ B : Bool, (more.toList == ([] : List UInt8)) = B ∧ ∀ d y, DcIs (T ++ more).data.toList d y → (y == 0) = B := by
      by_cases hme : more.data.toList = []
      · refine ⟨true, by rw [ByteArray.toList_eq, hme]; rfl, fun d y h => ?_⟩
        rw [ByteArray.data_append, Array.toList_append, hme, List.append_nil] at h
        rw [hself d y h]
        rfl
      · refine ⟨false, by rw [ByteArray.toList_eq]; simpa using hme, fun d y h => ?_⟩
        rw [hadd hme d y h]
        rfl
    obtain ⟨B, hB, hBy⟩ := hlast
    clear hcut hadd hself hx2
    replace hcut' := Lib.hid hcut'
    replace hBy := Lib.hid hBy
    have b1 : (0 : Int) ≤ (n : Int) := by omega
    have b2 : (n : Int) ≤ (T.size : Int) := by omega
    go_enter Tryd.func7, Tryd.ntmps7
    go_wp2_with (refine wpList_load_row rfl 26 (.tmp 3) rfl w.heap.size rfl 26 c (0, 0) _ hX.box Tryd.underlying26 rfl hi ?_)
    refine (hE1 _ (hE.below hX.bel)).mono ?_
    rintro r w1 ⟨rfl, hb⟩
    have hX1 := hX.keep hb
    clear hb hX hE1
    go_wp2_with fail
    refine (hD1 _ (hE.below hX1.bel)).mono ?_
    rintro r w2 hpost
    obtain ⟨c1, x1, rfl, hc1, hb2⟩ := hpost.res
    obtain ⟨hcs1, hco1⟩ := hc1.box
    obtain rfl := hcut'.out _ _ hc1
    have hX2 := ((hX1.keep hb2).next c1).1
    clear hpost hD1 hb2 hX1 hc1
    go_wp2_with (refine wpList_store_row rfl 26 _ _ rfl (w2.heap.size) c1 rfl rfl 26 Tryd.zeroCells26 (heapN w2 _) (info_c hcs1) (zero_c hcs1) hco1 ?_)
    generalize (w2.alloc (.cells Tryd.zeroCells26 26)).setRow w2.heap.size c1 = w3 at *
    refine (hD2 _ (hE.below hX2.bel)).mono ?_
    rintro r w4 hpost
    obtain ⟨c2, x2, rfl, hc2, hb4⟩ := hpost.res
    obtain ⟨hcs2, hco2⟩ := hc2.box
    have hx2 := hBy.out _ _ hc2
    have hX4 := ((hX2.keep hb4).next c2).1
    clear hpost hD2 hb4 hX2 hc2
    go_wp2_with (refine wpList_store_row rfl 26 _ _ rfl (w4.heap.size) c2 rfl rfl 26 Tryd.zeroCells26 (heapN w4 _) (info_c hcs2) (zero_c hcs2) hco2 ?_)
    refine (alive_calls _ (hE.below hX4.bel)).mono ?_
    rintro r w5 ⟨rfl, hb⟩
    have hX5 := hX4.keep hb
    clear hb hX4
    go_wp2_with fail
    go_ret
    exact ⟨by simp, hX5.bel⟩
end Go.Proofs.YtbpjfjdndaoekaaDoor

namespace Go.Proofs.YtbpjfjdndaoekaaDoor
def b15 (b : Bool) : Nat := if b then 32768 else 0
def crcB (c : Nat) (b : Bool) : Nat := bit1 (c ^^^ b15 b)
def fold1 (c : Nat) (l : List Bool) : Nat := l.foldl crcB c
theorem b15_lt (b : Bool) : b15 b < 65536 := by cases b <;> decide
theorem bit1_eq {c : Nat} (h : c < 65536) : bit1 c = (c * 2 % 65536) ^^^ (if c.testBit 15 then 4129 else 0) := by
  unfold bit1
  have ht : c.testBit 15 = decide (32768 ≤ c) := by
    rw [Nat.testBit_eq_decide_div_mod_eq]
    rw [Bool.eq_iff_iff]
    simp
    omega
  rw [ht]
  by_cases h1 : 32768 ≤ c
  · simp [h1]
  · simp [h1]
    omega
theorem bit1_xor {a b : Nat} (ha : a < 65536) (hb : b < 65536) : bit1 (a ^^^ b) = bit1 a ^^^ bit1 b := by
  rw [bit1_eq (xor16 ha hb), bit1_eq ha, bit1_eq hb]
  have h2 : ∀ x : Nat, x * 2 = x <<< 1 := fun x => by rw [Nat.shiftLeft_eq]
  have hm : ∀ x y : Nat, (x ^^^ y) % 65536 = (x % 65536) ^^^ (y % 65536) := fun x y => Nat.xor_mod_two_pow (n := 16)
  rw [h2, h2, h2, Nat.shiftLeft_xor_distrib, hm, Nat.testBit_xor]
  cases a.testBit 15 <;> cases b.testBit 15 <;> simp
  · rw [Nat.xor_assoc]
  · rw [Nat.xor_assoc, Nat.xor_assoc, Nat.xor_comm 4129]
  · generalize (a <<< 1 % 65536) = p
    generalize (b <<< 1 % 65536) = q
    rw [Nat.xor_assoc p 4129, ← Nat.xor_assoc 4129 q, Nat.xor_comm 4129 q, Nat.xor_assoc q, Nat.xor_self, Nat.xor_zero]
theorem crcB_lt {c : Nat} (h : c < 65536) (b : Bool) : crcB c b < 65536 := bit1_lt (xor16 h (b15_lt b))
theorem fold1_lt : ∀ (l : List Bool) {c : Nat}, c < 65536 → fold1 c l < 65536
  | [], _, h => h
  | b :: l, _, h => fold1_lt l (crcB_lt h b)
theorem fold1_app (c : Nat) (l r : List Bool) : fold1 c (l ++ r) = fold1 (fold1 c l) r := by simp [fold1]
theorem b15_xor (x y : Bool) : b15 (x != y) = b15 x ^^^ b15 y := by cases x <;> cases y <;> rfl
theorem fold1_xor {α : Type} (f g : α → Bool) : ∀ (l : List α) {a c : Nat}, a < 65536 → c < 65536 → fold1 (a ^^^ c) (l.map fun p => (f p != g p)) = fold1 a (l.map f) ^^^ fold1 c (l.map g)
  | [], _, _, _, _ => rfl
  | p :: l, a, c, ha, hc => by
    have e : crcB (a ^^^ c) (f p != g p) = crcB a (f p) ^^^ crcB c (g p) := by
      unfold crcB
      rw [b15_xor, ← bit1_xor (xor16 ha (b15_lt _)) (xor16 hc (b15_lt _))]
      congr 1
      rw [Nat.xor_assoc, Nat.xor_assoc]
      congr 1
      rw [← Nat.xor_assoc, ← Nat.xor_assoc, Nat.xor_comm c]
    have := fold1_xor f g l (crcB_lt ha (f p)) (crcB_lt hc (g p))
    simp only [List.map_cons, fold1, List.foldl_cons]
    rw [e]
    exact this
theorem odd_x (c : Nat) : ((c * 2 % 65536) ^^^ 4129) % 2 = 1 := by
  have h : ((c * 2 % 65536) ^^^ 4129) % 2 = ((c * 2 % 65536) % 2) ^^^ (4129 % 2) := Nat.xor_mod_two_pow (n := 1)
  rw [h, show c * 2 % 65536 % 2 = 0 by omega]
  rfl
theorem bit1_zero {c : Nat} (h : c < 65536) (h0 : bit1 c = 0) : c = 0 := by
  unfold bit1 at h0
  split at h0
  · have := odd_x c
    omega
  · omega
theorem fold1_zeros {α : Type} (f : α → Bool) : ∀ (l : List α) {c : Nat}, (∀ p ∈ l, f p = false) → c < 65536 → fold1 c (l.map f) = 0 → c = 0
  | [], _, _, _, h => h
  | p :: l, c, hf, hc, h => by
    have h1 : crcB c (f p) = 0 := fold1_zeros f l (fun q hq => hf q (List.mem_cons_of_mem _ hq)) (crcB_lt hc _) h
    rw [hf p List.mem_cons_self] at h1
    unfold crcB b15 at h1
    simp at h1
    exact bit1_zero hc h1
theorem fold1_zero {α : Type} (f : α → Bool) : ∀ (l : List α), (∀ p ∈ l, f p = false) → fold1 0 (l.map f) = 0
  | [], _ => rfl
  | p :: l, hf => by
    have : crcB 0 (f p) = 0 := by rw [hf p List.mem_cons_self]; rfl
    simp only [List.map_cons, fold1, List.foldl_cons, this]
    exact fold1_zero f l fun q hq => hf q (List.mem_cons_of_mem _ hq)
/-- the number of which the first bits are these -/
def valB : List Bool → Nat
  | [] => 0
  | b :: l => b15 b + valB l / 2
theorem valB_lt : ∀ l : List Bool, valB l < 65536
  | [] => by decide
  | b :: l => by have := valB_lt l; have : b15 b ≤ 32768 := by cases b <;> decide
                 simp only [valB]; omega
theorem valB_dvd : ∀ l : List Bool, ∀ k, l.length + k ≤ 16 → valB l % 2 ^ k = 0
  | [], k, _ => by simp [valB]
  | b :: l, k, h => by
    have h1 := valB_dvd l (k + 1) (by simp at h; omega)
    have hk : k ≤ 15 := by simp at h; omega
    simp only [valB]
    rw [Nat.pow_succ] at h1
    have hd : 2 ^ k ∣ 32768 := ⟨2 ^ (15 - k), by rw [← Nat.pow_add, show k + (15 - k) = 15 by omega]⟩
    have hb : b15 b % 2 ^ k = 0 := by
      cases b
      · simp [b15]
      · exact Nat.mod_eq_zero_of_dvd hd
    have hv : valB l / 2 % 2 ^ k = 0 := by
      obtain ⟨q, hq⟩ := Nat.dvd_of_mod_eq_zero h1
      rw [hq, Nat.mul_comm (2 ^ k) 2, Nat.mul_assoc, Nat.mul_div_cancel_left _ (by decide)]
      exact Nat.mul_mod_right _ _
    rw [Nat.add_mod, hb, hv]
    simp
theorem xor_top {c : Nat} (b : Bool) (y : Nat) (hy : y < 32768) (h : c ^^^ b15 b = y) : c = b15 b + y := by
  have h1 : c = y ^^^ b15 b := by rw [← h, Nat.xor_assoc, Nat.xor_self, Nat.xor_zero]
  rw [h1]
  cases b
  · simp [b15]
  · have := Nat.two_pow_add_eq_or_of_lt (i := 15) (b := y) (by simpa using hy) 1
    have e2 : y ^^^ 32768 = 32768 ||| y := by
      apply Nat.eq_of_testBit_eq
      intro j
      rw [Nat.testBit_xor, Nat.testBit_or]
      have e3 : (32768 : Nat).testBit j = decide (j = 15) := by
        rw [show (32768 : Nat) = 2 ^ 15 from rfl, Nat.testBit_two_pow]
        exact decide_eq_decide.2 ⟨fun h => h.symm, fun h => h.symm⟩
      rw [e3]
      by_cases hj : j = 15
      · subst hj
        have : y.testBit 15 = false := Nat.testBit_lt_two_pow (by simpa using hy)
        rw [this]
        rfl
      · simp [hj]
    rw [show b15 true = 32768 from rfl, e2]
    simp at this
    omega
theorem fold1_val : ∀ (l : List Bool) {c : Nat}, l.length ≤ 16 → c < 65536 → fold1 c l = 0 → c = valB l
  | [], _, _, _, h => h
  | b :: l, c, hl, hc, h => by
    have h1 : crcB c b = valB l := fold1_val l (by simp at hl; omega) (crcB_lt hc b) h
    have h2 := valB_dvd l 1 (by simpa using hl)
    have h3 := valB_lt l
    unfold crcB at h1
    have hx := xor16 hc (b15_lt b)
    generalize hy : c ^^^ b15 b = y at h1 hx
    unfold bit1 at h1
    split at h1
    · have := odd_x y
      omega
    · exact xor_top b (valB l / 2) (by omega) (by omega)
theorem valB_zero : ∀ l : List Bool, l.length ≤ 16 → valB l = 0 → ∀ b ∈ l, b = false
  | [], _, _, _, h => by cases h
  | b :: l, hl, h, x, hx => by
    simp only [valB] at h
    have h2 := valB_dvd l 1 (by simpa using hl)
    have hb : b = false := by
      cases b with
      | false => rfl
      | true => simp [b15] at h
    rcases List.mem_cons.1 hx with rfl | hx
    · exact hb
    · exact valB_zero l (by simp at hl; omega) (by omega) x hx
/-- a burst is seen -/
theorem burst {D : Nat → Bool} {N at_ : Nat} (hN : at_ < N) (hD : ∀ p, p < N → ¬ (at_ ≤ p ∧ p < at_ + 16) → D p = false) (h : fold1 0 ((List.range N).map D) = 0) : ∀ p, p < N → D p = false := by
  obtain ⟨m, hm1, hm2, hm3⟩ : ∃ m, m ≤ 16 ∧ at_ + m ≤ N ∧ (m = 16 ∨ at_ + m = N) := by
    by_cases h16 : at_ + 16 ≤ N
    · exact ⟨16, by omega, h16, Or.inl rfl⟩
    · exact ⟨N - at_, by omega, by omega, Or.inr (by omega)⟩
  have e : List.range N = List.range' 0 at_ ++ (List.range' at_ m ++ List.range' (at_ + m) (N - at_ - m)) := by
    rw [List.range_eq_range']
    have e1 : List.range' at_ m ++ List.range' (at_ + m) (N - at_ - m) = List.range' at_ (N - at_) := by
      have := List.range'_append_1 (s := at_) (m := m) (n := N - at_ - m)
      rw [this]
      congr 1
      omega
    rw [e1]
    have := List.range'_append_1 (s := 0) (m := at_) (n := N - at_)
    rw [Nat.zero_add] at this
    rw [this]
    congr 1
    omega
  rw [e, List.map_append, List.map_append, fold1_app, fold1_app] at h
  have z1 : fold1 0 ((List.range' 0 at_).map D) = 0 := fold1_zero D _ fun p hp => hD p (by have := List.mem_range'_1.1 hp; omega) (by have := List.mem_range'_1.1 hp; omega)
  rw [z1] at h
  have hlt := fold1_lt ((List.range' at_ m).map D) (c := 0) (by decide)
  have z2 := fold1_zeros D (List.range' (at_ + m) (N - at_ - m)) (fun p hp => hD p (by have := List.mem_range'_1.1 hp; omega) (by have := List.mem_range'_1.1 hp; omega)) hlt h
  have z3 := fold1_val _ (by simpa using hm1) (by decide) z2
  have z4 := valB_zero _ (by simpa using hm1) z3.symm
  intro p hp
  by_cases hw : at_ ≤ p ∧ p < at_ + 16
  · exact z4 _ (List.mem_map.2 ⟨p, List.mem_range'_1.2 (by omega), rfl⟩)
  · exact hD p hp hw
/-! ### bytes and their bits -/
def bitAt (l : List UInt8) (p : Nat) : Bool := (l.getD (p / 8) 0).toNat.testBit (7 - p % 8)
theorem step_nib {c : Nat} (h : c < 65536) (x : UInt8) : stepV c x = bit1 (bit1 (bit1 (bit1 (bit1 (bit1 (bit1 (bit1 (c ^^^ (x.toNat * 256))))))))) := by
  have hx := x.toNat_lt
  have h1 := nib_eq (xor16 h (show x.toNat * 256 < 65536 by omega))
  unfold stepV
  rw [(nib_eq h1.2).1, h1.1]
theorem byte_all : ((List.range 256).all fun x => decide (bit1 (bit1 (bit1 (bit1 (bit1 (bit1 (bit1 (bit1 (0 ^^^ (x * 256))))))))) = fold1 0 ((List.range 8).map fun j => x.testBit (7 - j)))) = true := by decide +kernel
theorem step_fold {c : Nat} (h : c < 65536) (x : UInt8) : stepV c x = fold1 c ((List.range 8).map fun j => x.toNat.testBit (7 - j)) := by
  have hx := x.toNat_lt
  have h0 := byte_all
  rw [List.all_eq_true] at h0
  have h0 := h0 x.toNat (List.mem_range.2 hx)
  rw [decide_eq_true_eq] at h0
  have h1 := fold1_xor (fun _ => false) (fun j => x.toNat.testBit (7 - j)) (List.range 8) h (show 0 < 65536 by decide)
  simp only [Bool.false_bne, Nat.xor_zero] at h1
  rw [h1, ← h0, step_nib h]
  have e : fold1 c ((List.range 8).map fun _ => false) = bit1 (bit1 (bit1 (bit1 (bit1 (bit1 (bit1 (bit1 c))))))) := by
    have : ∀ x, crcB x false = bit1 x := fun x => by simp [crcB, b15]
    show crcB (crcB (crcB (crcB (crcB (crcB (crcB (crcB c false) false) false) false) false) false) false) false = _
    simp only [this]
  have b1 := bit1_lt h
  have b2 := bit1_lt b1
  have b3 := bit1_lt b2
  have b4 := bit1_lt b3
  have b5 := bit1_lt b4
  have b6 := bit1_lt b5
  have b7 := bit1_lt b6
  have g0 : x.toNat * 256 < 65536 := by omega
  have g1 := bit1_lt g0
  have g2 := bit1_lt g1
  have g3 := bit1_lt g2
  have g4 := bit1_lt g3
  have g5 := bit1_lt g4
  have g6 := bit1_lt g5
  have g7 := bit1_lt g6
  rw [e, Nat.zero_xor, bit1_xor h g0, bit1_xor b1 g1, bit1_xor b2 g2, bit1_xor b3 g3, bit1_xor b4 g4, bit1_xor b5 g5, bit1_xor b6 g6, bit1_xor b7 g7]
theorem sum_fold : ∀ (n : Nat) (l : List UInt8), l.length = n → sumV 0 l = fold1 0 ((List.range (8 * n)).map (bitAt l))
  | 0, l, h => by rw [List.length_eq_zero_iff.1 h]; rfl
  | n + 1, l, h => by
    have hne : l ≠ [] := fun e => by rw [e] at h; cases h
    obtain ⟨q, b, rfl⟩ : ∃ q b, l = q ++ [b] := ⟨l.dropLast, l.getLast hne, (List.dropLast_concat_getLast hne).symm⟩
    have hq : q.length = n := by simpa using h
    have e : List.range (8 * (n + 1)) = List.range (8 * n) ++ (List.range 8).map (8 * n + ·) := by
      rw [show 8 * (n + 1) = 8 * n + 8 by omega, List.range_add]
    rw [sum_snoc, sum_fold n q hq, step_fold (fold1_lt _ (by decide)), e, List.map_append, fold1_app]
    congr 1
    · congr 1
      refine List.map_congr_left fun p hp => ?_
      have hp := List.mem_range.1 hp
      unfold bitAt
      rw [List.getD_eq_getElem?_getD, List.getD_eq_getElem?_getD, List.getElem?_append_left (by omega)]
    · rw [List.map_map]
      refine List.map_congr_left fun j hj => ?_
      have hj := List.mem_range.1 hj
      simp only [Function.comp, bitAt]
      rw [show (8 * n + j) / 8 = n by omega, show (8 * n + j) % 8 = j by omega, List.getD_eq_getElem?_getD, List.getElem?_append_right (by omega), hq]
      simp
theorem sum_self {s : Nat} (h : s < 65536) : stepV (stepV s (UInt8.ofNat (s / 256))) (UInt8.ofNat s) = 0 := by
  have e1 : (UInt8.ofNat (s / 256)).toNat = s / 256 := by simp; omega
  have e2 : (UInt8.ofNat s).toNat = s % 256 := by simp
  have x1 : s ^^^ (s / 256 * 256) = s % 256 := by
    have h1 : s = 2 ^ 8 * (s / 256) + s % 256 := by omega
    have h2 := Nat.two_pow_add_eq_or_of_lt (i := 8) (b := s % 256) (by omega) (s / 256)
    apply Nat.eq_of_testBit_eq
    intro j
    rw [Nat.testBit_xor, show s / 256 * 256 = (s / 2 ^ 8) <<< 8 by rw [Nat.shiftLeft_eq], show s % 256 = s % 2 ^ 8 from rfl, Nat.testBit_shiftLeft, Nat.testBit_mod_two_pow, Nat.testBit_div_two_pow]
    by_cases hj : j < 8
    · have : ¬ 8 ≤ j := by omega
      simp [hj, this]
    · have : 8 ≤ j := by omega
      simp [hj, this, show 8 + (j - 8) = j by omega]
  have n1 : ∀ y, y < 256 → nib (nib y) = y * 256 := by
    intro y hy
    unfold nib
    rw [show y / 4096 = 0 by omega]
    have : halvesN.getD 0 0 = 0 := rfl
    rw [this, Nat.xor_zero, show y * 16 % 65536 / 4096 = 0 by omega, this, Nat.xor_zero]
    omega
  have s1 : stepV s (UInt8.ofNat (s / 256)) = s % 256 * 256 := by
    unfold stepV
    rw [e1, x1, n1 _ (by omega)]
  rw [s1]
  unfold stepV
  rw [e2, Nat.xor_self]
  rfl
theorem enc_zero (K F O e cu : Nat) (t : List UInt8) : sumV 0 (encV K F O e cu t) = 0 := by
  unfold encV
  have hlt := sum_lt (headV K F O e cu t) (c := 0) (by decide)
  have e2 : byV (sumV 0 (headV K F O e cu t)) 2 = [UInt8.ofNat (sumV 0 (headV K F O e cu t) / 256), UInt8.ofNat (sumV 0 (headV K F O e cu t))] := by
    rw [byV_succ, byV_succ]
    rfl
  rw [e2, show ∀ (l : List UInt8) (a b : UInt8), l ++ [a, b] = (l ++ [a]) ++ [b] from fun l a b => by simp, sum_snoc, sum_snoc]
  exact sum_self hlt
/-- the bytes of a packet with some bits turned, within sixteen, are no packet's -/
theorem burst_no {l b : List UInt8} {at_ : Nat} {D : Nat → Bool} (hlen : b.length = l.length) (hat : at_ < 8 * l.length) (hb : ∀ p, p < 8 * l.length → bitAt b p = (bitAt l p != D p)) (hD : ∀ p, p < 8 * l.length → ¬ (at_ ≤ p ∧ p < at_ + 16) → D p = false)
    (h0 : sumV 0 l = 0) (h1 : sumV 0 b = 0) : ∀ p, p < 8 * l.length → D p = false := by
  refine burst hat hD ?_
  rw [sum_fold _ l rfl] at h0
  rw [sum_fold _ b hlen] at h1
  have e : (List.range (8 * l.length)).map (bitAt b) = (List.range (8 * l.length)).map fun p => (bitAt l p != D p) := List.map_congr_left fun p hp => hb p (List.mem_range.1 hp)
  rw [e] at h1
  have := fold1_xor (bitAt l) D (List.range (8 * l.length)) (show 0 < 65536 by decide) (show 0 < 65536 by decide)
  rw [Nat.xor_self, h1, h0, Nat.zero_xor] at this
  exact this.symm
end Go.Proofs.YtbpjfjdndaoekaaDoor

namespace Go.Proofs.YtbpjfjdndaoekaaDoor
open Go.RowKit Go.Proofs.YtbpjfjdndaoekaaDoorW.PrintWords
open SlS SlT
/-- the bits that are turned in the first rounds -/
def turnB (at_ t i p : Nat) : Bool := decide (at_ ≤ p) && decide (p < at_ + i) && t.testBit (p - at_)
/-- bytes in a block, to be written -/
def Byt (g : Nat) (l : List UInt8) (W : World) : Prop := ∀ j, j < l.length → W.cell? ⟨g, j, none⟩ = some (.int .u8 ((l.getD j 0).toNat : Int)) ∧ W.frozen? ⟨g, j, none⟩ = false
theorem xor8 {X Y : Nat} (hX : X < 256) (hY : Y < 256) : bits BinOp.xor IntKind.u8 (X : Int) (Y : Int) = ((X ^^^ Y : Nat) : Int) := by
  have hlt : X ^^^ Y < 256 := Nat.xor_lt_two_pow (n := 8) hX hY
  show IntKind.u8.wrap ((((BitVec.ofInt 8 (X : Int)) ^^^ (BitVec.ofInt 8 (Y : Int))).toNat : Nat) : Int) = _
  rw [BitVec.ofInt_natCast, BitVec.ofInt_natCast, BitVec.toNat_xor, BitVec.toNat_ofNat, BitVec.toNat_ofNat, Nat.mod_eq_of_lt (by simpa using hX), Nat.mod_eq_of_lt (by simpa using hY)]
  simp [IntKind.wrap, IntKind.bits, IntKind.signed]
  omega
theorem byte_small {n : Nat} (h : n < 256) : (UInt8.ofNat n).toNat = n := by
  simp
  omega
theorem pow7 (r : Nat) (h : r < 8) : 128 / 2 ^ r = 2 ^ (7 - r) := by
  rcases (show r = 0 ∨ r = 1 ∨ r = 2 ∨ r = 3 ∨ r = 4 ∨ r = 5 ∨ r = 6 ∨ r = 7 by omega) with rfl | rfl | rfl | rfl | rfl | rfl | rfl | rfl <;> rfl
theorem flip_bits {b : List UInt8} {N k X : Nat} (hbl : b.length = N) (hk : k < 8 * N) (hX : X = (b.getD (k / 8) 0).toNat) (p : Nat) (hp : p < 8 * N) :
    bitAt (b.set (k / 8) (UInt8.ofNat (X ^^^ 128 / 2 ^ (k % 8)))) p = if p = k then !bitAt b p else bitAt b p := by
  have hX8 : X < 256 := by rw [hX]; exact (b.getD (k / 8) 0).toNat_lt
  have hY8 : 2 ^ (7 - k % 8) < 256 := Nat.lt_of_le_of_lt (Nat.pow_le_pow_right (by decide) (show 7 - k % 8 ≤ 7 by omega)) (by decide)
  unfold bitAt
  by_cases hq : p / 8 = k / 8
  · have e1 : (b.set (k / 8) (UInt8.ofNat (X ^^^ 128 / 2 ^ (k % 8)))).getD (p / 8) 0 = UInt8.ofNat (X ^^^ 128 / 2 ^ (k % 8)) := by
      rw [hq, List.getD_eq_getElem?_getD, List.getElem?_set_self (by omega)]
      rfl
    have hlt : X ^^^ 2 ^ (7 - k % 8) < 256 := Nat.xor_lt_two_pow (n := 8) hX8 hY8
    have e2 : (UInt8.ofNat (X ^^^ 128 / 2 ^ (k % 8))).toNat = X ^^^ 2 ^ (7 - k % 8) := by
      rw [pow7 _ (by omega)]
      exact byte_small hlt
    rw [e1, e2, hq, ← hX, Nat.testBit_xor, Nat.testBit_two_pow]
    by_cases hpk : p = k
    · subst hpk
      simp
    · rw [if_neg hpk]
      have : ¬ (7 - k % 8 = 7 - p % 8) := by omega
      simp [this]
  · have e1 : (b.set (k / 8) (UInt8.ofNat (X ^^^ 128 / 2 ^ (k % 8)))).getD (p / 8) 0 = b.getD (p / 8) 0 := by
      rw [List.getD_eq_getElem?_getD, List.getD_eq_getElem?_getD, List.getElem?_set_ne (fun h => hq h.symm)]
    rw [e1, if_neg (fun h => hq (by rw [h]))]
theorem turn_next (n t m p : Nat) : turnB n t (m + 1) p = (turnB n t m p || (decide (p = n + m) && t.testBit m)) := by
  unfold turnB
  by_cases h : p = n + m
  · subst h
    simp
  · by_cases h1 : n ≤ p
    · by_cases h2 : p < n + m
      · simp [h, h1, h2, show p < n + (m + 1) by omega]
      · simp [h, h2, show ¬ p < n + (m + 1) by omega]
    · simp [h, h1]
theorem turn_same {n t m p : Nat} (h : t.testBit m = false ∨ p ≠ n + m) : turnB n t (m + 1) p = turnB n t m p := by
  rw [turn_next]
  rcases h with h | h <;> simp [h]
theorem turn_at (n t m : Nat) : turnB n t m (n + m) = false := by unfold turnB; simp
theorem turn_out {n t p : Nat} (h : ¬ (n ≤ p ∧ p < n + 16)) : turnB n t 16 p = false := by
  unfold turnB
  have : (decide (n ≤ p) && decide (p < n + 16)) = false := by rw [Bool.and_eq_false_iff, decide_eq_false_iff_not, decide_eq_false_iff_not]; omega
  rw [this]
  rfl
theorem Byt.set {g : Nat} {b : List UInt8} {W : World} (h : Byt g b W) (q : Nat) (hq : q < b.length) (v : UInt8) : Byt g (b.set q v) (W.setCell ⟨g, q, none⟩ (.int .u8 (v.toNat : Int))).drew := by
  intro j hj
  rw [List.length_set] at hj
  obtain ⟨c1, c2⟩ := h j hj
  have hfz : (W.setCell ⟨g, q, none⟩ (.int .u8 (v.toNat : Int))).drew.frozen? ⟨g, j, none⟩ = W.frozen? ⟨g, j, none⟩ := by simp
  refine ⟨?_, by rw [hfz]; exact c2⟩
  show (W.setCell ⟨g, q, none⟩ (.int .u8 (v.toNat : Int))).cell? ⟨g, j, none⟩ = _
  by_cases hjq : j = q
  · subst hjq
    obtain ⟨d1, d2⟩ := h j hq
    rw [World.cell?_setCell_same (h := by rw [d1]; first | done | rfl)]
    rw [List.getD_eq_getElem?_getD, List.getElem?_set_self hq]
    try rfl
  · rw [World.cell?_setCell_other W _ _ _ (by intro e; injection e with _ e; exact hjq e.symm)]
    rw [List.getD_eq_getElem?_getD, List.getElem?_set_ne (fun h => hjq h.symm), ← List.getD_eq_getElem?_getD]
    exact c1
theorem and_one (t m : Nat) (h : t < 65536) : bits BinOp.and IntKind.u16 ((t : Int) / 2 ^ m) 1 = ((t / 2 ^ m % 2 : Nat) : Int) := by
  have e : (t : Int) / 2 ^ m = ((t / 2 ^ m : Nat) : Int) := by simp
  have hlt : t / 2 ^ m < 65536 := Nat.lt_of_le_of_lt (Nat.div_le_self _ _) h
  rw [e]
  generalize t / 2 ^ m = x at *
  show IntKind.u16.wrap ((((BitVec.ofInt 16 (x : Int)) &&& (BitVec.ofInt 16 ((1 : Nat) : Int))).toNat : Nat) : Int) = _
  rw [BitVec.ofInt_natCast, BitVec.ofInt_natCast, BitVec.toNat_and, BitVec.toNat_ofNat, BitVec.toNat_ofNat, Nat.mod_eq_of_lt (by simpa using hlt), wrap16]
  rw [show 1 % 2 ^ 16 = 2 ^ 1 - 1 from rfl, Nat.and_two_pow_sub_one_eq_mod]
  omega
set_option maxHeartbeats 4000000 in
set_option maxRecDepth 100000 in
theorem PacketBursts_walk (c : Array Value) (k fr o : Int) (e cu : Nat) (a : Array Value) (f : Nat → Nat) (n t : Int) (hn : -9223372036854775808 ≤ n ∧ n ≤ 9223372036854775807) (ht : 0 ≤ t ∧ t ≤ 65535) (hp : Pk c k fr o e cu a f) (w : World) (hE : Env w) :
    Calls Tryd.prog 6 #[.agg c, .int .i64 n, .int .u16 t] w fun r w' => r = .returned (.bool true) ∧ Below w.heap.size w w' := by
  have hi : (Tryd.prog.info? 26).map (·.size) = some c.size := by rw [hp.size]; exact info26
  have hE1 := fun W h => Encode_calls c k fr o e cu a f hp W h
  obtain ⟨T, x, hT, hx⟩ := enc_ret k fr o e cu f
  rw [hT] at hE1
  have hX := XB.new w c
  have hx2 : x = 140 ∨ (x = 0 ∧ T.size ≤ 70000 ∧ sumV 0 T.data.toList = 0) := by
    rcases hx with ⟨rfl, K, F, O, rfl, rfl, rfl, hr, rfl⟩ | ⟨rfl, -⟩
    · have h1 := encV_len K F O e cu (printH (hasN f))
      have h2 : (printH (hasN f)).length ≤ 65390 := print_len (hasN f)
      exact Or.inr ⟨rfl, by rw [size_mk]; omega, enc_zero _ _ _ _ _ _⟩
    · exact Or.inl rfl
  clear hT hx hp
  have hc : x = 140 ∨ (x = 0 ∧ n < 0) ∨ (x = 0 ∧ ¬ n < 0 ∧ 8 * (T.size : Int) ≤ n) ∨ (x = 0 ∧ ¬ n < 0 ∧ n < 8 * (T.size : Int)) := by
    rcases hx2 with h | ⟨h, -⟩
    · exact Or.inl h
    · omega
  rcases hc with rfl | ⟨rfl, h1⟩ | ⟨rfl, h1, h2⟩ | ⟨rfl, h1, h2⟩
  iterate 3
    · have hTs := hx2
      clear hx2
      go_enter Tryd.func6, Tryd.ntmps6
      go_wp2_with (refine wpList_load_row rfl 26 (.tmp 3) rfl w.heap.size rfl 26 c (0, 0) _ hX.box Tryd.underlying26 rfl hi ?_)
      refine (hE1 _ (hE.below hX.bel)).mono ?_
      rintro r w1 ⟨rfl, hb⟩
      have hX1 := hX.keep hb
      clear hb hX hE1
      simp at hTs
      go_wp2_with fail
      refine (alive_calls _ (hE.below hX1.bel)).mono ?_
      rintro r w3 ⟨rfl, hb⟩
      have hX3 := hX1.keep hb
      go_wp2_with fail
      go_ret
      exact ⟨rfl, hX3.bel⟩
  · obtain ⟨n, rfl⟩ : ∃ m : Nat, n = m := ⟨n.toNat, by omega⟩
    obtain ⟨t, rfl⟩ : ∃ m : Nat, t = m := ⟨t.toNat, by omega⟩
    obtain ⟨-, hTs, hsum⟩ := hx2.resolve_left (by decide)
    have hll : T.data.toList.length = T.size := Array.length_toList
    have kb : ∀ W, (convert 9 36 (.string T)).run Tryd.prog W = .ok (.slice (some ⟨W.heap.size, 0, none⟩) T.size (grownCap W T.size 0 5)) (Lib.bytesWorld W 5 T) := fun W => by
      have := conv_bytes T.data.toList W
      rw [hll] at this
      exact this
    have hcb : ∀ W, Byt W.heap.size T.data.toList (Lib.bytesWorld W 5 T) := fun W j hj => by
      have := bytes_cell W T.data.toList j hj
      refine ⟨this, ?_⟩
      rw [hll] at hj
      unfold World.frozen?
      rw [Lib.bytesWorld_at_new]
      have : T.size ≤ (Lib.bytesCells W 5 T).size := by simp [Lib.bytesCells]
      simp
      omega
    have hneg : decide ((n : Int) < 0) = false := decide_eq_false (by omega)
    have h2' : ¬ 8 * (T.size : Int) ≤ (n : Int) := by omega
    have h2d : decide (8 * (T.size : Int) ≤ (n : Int)) = false := decide_eq_false h2'
    have h8 : IntKind.i64.wrap (8 * (T.size : Int)) = 8 * (T.size : Int) := by rw [IntKind.wrap_i64]; omega
    replace hll := Lib.hid hll
    replace hcb := Lib.hid hcb
    go_enter Tryd.func6, Tryd.ntmps6
    go_wp2_with (refine wpList_load_row rfl 26 (.tmp 3) rfl w.heap.size rfl 26 c (0, 0) _ hX.box Tryd.underlying26 rfl hi ?_)
    refine (hE1 _ (hE.below hX.bel)).mono ?_
    rintro r w1 ⟨rfl, hb⟩
    have hX1 := hX.keep hb
    clear hb hX hE1
    go_wp2_with fail
    have hb5 := bytes_below (w := w1) (Below.refl w1.heap.size w1) (Nat.le_refl _) 5 T
    have hbw : Below w.heap.size w (Lib.bytesWorld w1 5 T) := hX1.bel.trans (hb5.mono hX1.bel.size)
    have hg := hX1.bel.size
    have hby := hcb.out w1
    clear hX1 hb5 hcb kb
    generalize Lib.bytesWorld w1 5 T = w2 at *
    generalize grownCap w1 T.size 0 5 = cap at *
    generalize w1.heap.size = g at *
    generalize T.data.toList = l at *
    replace hby := Lib.hid hby
    go_loopw [10, 36] (fun tf i wr => ∃ (m : Nat) (b : List UInt8) (B : Bool), m ≤ 16 ∧ i = .int .i64 m ∧ tf = .bool B ∧ b.length = T.size ∧ Byt g b wr ∧ (∀ p, p < 8 * T.size → bitAt b p = (bitAt l p != turnB n t m p)) ∧ (B = true → ∃ p, p < 8 * T.size ∧ turnB n t m p = true) ∧ Below w.heap.size w wr) (fun _ i _ => 16 - (intOf i).toNat)
    case atStart => exact ⟨0, l, false, by omega, rfl, rfl, hll.out, hby.out, fun p hp => by
      have : turnB n t 0 p = false := by unfold turnB; simp; omega
      rw [this]; simp, (fun h => by cases h), hbw⟩
    case round =>
      obtain ⟨m, b, B, hm, rfl, rfl, hbl, hby2, hbits, hB, hb⟩ := hrel
      clear hbw hby
      replace hbits := Lib.hid hbits
      replace hB := Lib.hid hB
      replace hby2 := Lib.hid hby2
      replace hbl := Lib.hid hbl
      by_cases hm16 : m < 16
      · have hgo : decide ((m : Int) < 16) = true := decide_eq_true (by omega)
        have hs : IntKind.i64.wrap ((n : Int) + (m : Int)) = ((n + m : Nat) : Int) := by rw [IntKind.wrap_i64]; omega
        have hand : bits BinOp.and IntKind.u16 ((t : Int) / 2 ^ m) 1 = ((t / 2 ^ m % 2 : Nat) : Int) := and_one t m (by omega)
        by_cases hbit : t / 2 ^ m % 2 = 1
        · rw [hbit] at hand
          generalize hk : n + m = k at *
          replace hk := Lib.hid hk
          replace hbit := Lib.hid hbit
          by_cases hin : k < 8 * T.size
          · have hq : k / 8 < b.length := by rw [hbl.out]; omega
            obtain ⟨c1, c2⟩ := hby2.out (k / 8) hq
            have hX := (b.getD (k / 8) 0).toNat_lt
            generalize hXe : (b.getD (k / 8) 0).toNat = X at *
            replace hXe := hXe.symm
            have hX2 : ∀ r, r < 8 → bits BinOp.xor IntKind.u8 (X : Int) (128 / 2 ^ r) = ((X ^^^ 128 / 2 ^ r : Nat) : Int) := fun r hr => by
              have := xor8 (X := X) (Y := 128 / 2 ^ r) hX (Nat.lt_of_le_of_lt (Nat.div_le_self _ _) (by decide))
              rw [← this]
              congr 1
            have hX3 : ∀ r, r < 8 → (UInt8.ofNat (X ^^^ 128 / 2 ^ r)).toNat = X ^^^ 128 / 2 ^ r := fun r hr => by
              have : X ^^^ 128 / 2 ^ r < 256 := Nat.xor_lt_two_pow (n := 8) hX (Nat.lt_of_le_of_lt (Nat.div_le_self _ _) (by decide))
              exact byte_small this
            replace hXe := Lib.hid hXe
            replace hX2 := Lib.hid hX2
            replace hX3 := Lib.hid hX3
            have i1 : (0 : Int) ≤ (k : Int) / 8 := by omega
            have i2 : (k : Int) / 8 < (T.size : Int) := by omega
            have i3 : ((k : Int) / 8).toNat = k / 8 := by omega
            have hd : decide ((k : Int) < 8 * (T.size : Int)) = true := decide_eq_true (by omega)
            go_wp2_with fail
            go_region
            have hxx := hX2.out (k % 8) (by omega)
            rw [hxx]
            have hnext := hby2.out.set (k / 8) hq (UInt8.ofNat (X ^^^ 128 / 2 ^ (k % 8)))
            have hv : (UInt8.ofNat (X ^^^ 128 / 2 ^ (k % 8))).toNat = X ^^^ 128 / 2 ^ (k % 8) := hX3.out (k % 8) (by omega)
            rw [hv] at hnext
            have hbs : Below w.heap.size w (wr.setCell ⟨g, k / 8, none⟩ (.int .u8 ((X ^^^ 128 / 2 ^ (k % 8) : Nat) : Int))).drew := below_drew (below_set hb hg)
            replace hnext := Lib.hid hnext
            clear hxx hv hX2 hX3 c1 c2
            generalize (wr.setCell ⟨g, k / 8, none⟩ (.int .u8 ((X ^^^ 128 / 2 ^ (k % 8) : Nat) : Int))).drew = wr2 at *
            go_wp2_with fail
            refine ⟨⟨m + 1, b.set (k / 8) (UInt8.ofNat (X ^^^ 128 / 2 ^ (k % 8))), true, by omega, by go_num, rfl, by rw [List.length_set]; exact hbl.out, hnext.out, fun p hp => ?_, fun _ => ⟨k, hin, ?_⟩, hbs⟩, by simp [intOf]; omega⟩
            · rw [flip_bits hbl.out hin hXe.out p hp, hbits.out p hp]
              have htb : t.testBit m = true := by rw [Nat.testBit_eq_decide_div_mod_eq]; exact decide_eq_true hbit.out
              by_cases hpk : p = k
              · rw [if_pos hpk, hpk, ← hk.out, turn_next, turn_at, htb]
                simp
              · rw [if_neg hpk, turn_same (Or.inr (by rw [hk.out]; exact hpk))]
            · have htb : t.testBit m = true := by rw [Nat.testBit_eq_decide_div_mod_eq]; exact decide_eq_true hbit.out
              rw [← hk.out, turn_next, htb]
              simp
          · have hd : decide ((k : Int) < 8 * (T.size : Int)) = false := decide_eq_false (by omega)
            go_wp2_with fail
            refine ⟨⟨m + 1, b, B, by omega, by go_num, rfl, hbl.out, hby2.out, fun p hp => ?_, fun h => ?_, hb⟩, by simp [intOf]; omega⟩
            · rw [turn_same (Or.inr (by rw [hk.out]; omega))]
              exact hbits.out p hp
            · obtain ⟨p, hp, h2⟩ := hB.out h
              exact ⟨p, hp, by rw [turn_next, h2]; rfl⟩
        · have hbit0 : t / 2 ^ m % 2 = 0 := by omega
          rw [hbit0] at hand
          replace hbit0 := Lib.hid hbit0
          go_wp2_with fail
          have htb : t.testBit m = false := by rw [Nat.testBit_eq_decide_div_mod_eq]; exact decide_eq_false (by rw [hbit0.out]; decide)
          refine ⟨⟨m + 1, b, B, by omega, by go_num, rfl, hbl.out, hby2.out, fun p hp => ?_, fun h => ?_, hb⟩, by simp [intOf]; omega⟩
          · rw [turn_same (Or.inl htb)]
            exact hbits.out p hp
          · obtain ⟨p, hp, h2⟩ := hB.out h
            exact ⟨p, hp, by rw [turn_next, h2]; rfl⟩
      · obtain rfl : m = 16 := by omega
        have hgo : decide (((16 : Nat) : Int) < 16) = false := by decide
        have hcv : (convert 36 9 (.slice (some ⟨g, 0, none⟩) T.size cap)).run Tryd.prog wr = .ok (.string ⟨b.toArray⟩) wr := by
          have := run_convert_bytes_back (P := Tryd.prog) wr 36 9 5 ⟨g, 0, none⟩ cap b Tryd.underlying36 Tryd.underlying5 Tryd.underlying9 (fun j hj => by
            have e : (⟨g, 0, none⟩ : Addr).add j = ⟨g, j, none⟩ := by
              simp [Addr.add]
              exact fun h => h.symm
            rw [e, (hby2.out j hj).1, List.getD_eq_getElem?_getD, List.getElem?_eq_getElem hj]
            rfl)
          rw [hbl.out] at this
          exact this
        have hD := fun W h => Decode_calls ⟨b.toArray⟩ (by rw [size_mk, hbl.out]; omega) W h
        have hlast : B = true → ∀ d y, DcIs b d y → y = 140 := fun h d y hd => by
          rcases hd with ⟨-, K', F', O', e', cu', a', f', -, -, he'⟩ | ⟨rfl, -⟩
          · obtain ⟨p, hp, hpt⟩ := hB.out h
            have h5 := burst_no (l := l) (b := b) (at_ := n) (D := turnB n t 16) (by rw [hbl.out, hll.out]) (by rw [hll.out]; omega) (fun p hp => hbits.out p (by rw [← hll.out]; exact hp)) (fun p _ hn => turn_out hn) hsum (by rw [← he']; exact enc_zero _ _ _ _ _ _) p (by rw [hll.out]; exact hp)
            rw [h5] at hpt
            cases hpt
          · rfl
        have hT2 : (⟨b.toArray⟩ : ByteArray).data.toList = b := rfl
        rw [hT2] at hD
        generalize (⟨b.toArray⟩ : ByteArray) = T2 at *
        replace hlast := Lib.hid hlast
        clear hT2 hbits hB hby2 hbl hsum
        go_wp2_with fail
        refine (hD _ (hE.below hb)).mono ?_
        rintro r w3 hpost
        obtain ⟨c', x', rfl, hc', hb3⟩ := hpost.res
        obtain ⟨hcs', hco'⟩ := hc'.box
        have hX4 := XB.first (hb.trans (hb3.mono hb.size)) c'
        have hfin : B = true → x' = 140 := fun h => hlast.out h _ _ hc'
        clear hpost hD hc' hlast hcv
        cases B with
        | false =>
          go_wp2_with (refine wpList_store_row rfl 26 _ _ rfl (w3.heap.size) c' rfl rfl 26 Tryd.zeroCells26 (heapN w3 _) (info_c hcs') (zero_c hcs') hco' ?_)
          refine (alive_calls _ (hE.below hX4.bel)).mono ?_
          rintro r w5 ⟨rfl, hb5⟩
          have hX6 := hX4.keep hb5
          go_wp2_with fail
          go_ret
          exact ⟨rfl, hX6.bel⟩
        | true =>
          obtain rfl := hfin rfl
          go_wp2_with (refine wpList_store_row rfl 26 _ _ rfl (w3.heap.size) c' rfl rfl 26 Tryd.zeroCells26 (heapN w3 _) (info_c hcs') (zero_c hcs') hco' ?_)
          refine (alive_calls _ (hE.below hX4.bel)).mono ?_
          rintro r w5 ⟨rfl, hb5⟩
          have hX6 := hX4.keep hb5
          go_wp2_with fail
          go_ret
          exact ⟨rfl, hX6.bel⟩
end Go.Proofs.YtbpjfjdndaoekaaDoor
