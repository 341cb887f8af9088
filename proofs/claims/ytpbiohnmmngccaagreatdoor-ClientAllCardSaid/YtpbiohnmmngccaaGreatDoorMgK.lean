/- The reference's keys of a command, plain: they begin with the same first key. The reference's keys: what its Find, Check and Keys come to. The reference's client as a value: what it knows; where a slot is. The reference's client: a call is sent. The reference's client: where a call goes. The reference's client: a call is begun. Are an answer and the document's one the same? Conditions: the listed variables as laid. -/
import Derived.Test.YtpbiohnmmngccaaGreatDoorMgR
import Derived.Test.YtpbiohnmmngccaaGreatDoorClD
import Derived.Lib.MapLaws
import Derived.Lib.TrimAscii
import Derived.Test.YtpbiohnmmngccaaGreatDoorMgA
set_option linter.unusedVariables false
set_option linter.unusedSimpArgs false
namespace Go.Proofs.YtpbiohnmmngccaaGreatDoor
open Go Go.RowKit Go.Proofs.YtpbiohnmmngccaaGreatDoorW.PrintWords
def upB (b : UInt8) : UInt8 := if 97 ≤ b ∧ b ≤ 122 then b - 32 else b
def Great (n : List UInt8) : Prop := ∀ c ∈ n, 65 ≤ c.toNat ∧ c.toNat ≤ 90
theorem enc_low : ∀ i : Fin 128, Lib.encodeRune (up1 (i.val : Int)) = [upB (UInt8.ofNat i.val)] := by decide
theorem up1_low (x : Nat) (h : x < 128) : 0 ≤ up1 (x : Int) := by unfold up1; split <;> omega
theorem head_high (b : UInt8) (t : List UInt8) (hb : 128 ≤ b.toNat) : ∃ c r, upperV (b :: t) = c :: r ∧ 128 ≤ c.toNat := by
  unfold upperV
  rw [Lib.mapD_step up1 (b :: t) (by simp)]
  by_cases hv : (Lib.decodeL (b :: t)).1 = 65533 ∧ (Lib.decodeL (b :: t)).2 = 1
  · rw [hv.1]
    have e1 : up1 ((65533 : Nat) : Int) = 65533 := by decide
    rw [e1, if_pos (by omega)]
    have e2 : Lib.encodeRune 65533 = [239, 191, 189] := by decide
    rw [e2]
    exact ⟨239, _, rfl, by decide⟩
  · have he := Lib.encode_decode (b :: t) (by simp) hv
    have hw := Lib.decodeL_width (b :: t)
    have htk : ∃ r, (b :: t).take (Lib.decodeL (b :: t)).2 = b :: r := by
      obtain ⟨n, hn⟩ : ∃ n, (Lib.decodeL (b :: t)).2 = n + 1 := ⟨_, (Nat.succ_pred_eq_of_pos hw).symm⟩
      rw [hn]
      exact ⟨_, List.take_succ_cons⟩
    obtain ⟨r, hr⟩ := htk
    rw [hr] at he
    have hrune : 128 ≤ (Lib.decodeL (b :: t)).1 := by
      rcases Nat.lt_or_ge (Lib.decodeL (b :: t)).1 128 with h | h
      · have h1 := Lib.encodeRuneZ_one (r := ((Lib.decodeL (b :: t)).1 : Int)) (by omega) (by omega)
        unfold Lib.encodeRune at he
        rw [h1] at he
        simp only [List.map_cons, List.map_nil, List.cons.injEq, Int.toNat_natCast] at he
        have h2 := congrArg UInt8.toNat he.1
        have h3 : ((Lib.decodeL (b :: t)).1).toUInt8.toNat = (Lib.decodeL (b :: t)).1 := by
          simp [Nat.toUInt8]
          omega
        rw [h3] at h2
        omega
      · exact h
    have e1 : up1 ((Lib.decodeL (b :: t)).1 : Int) = ((Lib.decodeL (b :: t)).1 : Int) := by
      unfold up1
      rw [if_neg (by omega)]
    rw [e1, if_pos (by omega), he]
    exact ⟨b, _, rfl, hb⟩
theorem upB_high {b : UInt8} (h : 128 ≤ b.toNat) : upB b = b := by
  unfold upB
  rw [if_neg]
  rintro ⟨h1, h2⟩
  have h3 : b.toNat ≤ (122 : UInt8).toNat := h2
  have h4 : (122 : UInt8).toNat = 122 := rfl
  omega
theorem upper_great : ∀ (l n : List UInt8), Great n → (n = upperV l ↔ n = l.map upB)
  | [], n, _ => by
    have : upperV [] = [] := rfl
    rw [this]
    rfl
  | b :: t, n, hn => by
    rcases Nat.lt_or_ge b.toNat 128 with hb | hb
    · have e1 : upperV (b :: t) = upB b :: upperV t := by
        show Lib.mapD up1 (b :: t) = _
        rw [Lib.mapD_step up1 (b :: t) (by simp), Lib.decodeL_ascii b t hb]
        have h1 := enc_low ⟨b.toNat, hb⟩
        have h2 := up1_low b.toNat hb
        simp only at h1 ⊢
        rw [if_pos h2, h1]
        have h3 : UInt8.ofNat b.toNat = b := by simp
        rw [h3]
        rfl
      rw [e1, List.map_cons]
      cases n with
      | nil => simp
      | cons c m =>
        have ih := upper_great t m (fun x hx => hn x (List.mem_cons_of_mem _ hx))
        rw [List.cons.injEq, List.cons.injEq, ih]
    · obtain ⟨c, r, e1, hc⟩ := head_high b t hb
      rw [e1, List.map_cons, upB_high hb]
      constructor
      · intro h
        subst h
        have := hn c (List.mem_cons_self ..)
        omega
      · intro h
        subst h
        have := hn b (List.mem_cons_self ..)
        omega
instance (n : List UInt8) : Decidable (Great n) := by unfold Great; infer_instance
theorem specs_great : ∀ sp ∈ specs, Great sp.name ∧ sp.name.length ≤ 10 := by decide
/-- the first of the table's commands of that name -/
theorem find_alike (s : ByteArray) : findV s = specs.find? (fun sp => decide (sp.name = s.data.toList.map upB)) := by
  unfold findV
  split
  · rename_i h
    symm
    rw [List.find?_eq_none]
    intro sp hsp hd
    have h1 := of_decide_eq_true hd
    have h2 := (specs_great sp hsp).2
    rw [h1, List.length_map] at h2
    have e : s.data.toList.length = s.size := Array.length_toList
    omega
  · have key : ∀ l : List Spec, (∀ sp ∈ l, Great sp.name) → l.find? (fun sp => decide (sp.name = upperV s.data.toList)) = l.find? (fun sp => decide (sp.name = s.data.toList.map upB)) := by
      intro l
      induction l with
      | nil => intro _; rfl
      | cons sp l ih =>
        intro h
        have h1 := upper_great s.data.toList sp.name (h sp (List.mem_cons_self ..))
        rw [List.find?_cons, List.find?_cons, ih (fun x hx => h x (List.mem_cons_of_mem _ hx)), decide_eq_decide.2 h1]
    exact key specs fun sp hsp => (specs_great sp hsp).1
theorem bt_get (s : ByteArray) (i : Nat) (h : i < s.data.toList.length) : bt s (i : Int) = ((s.data.toList[i]'h).toNat : Int) := by
  unfold bt
  have h' : i < s.size := by have e : s.data.toList.length = s.size := Array.length_toList; omega
  rw [dif_pos (by simpa using h')]
  simp [ByteArray.getElem_eq_getElem_data]
theorem alike_l0 (a b : ByteArray) (ha : Great a.data.toList) (hs : a.size = b.size) (hm : a.size ≤ 1000000) :
    ∀ (d i k : Nat), d = a.size - i → i ≤ a.size → 4 * d + 1 ≤ k → RAl.marshalyardref12_Alike.l0 k a b (i : Int) = some (decide (a.data.toList.drop i = (b.data.toList.drop i).map upB)) := by
  have ea : a.data.toList.length = a.size := Array.length_toList
  have eb : b.data.toList.length = b.size := Array.length_toList
  intro d
  induction d with
  | zero =>
    intro i k hd hi hk
    obtain ⟨k, rfl⟩ : ∃ k', k = k' + 1 := ⟨k - 1, by omega⟩
    rw [RAl.marshalyardref12_Alike.l0, if_neg (by omega), List.drop_eq_nil_of_le (by omega), List.drop_eq_nil_of_le (by omega)]
    rfl
  | succ d ih =>
    intro i k hd hi hk
    obtain ⟨k, rfl⟩ : ∃ k', k = k' + 4 := ⟨k - 4, by omega⟩
    have hrec := ih (i + 1) k (by omega) (by omega) (by omega)
    have hia : i < a.data.toList.length := by omega
    have hib : i < b.data.toList.length := by omega
    have ga := bt_get a i hia
    have gb := bt_get b i hib
    have hx := ha _ (List.getElem_mem hia)
    have hw : wrap64 ((i : Int) + 1) = ((i + 1 : Nat) : Int) := by unfold wrap64; omega
    have hdec : decide (a.data.toList.drop i = (b.data.toList.drop i).map upB) = (decide (a.data.toList[i] = upB b.data.toList[i]) && decide (a.data.toList.drop (i + 1) = (b.data.toList.drop (i + 1)).map upB)) := by
      rw [List.drop_eq_getElem_cons hia, List.drop_eq_getElem_cons hib, List.map_cons, ← Bool.decide_and]
      exact decide_eq_decide.2 (List.cons.injEq _ _ _ _ ▸ Iff.rfl)
    generalize a.data.toList[i] = x at *
    generalize b.data.toList[i] = y at *
    have hxi : ((x.toNat : Int) ≥ 97) = False := by simp; omega
    rw [RAl.marshalyardref12_Alike.l0, if_pos (by omega), if_pos (by omega), if_pos (by omega), ga, gb, if_neg (by omega), RAl.marshalyardref12_Alike.j1, if_neg (by decide), RAl.marshalyardref12_Alike.j2]
    have hy := y.toNat_lt
    by_cases h97 : (y.toNat : Int) ≥ 97
    · rw [if_pos h97, RAl.marshalyardref12_Alike.j3]
      by_cases h122 : (y.toNat : Int) ≤ 122
      · rw [if_pos (decide_eq_true h122)]
        have hup : upB y = y - 32 := by
          unfold upB
          rw [if_pos ⟨by show (97 : UInt8).toNat ≤ y.toNat; have : (97 : UInt8).toNat = 97 := rfl; omega, by show y.toNat ≤ (122 : UInt8).toNat; have : (122 : UInt8).toNat = 122 := rfl; omega⟩]
        have hyn : (y - 32).toNat = y.toNat - 32 := by
          have h32 : (32 : UInt8).toNat = 32 := rfl
          rw [UInt8.toNat_sub_of_le _ _ (by show (32 : UInt8).toNat ≤ y.toNat; omega), h32]
        have hmod : ((y.toNat : Int) - 32) % 256 = ((y - 32).toNat : Int) := by rw [hyn]; omega
        rw [hmod]
        by_cases he : x = y - 32
        · subst he
          rw [if_pos rfl, hw, hrec, hdec, hup]
          simp
        · have hne : ¬ ((x.toNat : Int) = ((y - 32).toNat : Int)) := fun h => he (UInt8.toNat_inj.1 (by omega))
          rw [if_neg hne, hdec, hup, decide_eq_false he]
          rfl
      · rw [if_neg (by simpa using h122)]
        have hup : upB y = y := by
          unfold upB
          rw [if_neg]
          rintro ⟨_, h2⟩
          have h3 : y.toNat ≤ (122 : UInt8).toNat := h2
          have h4 : (122 : UInt8).toNat = 122 := rfl
          omega
        by_cases he : x = y
        · subst he
          rw [if_pos rfl, hw, hrec, hdec, hup]
          simp
        · have hne : ¬ ((x.toNat : Int) = (y.toNat : Int)) := fun h => he (UInt8.toNat_inj.1 (by omega))
          rw [if_neg hne, hdec, hup, decide_eq_false he]
          rfl
    · rw [if_neg h97, RAl.marshalyardref12_Alike.j3, if_neg (by decide)]
      have hup : upB y = y := by
        unfold upB
        rw [if_neg]
        rintro ⟨h1, _⟩
        have h3 : (97 : UInt8).toNat ≤ y.toNat := h1
        have h4 : (97 : UInt8).toNat = 97 := rfl
        omega
      by_cases he : x = y
      · subst he
        rw [if_pos rfl, hw, hrec, hdec, hup]
        simp
      · have hne : ¬ ((x.toNat : Int) = (y.toNat : Int)) := fun h => he (UInt8.toNat_inj.1 (by omega))
        rw [if_neg hne, hdec, hup, decide_eq_false he]
        rfl
theorem alike_f (a b : ByteArray) (ha : Great a.data.toList) (hm : a.size ≤ 10) (k : Nat) (hk : 41 ≤ k) : RAl.marshalyardref12_Alike.f k a b = some (decide (a.data.toList = b.data.toList.map upB)) := by
  have ea : a.data.toList.length = a.size := Array.length_toList
  have eb : b.data.toList.length = b.size := Array.length_toList
  unfold RAl.marshalyardref12_Alike.f
  by_cases hs : a.size = b.size
  · rw [if_pos (by omega)]
    have := alike_l0 a b ha hs (by omega) a.size 0 k (by omega) (by omega) (by omega)
    simpa using this
  · rw [if_neg (by omega)]
    have hne : ¬ (a.data.toList = b.data.toList.map upB) := fun h => by
      have := congrArg List.length h
      rw [List.length_map] at this
      omega
    rw [decide_eq_false hne]
end Go.Proofs.YtpbiohnmmngccaaGreatDoor

namespace Go.Proofs.YtpbiohnmmngccaaGreatDoor
open Go Go.RowKit Go.Proofs.YtpbiohnmmngccaaGreatDoorW.PrintWords
open RAl
def toS (sp : Spec) : S84 := ⟨⟨sp.name.toArray⟩, sp.least, sp.most, sp.first, sp.last, sp.step, sp.writes⟩
set_option maxRecDepth 100000 in
theorem all_specs : allL = specs.map toS := by kernel_rfl
set_option maxRecDepth 100000 in
theorem all_f : marshalyardref12_All.f = some allL := by kernel_rfl
abbrev FTup := ByteArray × Int × Int × Int × Int × Int × Bool × Bool
def fld (o : Option Spec) : FTup := (⟨(o.getD spec0).name.toArray⟩, (o.getD spec0).least, (o.getD spec0).most, (o.getD spec0).first, (o.getD spec0).last, (o.getD spec0).step, (o.getD spec0).writes, o.isSome)
theorem wsm {x : Int} (h1 : -1000000000 ≤ x) (h2 : x ≤ 1000000000) : wrap64 x = x := by unfold wrap64; omega
theorem rd_all (i : Nat) (hi : i < specs.length) : rd_T84 allL (i : Int) = toS specs[i] := by
  unfold rd_T84
  rw [all_specs, Int.toNat_natCast, List.getD_eq_getElem?_getD, List.getElem?_map, List.getElem?_eq_getElem hi]
  rfl
theorem specs_len : specs.length = 47 := rfl
theorem all_len' : allL.length = 47 := by rw [all_specs, List.length_map]; rfl
theorem find_l0 (s : ByteArray) : ∀ (d i k : Nat), d = 47 - i → i ≤ 47 → d + 50 ≤ k → marshalyardref12_Find.l0 k s allL (i : Int) = some (fld ((specs.drop i).find? fun sp => decide (sp.name = s.data.toList.map upB))) := by
  intro d
  induction d with
  | zero =>
    intro i k hd hi hk
    obtain ⟨k, rfl⟩ : ∃ k', k = k' + 1 := ⟨k - 1, by omega⟩
    have hl := all_len'
    rw [marshalyardref12_Find.l0, if_neg (by omega), List.drop_eq_nil_of_le (by rw [specs_len]; omega)]
    rfl
  | succ d ih =>
    intro i k hd hi hk
    obtain ⟨k, rfl⟩ : ∃ k', k = k' + 1 := ⟨k - 1, by omega⟩
    have hl := all_len'
    have hrec := ih (i + 1) k (by omega) (by omega) (by omega)
    have hi' : i < specs.length := by rw [specs_len]; omega
    have hrd := rd_all i hi'
    have hg := specs_great specs[i] (List.getElem_mem hi')
    have hw : wrap64 ((i : Int) + 1) = ((i + 1 : Nat) : Int) := by rw [wsm (by omega) (by omega)]; rfl
    have hal := alike_f ⟨specs[i].name.toArray⟩ s (by simpa using hg.1) (by rw [R04P.size_mk]; exact hg.2) k (by omega)
    rw [marshalyardref12_Find.l0, if_pos (by omega), if_pos (by omega), hrd]
    show ((marshalyardref12_Alike.f k ⟨specs[i].name.toArray⟩ s).bind _) = _
    rw [hal, Option.bind_some, List.drop_eq_getElem_cons hi', List.find?_cons]
    by_cases he : specs[i].name = s.data.toList.map upB
    · rw [if_pos (by simpa using he), decide_eq_true he]
      rfl
    · rw [if_neg (by simpa using he), decide_eq_false he, hw]
      exact hrec
theorem find_f (s : ByteArray) (k : Nat) (hk : 100 ≤ k) : marshalyardref12_Find.f k s = some (fld (findV s)) := by
  unfold marshalyardref12_Find.f
  rw [all_f, Option.bind_some, find_alike]
  exact find_l0 s 47 0 k rfl (by omega) (by omega)
def ctup (x : Spec × Int) : ByteArray × Int × Int × Int × Int × Int × Bool × Int := (⟨x.1.name.toArray⟩, x.1.least, x.1.most, x.1.first, x.1.last, x.1.step, x.1.writes, x.2)
theorem check_f (args : List ByteArray) (hl : args.length ≤ 1000) (k : Nat) (hk : 100 ≤ k) : marshalyardref12_Check.f k args = some (ctup (checkV args)) := by
  obtain ⟨k, rfl⟩ : ∃ k', k = k' + 1 := ⟨k - 1, by omega⟩
  unfold marshalyardref12_Check.f
  cases args with
  | nil => rw [if_pos (by simp)]; rfl
  | cons a r =>
    have hlr : r.length ≤ 999 := by simpa using hl
    have hn : wrap64 (((a :: r).length : Int) - 1) = (r.length : Int) := by rw [List.length_cons, wsm (by omega) (by omega)]; omega
    have hrd : rdOf ByteArray.empty (a :: r) 0 = a := rfl
    rw [if_neg (by rw [List.length_cons]; omega), if_pos (by rw [List.length_cons]; omega), hrd, find_f a (k + 1) hk, Option.bind_some, hn]
    have hcv : checkV (a :: r) = match findV a with
      | none => (spec0, 120)
      | some s => if badV s r.length = true then (spec0, 121) else (s, 0) := rfl
    rw [hcv]
    cases hf : findV a with
    | none => rfl
    | some s =>
      obtain ⟨h0, h1, h3, h4, hfm⟩ := find_form hf
      have e0 : fld (some s) = (⟨s.name.toArray⟩, s.least, s.most, s.first, s.last, s.step, s.writes, true) := rfl
      rw [e0]
      simp only [if_true]
      have hb : badV s r.length = (decide ((r.length : Int) < s.least) || decide (s.most < (r.length : Int)) || (decide (s.last < 0) && decide (((r.length : Int) - s.first + 1).tmod s.step ≠ 0))) := rfl
      rw [hb]
      by_cases c1 : (r.length : Int) < s.least
      · rw [if_pos c1, marshalyardref12_Check.j0, if_pos rfl, decide_eq_true c1]
        rfl
      · rw [if_neg c1, decide_eq_false c1, marshalyardref12_Check.j0]
        by_cases c2 : s.most < (r.length : Int)
        · rw [if_pos (decide_eq_true c2), decide_eq_true c2]
          rfl
        · rw [if_neg (by simpa using c2), decide_eq_false c2]
          rcases hfm with ⟨f1, f2, f3⟩ | ⟨f0, f1, f4⟩
          · rw [if_neg (by omega), f2]
            simp [ctup, f2]
          · rcases f4 with ⟨f2, f3⟩ | ⟨f2, f3⟩
            · rw [if_neg (by omega), f2]
              simp [ctup, f2]
            · have hw1 : wrap64 ((r.length : Int) - s.first) = (r.length : Int) - s.first := wsm (by omega) (by omega)
              have hw2 : wrap64 ((r.length : Int) - s.first + 1) = (r.length : Int) - s.first + 1 := wsm (by omega) (by omega)
              rw [if_pos f2, if_neg (by omega), hw1, hw2, f2]
              by_cases c3 : ((r.length : Int) - s.first + 1).tmod s.step = 0
              · rw [if_pos c3, c3]
                simp [ctup, f2]
              · rw [if_neg c3]
                simp [c3, ctup, spec0]
theorem keys_idle (args : List ByteArray) (hl : args.length ≤ 1000) (nm : ByteArray) (e l m first last st : Int) (w : Bool) (acc : List ByteArray) (hno : e ≠ 0 ∨ first ≤ 0) :
    ∀ (d i k : Nat), d = args.length - i → d + 1 ≤ k → marshalyardref12_Keys.l0 k args acc e (i : Int) nm l m first last st w = some acc := by
  intro d
  induction d with
  | zero =>
    intro i k hd hk
    obtain ⟨k, rfl⟩ : ∃ k', k = k' + 1 := ⟨k - 1, by omega⟩
    rw [marshalyardref12_Keys.l0, if_neg (by omega)]
  | succ d ih =>
    intro i k hd hk
    obtain ⟨k, rfl⟩ : ∃ k', k = k' + 1 := ⟨k - 1, by omega⟩
    have hrec := ih (i + 1) k (by omega) (by omega)
    have hw : wrap64 ((i : Int) + 1) = ((i + 1 : Nat) : Int) := by rw [wsm (by omega) (by omega)]; rfl
    rw [marshalyardref12_Keys.l0, if_pos (by omega), hw]
    repeat' split
    all_goals first | exact hrec | (exfalso; omega)
theorem keys_more (args : List ByteArray) (hl : args.length ≤ 1000) (nm : ByteArray) (l m last st : Int) (w : Bool) (hst : st ≠ 0) :
    ∀ (d i k : Nat) (acc : List ByteArray), d = args.length - i → d + 1 ≤ k → acc.length ≤ i → acc ≠ [] → ∃ r, marshalyardref12_Keys.l0 k args acc 0 (i : Int) nm l m 1 last st w = some r ∧ r.head? = acc.head? := by
  intro d
  induction d with
  | zero =>
    intro i k acc hd hk ha hne
    obtain ⟨k, rfl⟩ : ∃ k', k = k' + 1 := ⟨k - 1, by omega⟩
    rw [marshalyardref12_Keys.l0, if_neg (by omega)]
    exact ⟨_, rfl, rfl⟩
  | succ d ih =>
    intro i k acc hd hk ha hne
    obtain ⟨k, rfl⟩ : ∃ k', k = k' + 1 := ⟨k - 1, by omega⟩
    have hrec := ih (i + 1) k acc (by omega) (by omega) (by omega) hne
    have happ : ∀ x, ∃ r, marshalyardref12_Keys.l0 k args (acc ++ [x]) 0 ((i + 1 : Nat) : Int) nm l m 1 last st w = some r ∧ r.head? = acc.head? := fun x => by
      obtain ⟨r, h1, h2⟩ := ih (i + 1) k (acc ++ [x]) (by omega) (by omega) (by simp; omega) (by simp)
      refine ⟨r, h1, h2.trans ?_⟩
      cases acc with
      | nil => exact absurd rfl hne
      | cons y t => rfl
    have hw : wrap64 ((i : Int) + 1) = ((i + 1 : Nat) : Int) := by rw [wsm (by omega) (by omega)]; rfl
    have hi : i < args.length := by omega
    rw [marshalyardref12_Keys.l0, if_pos (by omega), hw]
    repeat' split
    all_goals first | exact hrec | exact happ _ | (exfalso; omega)
theorem keys_f (args : List ByteArray) (hl : args.length ≤ 1000) : ∃ r, marshalyardref12_Keys.f 2000 args = some r ∧ r.head? = keyV args := by
  have hk : keyV args = if (checkV args).2 = 0 ∧ (checkV args).1.first ≠ 0 then args[1]? else none := rfl
  have hf : marshalyardref12_Keys.f 2000 args = marshalyardref12_Keys.l0 2000 args [] (ctup (checkV args)).2.2.2.2.2.2.2 1 (ctup (checkV args)).1 (ctup (checkV args)).2.1 (ctup (checkV args)).2.2.1 (ctup (checkV args)).2.2.2.1 (ctup (checkV args)).2.2.2.2.1 (ctup (checkV args)).2.2.2.2.2.1 (ctup (checkV args)).2.2.2.2.2.2.1 := by
    unfold marshalyardref12_Keys.f
    rw [check_f args hl 2000 (by omega), Option.bind_some]
  rcases check_cases args with ⟨e, hcv, he⟩ | ⟨a, r, s, rfl, hcv, hF, hl1, hn31⟩
  · refine ⟨[], ?_, ?_⟩
    · rw [hf, hcv]
      exact keys_idle args hl _ _ _ _ _ _ _ _ _ (Or.inl (by show e ≠ 0; omega)) (args.length - 1) 1 2000 rfl (by omega)
    · rw [hk, hcv, if_neg (by rcases he with rfl | rfl <;> simp)]
      rfl
  · obtain ⟨h0, h1, h3, h4, hfm⟩ := hF
    rcases hfm with ⟨f1, f2, f3⟩ | ⟨f0, f1, f4⟩
    · refine ⟨[], ?_, ?_⟩
      · rw [hf, hcv]
        exact keys_idle (a :: r) hl _ _ _ _ _ _ _ _ _ (Or.inr (by show s.first ≤ 0; omega)) ((a :: r).length - 1) 1 2000 rfl (by omega)
      · rw [hk, hcv, if_neg (by simp [f1])]
        rfl
    · have hst : s.step ≠ 0 := by rcases f4 with ⟨-, h⟩ | ⟨-, h | h⟩ <;> omega
      have hr1 : 1 ≤ r.length := by omega
      obtain ⟨y, t, rfl⟩ : ∃ y t, r = y :: t := by
        cases r with
        | nil => simp at hr1
        | cons y t => exact ⟨y, t, rfl⟩
      obtain ⟨q, hq1, hq2⟩ := keys_more (a :: y :: t) hl ⟨s.name.toArray⟩ s.least s.most s.last s.step s.writes hst ((a :: y :: t).length - 2) 2 1999 [y] rfl (by omega) (by simp) (by simp)
      refine ⟨q, ?_, ?_⟩
      · rw [hf, hcv]
        show marshalyardref12_Keys.l0 (1999 + 1) (a :: y :: t) [] 0 1 ⟨s.name.toArray⟩ s.least s.most s.first s.last s.step s.writes = some q
        have hw : wrap64 ((1 : Int) + 1) = ((2 : Nat) : Int) := by rw [wsm (by omega) (by omega)]; rfl
        have hw0 : wrap64 ((1 : Int) - 1) = 0 := by rw [wsm (by omega) (by omega)]; rfl
        have ht : Int.tmod 0 s.step = 0 := Int.zero_tmod _
        have hrd : rdOf ByteArray.empty (a :: y :: t) 1 = y := rfl
        rw [marshalyardref12_Keys.l0, f1, if_pos (by simp only [List.length_cons]; omega), hw, hw0, ht, hrd]
        rcases f4 with ⟨g1, g2⟩ | ⟨g1, g2⟩
        · rw [g1, if_pos (by omega), if_pos rfl, if_pos (by omega), if_pos (by omega), if_neg hst, if_pos rfl, if_pos (by omega), if_pos (by simp)]
          rw [g1] at hq1
          exact hq1
        · rw [g1, if_neg (by omega), if_pos rfl, if_pos (by omega), if_pos (by omega), if_pos rfl, if_neg hst, if_pos rfl, if_pos (by omega), if_pos (by simp)]
          rw [g1] at hq1
          exact hq1
      · rw [hq2, hk, hcv, if_pos ⟨rfl, by show s.first ≠ 0; omega⟩]
        rfl
theorem refKeys_calls (A : Option Addr) (c : Nat) (args : List ByteArray) (hl : args.length ≤ 1000) (hc : args.length ≤ c) (w : World) (hr : Kd.string.C w A args.length args) :
    Calls Tryz.prog 28 #[.slice A args.length c] w (KeysPost w args) := by
  obtain ⟨r, hr1, hr2⟩ := keys_f args hl
  refine (marshalyardref12_Keys.calls 2000 A c args r w hr hc hr1).mono ?_
  rintro e w' ⟨v, rfl, hR, hb⟩
  obtain ⟨A', c', h1, h2, h3⟩ := Kd.R_reads hR
  exact ⟨A', c', r, by rw [h1], h3, h2, hr2, hb⟩
end Go.Proofs.YtpbiohnmmngccaaGreatDoor

namespace Go.Proofs.YtpbiohnmmngccaaGreatDoor
open Go Go.RowKit Go.Proofs.YtpbiohnmmngccaaGreatDoorW.PrintWords
open RtS
def flatK (l : List (Int × Int)) : List Value := l.flatMap fun p => [.int .i64 p.1, .int .i64 p.2]
theorem flatK_len (l : List (Int × Int)) : (flatK l).length = l.length * 2 := by
  induction l with
  | nil => rfl
  | cons p l ih =>
    have : flatK (p :: l) = [.int .i64 p.1, .int .i64 p.2] ++ flatK l := rfl
    rw [this, List.length_append, ih, List.length_cons]
    simp
    omega
theorem flatK_app (a b : List (Int × Int)) : flatK (a ++ b) = flatK a ++ flatK b := by unfold flatK; rw [List.flatMap_append]
theorem flatK_one (l : List (Int × Int)) : ∀ v ∈ flatK l, v.oneCell' = true := by
  intro v hv
  unfold flatK at hv
  obtain ⟨p, -, hp⟩ := List.mem_flatMap.1 hv
  simp at hp
  rcases hp with rfl | rfl <;> rfl
theorem flatK_get : ∀ (l : List (Int × Int)) (i : Nat) (p : Int × Int), l[i]? = some p → (flatK l)[i * 2]? = some (.int .i64 p.1) ∧ (flatK l)[i * 2 + 1]? = some (.int .i64 p.2)
  | [], i, p, h => by simp at h
  | q :: l, 0, p, h => by
    simp at h
    subst h
    exact ⟨rfl, rfl⟩
  | q :: l, i + 1, p, h => by
    have h' : l[i]? = some p := by simpa using h
    obtain ⟨h1, h2⟩ := flatK_get l i p h'
    have e : flatK (q :: l) = [.int .i64 q.1, .int .i64 q.2] ++ flatK l := rfl
    have e1 : (i + 1) * 2 = i * 2 + 2 := by omega
    rw [e, e1]
    exact ⟨by rw [List.getElem?_append_right (by simp)]; simpa using h1, by rw [List.getElem?_append_right (by simp)]; simpa using h2⟩
/-- what was learned last counts -/
def lastK (l : List (Int × Int)) (home k : Int) : Int := ((l.reverse.find? fun p => decide (p.1 = k)).map (·.2)).getD home
structure RS where
  kA : Option Addr
  kc : Nat
  kl : List (Int × Int)
  aA : Option Addr
  ac : Nat
def rcC (s : CS) (r : RS) : Array Value := #[.int .i64 s.home, .slice r.kA r.kl.length r.kc, .slice r.aA s.args.length r.ac, .int .i64 s.num, .int .i64 s.bud]
structure RefOk (W : World) (s : CS) (r : RS) : Prop where
  known : W.ownsRow 0 65 2 (.slice r.kA r.kl.length r.kc) r.kl.length (flatK r.kl)
  args : Kd.string.C W r.aA s.args.length s.args
  cap : s.args.length ≤ r.ac
  same : ∀ k, lastK r.kl s.home k = whereV s k
  few : r.kl.length ≤ s.cnt
theorem RefOk.below {W W' : World} {s : CS} {r : RS} (h : RefOk W s r) (hb : Below W.heap.size W W') : RefOk W' s r :=
  ⟨pw_own_below h.known hb, Kd.C_below h.args hb, h.cap, h.same, h.few⟩
theorem known_cells {W : World} {A : Option Addr} {c : Nat} {l : List (Int × Int)} (h : W.ownsRow 0 65 2 (.slice A l.length c) l.length (flatK l)) : l.length ≤ c ∧ ∀ i p, l[i]? = some p → ∃ g, A = some ⟨g, 0, none⟩ ∧ g < W.heap.size ∧ W.cell? ⟨g, i * 2, none⟩ = some (.int .i64 p.1) ∧ W.cell? ⟨g, i * 2 + 1, none⟩ = some (.int .i64 p.2) := by
  rcases h with ⟨hl, ⟨he, hn⟩ | ⟨g, cap, cur, he, hb, hh, hc, hm, hs, ht⟩⟩
  · injection he with h1 h2 h3
    refine ⟨by omega, fun i p hp => ?_⟩
    have := (List.getElem?_eq_some_iff.1 hp).1
    omega
  · injection he with h1 h2 h3
    subst h1 h3
    refine ⟨hc, fun i p hp => ⟨g, rfl, (Array.getElem?_eq_some_iff.1 hh).1, ?_⟩⟩
    have hi := (List.getElem?_eq_some_iff.1 hp).1
    obtain ⟨e1, e2⟩ := flatK_get l i p hp
    have key : ∀ j, j < l.length * 2 → W.cell? ⟨g, j, none⟩ = (flatK l)[j]? := fun j hj => by
      rw [cell_of_box hh, ← ht, List.getElem?_take_of_lt hj, Array.getElem?_toList]
    exact ⟨by rw [key _ (by omega)]; exact e1, by rw [key _ (by omega)]; exact e2⟩
theorem lastK_drop (l : List (Int × Int)) (home k : Int) (n : Nat) (hn : n < l.length) (hno : ∀ (i : Nat) (p : Int × Int), n < i → l[i]? = some p → p.1 ≠ k) (p : Int × Int) (hp : l[n]? = some p) (hk : p.1 = k) : lastK l home k = p.2 := by
  have e : l = l.take n ++ p :: l.drop (n + 1) := by
    conv => lhs; rw [← List.take_append_drop n l]
    rw [List.drop_eq_getElem_cons hn]
    have := (List.getElem?_eq_some_iff.1 hp).2
    rw [this]
  unfold lastK
  rw [e, List.reverse_append, List.reverse_cons, List.append_assoc, List.find?_append]
  have hnone : (l.drop (n + 1)).reverse.find? (fun p => decide (p.1 = k)) = none := by
    rw [List.find?_eq_none]
    intro q hq hd
    rw [List.mem_reverse] at hq
    obtain ⟨j, hj, rfl⟩ := List.getElem_of_mem hq
    rw [List.getElem_drop] at hd
    exact hno (n + 1 + j) _ (by omega) (List.getElem?_eq_getElem (by rw [List.length_drop] at hj; omega)) (of_decide_eq_true hd)
  rw [hnone]
  simp [hk]
theorem lastK_none (l : List (Int × Int)) (home k : Int) (hno : ∀ (i : Nat) (p : Int × Int), l[i]? = some p → p.1 ≠ k) : lastK l home k = home := by
  unfold lastK
  have hnone : l.reverse.find? (fun p => decide (p.1 = k)) = none := by
    rw [List.find?_eq_none]
    intro q hq hd
    rw [List.mem_reverse] at hq
    obtain ⟨j, hj, rfl⟩ := List.getElem_of_mem hq
    exact hno j _ (List.getElem?_eq_getElem hj) (of_decide_eq_true hd)
  rw [hnone]
  rfl
theorem lastK_snoc (l : List (Int × Int)) (home a b k : Int) : lastK (l ++ [(a, b)]) home k = if k = a then b else lastK l home k := by
  unfold lastK
  rw [List.reverse_append]
  by_cases h : k = a
  · subst h
    simp
  · have : ¬ (a = k) := fun e => h e.symm
    simp [h, this]
set_option maxHeartbeats 4000000 in
set_option maxRecDepth 100000 in
theorem refWhere_calls (s : CS) (r : RS) (k : Int) (w : World) (h : RefOk w s r) (hc9 : r.kl.length ≤ 1000000) :
    Calls Tryz.prog 14 #[.agg (rcC s r), .int .i64 k] w fun e w' => e = .returned (.int .i64 (whereV s k)) ∧ Below w.heap.size w w' := by
  obtain ⟨hkc, hcell⟩ := known_cells h.known
  rw [← h.same k]
  unfold rcC
  have hb1 : Below w.heap.size w (w.alloc (.cells #[.int .i64 s.home, .slice r.kA r.kl.length r.kc, .slice r.aA s.args.length r.ac, .int .i64 s.num, .int .i64 s.bud] 28)) := below_alloc (Below.refl _ _) _
  have hx1 : (w.alloc (.cells #[.int .i64 s.home, .slice r.kA r.kl.length r.kc, .slice r.aA s.args.length r.ac, .int .i64 s.num, .int .i64 s.bud] 28)).heap[w.heap.size]? = some (.cells #[.int .i64 s.home, .slice r.kA r.kl.length r.kc, .slice r.aA s.args.length r.ac, .int .i64 s.num, .int .i64 s.bud] 28 (0, 0)) := heap_alloc_new _ _
  obtain ⟨w1, hw1⟩ : ∃ w1, w1 = w.alloc (.cells #[.int .i64 s.home, .slice r.kA r.kl.length r.kc, .slice r.aA s.args.length r.ac, .int .i64 s.num, .int .i64 s.bud] 28) := ⟨_, rfl⟩
  rw [← hw1] at hb1 hx1
  have c0 : w1.cell? ⟨w.heap.size, 0, none⟩ = some (.int .i64 s.home) := by rw [cell_of_box hx1]; rfl
  have c1 : w1.cell? ⟨w.heap.size, 1, none⟩ = some (.slice r.kA r.kl.length r.kc) := by rw [cell_of_box hx1]; rfl
  have hwr : IntKind.i64.wrap ((r.kl.length : Int) - 1) = (r.kl.length : Int) - 1 := by simp [IntKind.wrap, IntKind.bits, IntKind.signed]; omega
  have hcell1 : ∀ i p, r.kl[i]? = some p → ∃ g, r.kA = some ⟨g, 0, none⟩ ∧ w1.cell? ⟨g, i * 2, none⟩ = some (.int .i64 p.1) ∧ w1.cell? ⟨g, i * 2 + 1, none⟩ = some (.int .i64 p.2) := fun i p hp => by
    obtain ⟨g, h1, h2, h3, h4⟩ := hcell i p hp
    exact ⟨g, h1, (hb1.cell (p := ⟨g, i * 2, none⟩) h2).trans h3, (hb1.cell (p := ⟨g, i * 2 + 1, none⟩) h2).trans h4⟩
  replace hw1 := Lib.hid hw1
  replace hb1 := Lib.hid hb1
  replace hcell1 := Lib.hid hcell1
  clear hcell hx1 h
  go_enter Tryz.func14, Tryz.ntmps14
  go_wp2_with fail
  rw [← hw1.out]
  go_wp2_with fail
  go_loopw [5] (fun s5 wr => ∃ n : Nat, n ≤ r.kl.length ∧ s5 = .int .i64 ((n : Int) - 1) ∧ (∀ i p, n ≤ i → r.kl[i]? = some p → p.1 ≠ k) ∧ wr = w1) (fun s5 _ => (intOf s5 + 1).toNat)
  case atStart => exact ⟨r.kl.length, Nat.le_refl _, rfl, fun i p hi hp => by have := (List.getElem?_eq_some_iff.1 hp).1; omega, rfl⟩
  case round =>
    obtain ⟨n, hn, rfl, hno, rfl⟩ := hrel
    cases n with
    | zero =>
      have hgo : decide ((0 : Int) ≤ ((0 : Nat) : Int) - 1) = false := decide_eq_false (by omega)
      have hl := lastK_none r.kl s.home k (fun i p hp => hno i p (Nat.zero_le _) hp)
      replace hl := Lib.hid hl
      go_wp2_with fail
      go_ret
      exact ⟨by rw [hl.out]; rfl, hb1.out⟩
    | succ n =>
      have hgo : decide ((0 : Int) ≤ ((n + 1 : Nat) : Int) - 1) = true := decide_eq_true (by omega)
      have e1 : ((n + 1 : Nat) : Int) - 1 = (n : Int) := by omega
      rw [e1] at hgo ⊢
      have hi0 : (0 : Int) ≤ (n : Int) := by omega
      have hin : decide ((n : Int) < (r.kl.length : Int)) = true := decide_eq_true (by omega)
      obtain ⟨p, hp⟩ : ∃ p, r.kl[n]? = some p := ⟨_, List.getElem?_eq_getElem (by omega)⟩
      obtain ⟨g, hA, q1, q2⟩ := hcell1.out n p hp
      obtain ⟨pa, pb⟩ := p
      simp only at q1 q2
      have hwr2 : IntKind.i64.wrap ((n : Int) - 1) = (n : Int) - 1 := by simp [IntKind.wrap, IntKind.bits, IntKind.signed]; omega
      rw [hA] at c1 ⊢
      by_cases hk : pa = k
      · have hkb : (pa == k) = true := by rw [beq_iff_eq]; exact hk
        have hl := lastK_drop r.kl s.home k n (by omega) (fun i q hi hq => hno i q hi hq) (pa, pb) hp hk
        replace hl := Lib.hid hl
        clear hk
        go_wp2_with fail
        go_ret
        exact ⟨by rw [hl.out]; rfl, hb1.out⟩
      · have hkb : (pa == k) = false := by rw [beq_eq_false_iff_ne]; exact hk
        go_wp2_with fail
        refine ⟨⟨n, by omega, rfl, fun i q hi hq => ?_, by first | rfl | trivial⟩, by first | (simp [intOf]; done) | (simp [intOf]; omega)⟩
        rcases Nat.lt_or_ge n i with h9 | h9
        · exact hno i q h9 hq
        · obtain rfl : i = n := by omega
          rw [hp] at hq
          injection hq with hq
          subst hq
          exact hk
end Go.Proofs.YtpbiohnmmngccaaGreatDoor

namespace Go.Proofs.YtpbiohnmmngccaaGreatDoor
open Go Go.RowKit Go.Proofs.YtpbiohnmmngccaaGreatDoorW.PrintWords
open RtS
theorem infoR : (Tryz.prog.info? 28).map (·.size) = some 5 := by kernel_rfl
theorem infoRO : (Tryz.prog.info? 40).map (·.size) = some 20 := by kernel_rfl
theorem rc_one (a b c : Int) (A B : Option Addr) (n m k l : Nat) : (#[.int .i64 a, .slice A n k, .slice B m l, .int .i64 b, .int .i64 c] : Array Value).all (·.oneCell') = true := by
  simp [Value.oneCell']
/-- two results lie in boxes -/
structure Two (w : World) (B1 B2 : Nat) (X Y Z : Array Value) (B0 : Nat) (W : World) : Prop where
  own : W.heap[B0]? = some (.cells X 28 (0, 0))
  one : W.heap[B1]? = some (.cells Y 28 (0, 0))
  two : W.heap[B2]? = some (.cells Z 40 (0, 0))
  below : Below w.heap.size w W
theorem Two.step {w W W' : World} {B0 B1 B2 : Nat} {X Y Z : Array Value} (h : Two w B1 B2 X Y Z B0 W) (hb : Below W.heap.size W W') : Two w B1 B2 X Y Z B0 W' :=
  ⟨(hb.block _ (Array.getElem?_eq_some_iff.1 h.own).1).trans h.own, (hb.block _ (Array.getElem?_eq_some_iff.1 h.one).1).trans h.one, (hb.block _ (Array.getElem?_eq_some_iff.1 h.two).1).trans h.two, h.below.trans (hb.mono h.below.size)⟩
theorem results_two {P : Program} {fn : Func} {p q : Tmp} {ty tz : TypeId} (h : fn.results = #[.cell p ty, .cell q tz]) (tmps : Array Value) (w : World) (g1 g2 : Nat) (c1 c2 : Array Value) (t1 t2 : TypeId) (d1 d2 : TypeDesc)
    (hp : tmps.getD p undef = .pointer (some ⟨g1, 0, none⟩)) (hq : tmps.getD q undef = .pointer (some ⟨g2, 0, none⟩)) (hg1 : w.heap[g1]? = some (.cells c1 t1 (0, 0))) (hg2 : w.heap[g2]? = some (.cells c2 t2 (0, 0)))
    (hu1 : P.underlying ty = some d1) (hd1 : (match d1 with | .struct _ | .array _ _ => true | _ => false) = true) (hi1 : (P.info? ty).map (·.size) = some c1.size)
    (hu2 : P.underlying tz = some d2) (hd2 : (match d2 with | .struct _ | .array _ _ => true | _ => false) = true) (hi2 : (P.info? tz).map (·.size) = some c2.size) :
    (results fn tmps).run P w = .ok (.tuple #[.agg c1, .agg c2]) w := by
  have hp' : tmps[p]?.getD undef = .pointer (some ⟨g1, 0, none⟩) := by simpa using hp
  have hq' : tmps[q]?.getD undef = .pointer (some ⟨g2, 0, none⟩) := by simpa using hq
  simp [results, h, hp', hq', asAddr, run_loadVar_row w g1 t1 ty c1 (0, 0) d1 hg1 hu1 hd1 hi1, run_loadVar_row w g2 t2 tz c2 (0, 0) d2 hg2 hu2 hd2 hi2]
def refOutC (s : CS) (r : RS) (dst asking : Int) : Array Value := outC dst 1 (s.num + 1) (.slice r.aA s.args.length r.ac) asking true 0 0 ⟨#[]⟩ (.slice none 0 0) false

set_option maxHeartbeats 4000000 in
set_option maxRecDepth 100000 in
theorem refSend_calls (s : CS) (r : RS) (dst asking : Int) (hn : 0 ≤ s.num ∧ s.num ≤ 1000000000) (w : World) :
    Calls Tryz.prog 18 #[.agg (rcC s r), .int .i64 dst, .int .i64 asking] w fun e w' => e = .returned (.tuple #[.agg (rcC { s with num := s.num + 1 } r), .agg (refOutC s r dst asking)]) ∧ Below w.heap.size w w' := by
  unfold rcC
  have hw : IntKind.i64.wrap (s.num + 1) = s.num + 1 := by simp [IntKind.wrap, IntKind.bits, IntKind.signed]; omega
  have hT : Two w (w.heap.size + 1) (w.heap.size + 1 + 1) #[.int .i64 s.home, .slice r.kA r.kl.length r.kc, .slice r.aA s.args.length r.ac, .int .i64 (s.num + 1), .int .i64 s.bud] #[.int .i64 0, .slice none 0 0, .slice none 0 0, .int .i64 0, .int .i64 0] #[.int .i64 0, .int .i64 0, .int .i64 0, .int .i64 0, .int .i64 0, .string ⟨#[]⟩, .string ⟨#[]⟩, .slice none 0 0, .int .i64 0, .int .i64 0, .string ⟨#[]⟩, .slice none 0 0, .bool false, .int .i64 0, .bool false, .int .i64 0, .int .i64 0, .string ⟨#[]⟩, .slice none 0 0, .bool false] w.heap.size (((w.alloc (.cells #[.int .i64 s.home, .slice r.kA r.kl.length r.kc, .slice r.aA s.args.length r.ac, .int .i64 (s.num + 1), .int .i64 s.bud] 28)).alloc (.cells #[.int .i64 0, .slice none 0 0, .slice none 0 0, .int .i64 0, .int .i64 0] 28)).alloc (.cells #[.int .i64 0, .int .i64 0, .int .i64 0, .int .i64 0, .int .i64 0, .string ⟨#[]⟩, .string ⟨#[]⟩, .slice none 0 0, .int .i64 0, .int .i64 0, .string ⟨#[]⟩, .slice none 0 0, .bool false, .int .i64 0, .bool false, .int .i64 0, .int .i64 0, .string ⟨#[]⟩, .slice none 0 0, .bool false] 40)) := by
    have hb2 : Below (w.heap.size + 1 + 1) ((w.alloc (.cells #[.int .i64 s.home, .slice r.kA r.kl.length r.kc, .slice r.aA s.args.length r.ac, .int .i64 (s.num + 1), .int .i64 s.bud] 28)).alloc (.cells #[.int .i64 0, .slice none 0 0, .slice none 0 0, .int .i64 0, .int .i64 0] 28)) (((w.alloc (.cells #[.int .i64 s.home, .slice r.kA r.kl.length r.kc, .slice r.aA s.args.length r.ac, .int .i64 (s.num + 1), .int .i64 s.bud] 28)).alloc (.cells #[.int .i64 0, .slice none 0 0, .slice none 0 0, .int .i64 0, .int .i64 0] 28)).alloc (.cells #[.int .i64 0, .int .i64 0, .int .i64 0, .int .i64 0, .int .i64 0, .string ⟨#[]⟩, .string ⟨#[]⟩, .slice none 0 0, .int .i64 0, .int .i64 0, .string ⟨#[]⟩, .slice none 0 0, .bool false, .int .i64 0, .bool false, .int .i64 0, .int .i64 0, .string ⟨#[]⟩, .slice none 0 0, .bool false] 40)) := by
      have := below_alloc (Below.refl ((w.alloc (.cells #[.int .i64 s.home, .slice r.kA r.kl.length r.kc, .slice r.aA s.args.length r.ac, .int .i64 (s.num + 1), .int .i64 s.bud] 28)).alloc (.cells #[.int .i64 0, .slice none 0 0, .slice none 0 0, .int .i64 0, .int .i64 0] 28)).heap.size _) (.cells #[.int .i64 0, .int .i64 0, .int .i64 0, .int .i64 0, .int .i64 0, .string ⟨#[]⟩, .string ⟨#[]⟩, .slice none 0 0, .int .i64 0, .int .i64 0, .string ⟨#[]⟩, .slice none 0 0, .bool false, .int .i64 0, .bool false, .int .i64 0, .int .i64 0, .string ⟨#[]⟩, .slice none 0 0, .bool false] 40)
      rwa [World.size_alloc, World.size_alloc] at this
    refine ⟨(hb2.block _ (by omega)).trans (heap0 _ _ _), (hb2.block _ (by omega)).trans (heap1 _ _ _), ?_, below_alloc (below_alloc (below_alloc (Below.refl _ _) _) _) _⟩
    have := heap_alloc_new ((w.alloc (.cells #[.int .i64 s.home, .slice r.kA r.kl.length r.kc, .slice r.aA s.args.length r.ac, .int .i64 (s.num + 1), .int .i64 s.bud] 28)).alloc (.cells #[.int .i64 0, .slice none 0 0, .slice none 0 0, .int .i64 0, .int .i64 0] 28)) (.cells #[.int .i64 0, .int .i64 0, .int .i64 0, .int .i64 0, .int .i64 0, .string ⟨#[]⟩, .string ⟨#[]⟩, .slice none 0 0, .int .i64 0, .int .i64 0, .string ⟨#[]⟩, .slice none 0 0, .bool false, .int .i64 0, .bool false, .int .i64 0, .int .i64 0, .string ⟨#[]⟩, .slice none 0 0, .bool false] 40)
    rwa [World.size_alloc, World.size_alloc] at this
  replace hT := Lib.hid hT
  go_enter Tryz.func18, Tryz.ntmps18
  go_wp2_with fail
  have hT0 := hT.out
  obtain ⟨W1, hW1⟩ : ∃ W1, W1 = ((w.alloc (.cells #[.int .i64 s.home, .slice r.kA r.kl.length r.kc, .slice r.aA s.args.length r.ac, .int .i64 (s.num + 1), .int .i64 s.bud] 28)).alloc (.cells #[.int .i64 0, .slice none 0 0, .slice none 0 0, .int .i64 0, .int .i64 0] 28)).alloc (.cells #[.int .i64 0, .int .i64 0, .int .i64 0, .int .i64 0, .int .i64 0, .string ⟨#[]⟩, .string ⟨#[]⟩, .slice none 0 0, .int .i64 0, .int .i64 0, .string ⟨#[]⟩, .slice none 0 0, .bool false, .int .i64 0, .bool false, .int .i64 0, .int .i64 0, .string ⟨#[]⟩, .slice none 0 0, .bool false] 40) := ⟨_, rfl⟩
  rw [← hW1] at hT0 ⊢
  clear hW1 hT
  have hS : Two w (w.heap.size + 1) (w.heap.size + 1 + 1) #[.int .i64 s.home, .slice r.kA r.kl.length r.kc, .slice r.aA s.args.length r.ac, .int .i64 (s.num + 1), .int .i64 s.bud] #[.int .i64 0, .slice none 0 0, .slice none 0 0, .int .i64 0, .int .i64 0] #[.int .i64 0, .int .i64 0, .int .i64 0, .int .i64 0, .int .i64 0, .string ⟨#[]⟩, .string ⟨#[]⟩, .slice none 0 0, .int .i64 0, .int .i64 0, .string ⟨#[]⟩, .slice none 0 0, .bool false, .int .i64 0, .bool false, .int .i64 0, .int .i64 0, .string ⟨#[]⟩, .slice none 0 0, .bool false] w.heap.size W1.drew := hT0.step ⟨rfl, rfl, rfl, Nat.le_refl _, fun _ _ => rfl⟩
  clear hT0
  refine wp_region_last (S := fun W9 => ∃ Y, Two w (w.heap.size + 1) (w.heap.size + 1 + 1) #[.int .i64 s.home, .slice r.kA r.kl.length r.kc, .slice r.aA s.args.length r.ac, .int .i64 (s.num + 1), .int .i64 s.bud] Y #[.int .i64 0, .int .i64 0, .int .i64 0, .int .i64 0, .int .i64 0, .string ⟨#[]⟩, .string ⟨#[]⟩, .slice none 0 0, .int .i64 0, .int .i64 0, .string ⟨#[]⟩, .slice none 0 0, .bool false, .int .i64 0, .bool false, .int .i64 0, .int .i64 0, .string ⟨#[]⟩, .slice none 0 0, .bool false] w.heap.size W9) 10 (by kernel_rfl) ?_
  refine wpAnyT_take (i := 0) (oi := ⟨some 12, _, _, _, _, _⟩) (v := .agg #[.int .i64 s.home, .slice r.kA r.kl.length r.kc, .slice r.aA s.args.length r.ac, .int .i64 (s.num + 1), .int .i64 s.bud]) rfl (by kernel_rfl) (by kernel_rfl) (by kernel_rfl) (by kernel_rfl) (fun _ _ _ h => h) (Or.inl ⟨by rfl, fun W9 hW => by obtain ⟨Y, hW⟩ := hW; have q0 := cell_of_box hW.own 0; have q1 := cell_of_box hW.own 1; have q2 := cell_of_box hW.own 2; have q3 := cell_of_box hW.own 3; have q4 := cell_of_box hW.own 4; go_simp⟩) ⟨_, hS⟩ ?_
  try simp only [Act.put, List.setIfInBounds_toArray, List.set_cons_zero, List.set_cons_succ]
  refine wpAnyT_take (i := 1) (oi := ⟨some 13, _, _, _, _, _⟩) (v := .int .i64 dst) rfl (by kernel_rfl) (by kernel_rfl) (by kernel_rfl) (by kernel_rfl) (fun _ _ _ h => h) (Or.inl ⟨by rfl, fun W9 hW => by go_simp⟩) ⟨_, hS⟩ ?_
  try simp only [Act.put, List.setIfInBounds_toArray, List.set_cons_zero, List.set_cons_succ]
  refine wpAnyT_take (i := 2) (oi := ⟨some 14, _, _, _, _, _⟩) (v := .pointer (some ⟨w.heap.size, 3, none⟩)) rfl (by kernel_rfl) (by kernel_rfl) (by kernel_rfl) (by kernel_rfl) (fun _ _ _ h => h) (Or.inl ⟨by rfl, fun W9 hW => by go_simp⟩) ⟨_, hS⟩ ?_
  try simp only [Act.put, List.setIfInBounds_toArray, List.set_cons_zero, List.set_cons_succ]
  refine wpAnyT_take (i := 3) (oi := ⟨some 15, _, _, _, _, _⟩) (v := .int .i64 (s.num + 1)) rfl (by kernel_rfl) (by kernel_rfl) (by kernel_rfl) (by kernel_rfl) (fun _ _ _ h => h) (Or.inl ⟨by rfl, fun W9 hW => by obtain ⟨Y, hW⟩ := hW; have q := cell_of_box hW.own 3; go_simp⟩) ⟨_, hS⟩ ?_
  try simp only [Act.put, List.setIfInBounds_toArray, List.set_cons_zero, List.set_cons_succ]
  refine wpAnyT_take (i := 4) (oi := ⟨some 16, _, _, _, _, _⟩) (v := .pointer (some ⟨w.heap.size, 2, none⟩)) rfl (by kernel_rfl) (by kernel_rfl) (by kernel_rfl) (by kernel_rfl) (fun _ _ _ h => h) (Or.inl ⟨by rfl, fun W9 hW => by go_simp⟩) ⟨_, hS⟩ ?_
  try simp only [Act.put, List.setIfInBounds_toArray, List.set_cons_zero, List.set_cons_succ]
  refine wpAnyT_take (i := 5) (oi := ⟨some 17, _, _, _, _, _⟩) (v := .slice r.aA s.args.length r.ac) rfl (by kernel_rfl) (by kernel_rfl) (by kernel_rfl) (by kernel_rfl) (fun _ _ _ h => h) (Or.inl ⟨by rfl, fun W9 hW => by obtain ⟨Y, hW⟩ := hW; have q := cell_of_box hW.own 2; go_simp⟩) ⟨_, hS⟩ ?_
  try simp only [Act.put, List.setIfInBounds_toArray, List.set_cons_zero, List.set_cons_succ]
  refine wpAnyT_take (i := 6) (oi := ⟨some 18, _, _, _, _, _⟩) (v := .int .i64 asking) rfl (by kernel_rfl) (by kernel_rfl) (by kernel_rfl) (by kernel_rfl) (fun _ _ _ h => h) (Or.inl ⟨by rfl, fun W9 hW => by go_simp⟩) ⟨_, hS⟩ ?_
  try simp only [Act.put, List.setIfInBounds_toArray, List.set_cons_zero, List.set_cons_succ]
  refine wpAnyT_take (i := 7) (oi := ⟨some 19, _, _, _, _, _⟩) (v := .agg #[.int .i64 1, .int .i64 (s.num + 1), .int .i64 0, .int .i64 0, .string ⟨#[]⟩, .string ⟨#[]⟩, .slice r.aA s.args.length r.ac, .int .i64 0, .int .i64 0, .string ⟨#[]⟩, .slice none 0 0, .bool false, .int .i64 asking]) rfl (by kernel_rfl) (by kernel_rfl) (by kernel_rfl) (by kernel_rfl) (fun _ _ _ h => h) (Or.inl ⟨by rfl, fun W9 hW => by go_simp⟩) ⟨_, hS⟩ ?_
  try simp only [Act.put, List.setIfInBounds_toArray, List.set_cons_zero, List.set_cons_succ]
  refine wpAnyT_take (i := 8) (oi := ⟨some 20, _, _, _, _, _⟩) (v := .agg (refOutC s r dst asking)) rfl (by kernel_rfl) (by kernel_rfl) (by kernel_rfl) (by kernel_rfl) (fun _ _ _ h => h) (Or.inl ⟨by rfl, fun W9 hW => by go_simp; rfl⟩) ⟨_, hS⟩ ?_
  try simp only [Act.put, List.setIfInBounds_toArray, List.set_cons_zero, List.set_cons_succ]
  refine wpAnyT_one (i := 9) (o := ⟨none, _, _, _, _, _⟩) (by kernel_rfl) rfl (fun K hK => ?_)
  have hlt : w.heap.size + 1 ≠ w.heap.size + 1 + 1 := by omega
  refine wp_store_row 28 _ _ rfl (w.heap.size + 1) #[.int .i64 s.home, .slice r.kA r.kl.length r.kc, .slice r.aA s.args.length r.ac, .int .i64 (s.num + 1), .int .i64 s.bud] rfl rfl 28 #[.int .i64 0, .slice none 0 0, .slice none 0 0, .int .i64 0, .int .i64 0] hS.one infoR rfl (rc_one _ _ _ _ _ _ _ _ _) (hK.out _ _ (fun _ => ?hs) ?_)
  case hs => exact ⟨_, ⟨(setRow_other _ _ _ _ (by omega)).trans hS.own, setRow_heap _ _ _ _ _ _ hS.one, (setRow_other _ _ _ _ (by omega)).trans hS.two, below_setRow hS.below (by omega) _⟩⟩
  clear hK K
  try simp only [Act.put, List.setIfInBounds_toArray, List.set_cons_zero, List.set_cons_succ]
  have h1 := setRow_heap _ _ _ #[.int .i64 s.home, .slice r.kA r.kl.length r.kc, .slice r.aA s.args.length r.ac, .int .i64 (s.num + 1), .int .i64 s.bud] _ _ hS.one
  have h2 := (setRow_other _ (w.heap.size + 1) (w.heap.size + 1 + 1) #[.int .i64 s.home, .slice r.kA r.kl.length r.kc, .slice r.aA s.args.length r.ac, .int .i64 (s.num + 1), .int .i64 s.bud] (by omega)).trans hS.two
  have hbb := below_setRow hS.below (Nat.le_succ _) #[.int .i64 s.home, .slice r.kA r.kl.length r.kc, .slice r.aA s.args.length r.ac, .int .i64 (s.num + 1), .int .i64 s.bud]
  generalize World.setRow W1.drew (w.heap.size + 1) #[.int .i64 s.home, .slice r.kA r.kl.length r.kc, .slice r.aA s.args.length r.ac, .int .i64 (s.num + 1), .int .i64 s.bud] = W2 at *
  refine wpAnyT_one (i := 10) (o := ⟨none, _, _, _, _, _⟩) (by kernel_rfl) rfl (fun K hK => ?_)
  refine wp_store_row 40 _ _ rfl (w.heap.size + 1 + 1) (refOutC s r dst asking) rfl rfl 40 #[.int .i64 0, .int .i64 0, .int .i64 0, .int .i64 0, .int .i64 0, .string ⟨#[]⟩, .string ⟨#[]⟩, .slice none 0 0, .int .i64 0, .int .i64 0, .string ⟨#[]⟩, .slice none 0 0, .bool false, .int .i64 0, .bool false, .int .i64 0, .int .i64 0, .string ⟨#[]⟩, .slice none 0 0, .bool false] h2 infoRO rfl (out_one _ _ _ _ _ _ _ _ _ _ _ _ _ _ _) (hK.out _ _ (fun h => absurd rfl h) ?_)
  clear hK K
  try simp only [Act.put, List.setIfInBounds_toArray, List.set_cons_zero, List.set_cons_succ]
  refine wpAnyT_done (by kernel_rfl) ?_ _
  go_wp2_with fail
  refine bodyPost_ret (results_two Tryz.results18 _ _ (w.heap.size + 1) (w.heap.size + 1 + 1) #[.int .i64 s.home, .slice r.kA r.kl.length r.kc, .slice r.aA s.args.length r.ac, .int .i64 (s.num + 1), .int .i64 s.bud] (refOutC s r dst asking) 28 40 _ _ rfl rfl ((setRow_other _ _ _ _ (by omega)).trans h1) (setRow_heap _ _ _ _ _ _ h2) Tryz.underlying28 rfl infoR Tryz.underlying40 rfl infoRO) rfl ⟨rfl, below_setRow hbb (by omega) _⟩
end Go.Proofs.YtpbiohnmmngccaaGreatDoor

namespace Go.Proofs.YtpbiohnmmngccaaGreatDoor
open Go Go.RowKit Go.Proofs.YtpbiohnmmngccaaGreatDoorW.PrintWords
open RtS
set_option maxHeartbeats 4000000 in
set_option maxRecDepth 100000 in
theorem refOwner_calls (s : CS) (r : RS) (hbig : ∀ x ∈ s.args, x.size ≤ 9223372036854775807) (hl : s.args.length ≤ 1000) (w : World) (h : RefOk w s r) (hc9 : r.kl.length ≤ 1000000) (hE : Env w) :
    Calls Tryz.prog 19 #[.agg (rcC s r)] w fun e w' => e = .returned (.int .i64 (ownerV s)) ∧ Below w.heap.size w w' := by
  have hb1 : Below w.heap.size w (w.alloc (.cells #[.int .i64 s.home, .slice r.kA r.kl.length r.kc, .slice r.aA s.args.length r.ac, .int .i64 s.num, .int .i64 s.bud] 28)) := below_alloc (Below.refl _ _) _
  have hx1 : (w.alloc (.cells #[.int .i64 s.home, .slice r.kA r.kl.length r.kc, .slice r.aA s.args.length r.ac, .int .i64 s.num, .int .i64 s.bud] 28)).heap[w.heap.size]? = some (.cells #[.int .i64 s.home, .slice r.kA r.kl.length r.kc, .slice r.aA s.args.length r.ac, .int .i64 s.num, .int .i64 s.bud] 28 (0, 0)) := heap_alloc_new _ _
  have hK := fun W hr => refKeys_calls r.aA r.ac s.args hl h.cap W hr
  unfold rcC
  have hlt1 : w.heap.size < (w.alloc (.cells #[.int .i64 s.home, .slice r.kA r.kl.length r.kc, .slice r.aA s.args.length r.ac, .int .i64 s.num, .int .i64 s.bud] 28)).heap.size := (Array.getElem?_eq_some_iff.1 hx1).1
  have hK1 := hK _ (Kd.C_below h.args hb1)
  replace hb1 := Lib.hid hb1
  replace hx1 := Lib.hid hx1
  replace h := Lib.hid h
  clear hK
  go_enter Tryz.func19, Tryz.ntmps19
  go_wp2_with fail
  refine hK1.mono ?_
  rintro e w1 ⟨A1, c1', ks, rfl, hC, hcl, hkh, hb2⟩
  have hx2 := (hb2.block _ hlt1).trans hx1.out
  have hbw := hb1.out.trans (hb2.mono hb1.out.size)
  have c0 : w1.cell? ⟨w.heap.size, 0, none⟩ = some (.int .i64 s.home) := by rw [cell_of_box hx2]; rfl
  replace hx2 := Lib.hid hx2
  clear hK1 hb2 hx1 hb1
  cases hk : keyV s.args with
  | none =>
    have ho : ownerV s = s.home := by unfold ownerV; rw [hk]
    rw [hk] at hkh
    obtain rfl : ks = [] := by cases ks <;> simp_all
    replace ho := Lib.hid ho
    go_wp2_with fail
    go_ret
    exact ⟨by rw [ho.out]; rfl, hbw⟩
  | some k =>
    have ho : ownerV s = whereV s (ofV k.data.toList) := by unfold ownerV; rw [hk]
    rw [hk] at hkh
    cases ks with
    | nil => simp at hkh
    | cons y t =>
      obtain rfl : y = k := by simpa using hkh
      obtain ⟨g1, o1, rfl, hg1, hcs⟩ := str_cells hC (by simp)
      have hcy := hcs 0 y rfl
      rw [Nat.add_zero] at hcy
      have hne : ((((t.length : Int) + 1)) == 0) = false := by rw [beq_eq_false_iff_ne]; omega
      have hsz : y.size ≤ 9223372036854775807 := by
        unfold keyV at hk
        split at hk
        · exact hbig y (List.mem_of_getElem? hk)
        · cases hk
      have hlt2 : w.heap.size < w1.heap.size := (Array.getElem?_eq_some_iff.1 hx2.out).1
      replace hcy := Lib.hid hcy
      replace ho := Lib.hid ho
      clear hC hcs hkh hk c0
      go_wp2_with fail
      have hr0 : Below w1.heap.size w1 w1.drew := ⟨rfl, rfl, rfl, Nat.le_refl _, fun _ _ => rfl⟩
      refine wp_region_last (S := fun W9 => Below w1.heap.size w1 W9) 6 (by kernel_rfl) ?_
      refine wpAnyT_take (i := 0) (oi := ⟨some 12, _, _, _, _, _⟩) (v := .agg #[.int .i64 s.home, .slice r.kA r.kl.length r.kc, .slice r.aA s.args.length r.ac, .int .i64 s.num, .int .i64 s.bud]) rfl (by kernel_rfl) (by kernel_rfl) (by kernel_rfl) (by kernel_rfl) (fun _ _ _ h => h) (Or.inl ⟨by rfl, fun W9 hW => by have q0 := (hW.cell (p := ⟨w.heap.size, 0, none⟩) hlt2).trans (cell_of_box hx2.out 0); have q1 := (hW.cell (p := ⟨w.heap.size, 1, none⟩) hlt2).trans (cell_of_box hx2.out 1); have q2 := (hW.cell (p := ⟨w.heap.size, 2, none⟩) hlt2).trans (cell_of_box hx2.out 2); have q3 := (hW.cell (p := ⟨w.heap.size, 3, none⟩) hlt2).trans (cell_of_box hx2.out 3); have q4 := (hW.cell (p := ⟨w.heap.size, 4, none⟩) hlt2).trans (cell_of_box hx2.out 4); go_simp⟩) hr0 ?_
      try simp only [Act.put, List.setIfInBounds_toArray, List.set_cons_zero, List.set_cons_succ]
      refine wpAnyT_take (i := 1) (oi := ⟨some 13, _, _, _, _, _⟩) (v := .slice (some ⟨g1, o1, none⟩) (t.length + 1) c1') rfl (by kernel_rfl) (by kernel_rfl) (by kernel_rfl) (by kernel_rfl) (fun _ _ _ h => h) (Or.inl ⟨by rfl, fun W9 hW => by go_simp⟩) hr0 ?_
      try simp only [Act.put, List.setIfInBounds_toArray, List.set_cons_zero, List.set_cons_succ]
      refine wpAnyT_take (i := 2) (oi := ⟨some 14, _, _, _, _, _⟩) (v := .pointer (some ⟨g1, o1, none⟩)) rfl (by kernel_rfl) (by kernel_rfl) (by kernel_rfl) (by kernel_rfl) (fun _ _ _ h => h) (Or.inl ⟨by rfl, fun W9 hW => by go_simp⟩) hr0 ?_
      try simp only [Act.put, List.setIfInBounds_toArray, List.set_cons_zero, List.set_cons_succ]
      refine wpAnyT_take (i := 3) (oi := ⟨some 15, _, _, _, _, _⟩) (v := .string y) rfl (by kernel_rfl) (by kernel_rfl) (by kernel_rfl) (by kernel_rfl) (fun _ _ _ h => h) (Or.inl ⟨by rfl, fun W9 hW => by have q := (hW.cell (p := ⟨g1, o1, none⟩) hg1).trans hcy.out; go_simp⟩) hr0 ?_
      try simp only [Act.put, List.setIfInBounds_toArray, List.set_cons_zero, List.set_cons_succ]
      refine wpAnyT_one (i := 4) (o := ⟨some 16, _, _, _, _, _⟩) (by kernel_rfl) rfl (fun K hK => ?_)
      go_simp
      refine (refOf_calls y hsz _).mono ?_
      rintro e w2 ⟨rfl, hb3⟩
      have hr2 := hr0.trans (hb3.mono hr0.size)
      refine hK.out _ _ (fun _ => hr2) ?_
      clear hK K
      try simp only [Act.put, List.setIfInBounds_toArray, List.set_cons_zero, List.set_cons_succ]
      refine wpAnyT_one (i := 5) (o := ⟨some 17, _, _, _, _, _⟩) (by kernel_rfl) rfl (fun K hK => ?_)
      go_simp
      have hbw2 := hbw.trans (hr2.mono hbw.size)
      refine (refWhere_calls s r (ofV y.data.toList) w2 (h.out.below hbw2) hc9).mono ?_
      rintro e w3 ⟨rfl, hb4⟩
      have hr3 := hr2.trans (hb4.mono hr2.size)
      rw [← ho.out]
      refine hK.out _ _ (fun _ => hr3) ?_
      clear hK K
      try simp only [Act.put, List.setIfInBounds_toArray, List.set_cons_zero, List.set_cons_succ]
      refine wpAnyT_one (i := 6) (o := ⟨some 2, _, _, _, _, _⟩) (by kernel_rfl) rfl (fun K hK => ?_)
      go_simp
      refine hK.out _ _ (fun h => absurd rfl h) ?_
      clear hK K
      try simp only [Act.put, List.setIfInBounds_toArray, List.set_cons_zero, List.set_cons_succ]
      refine wpAnyT_done (by kernel_rfl) ?_ _
      have hbw3 := hbw.trans (hr3.mono hbw.size)
      go_wp2_with fail
      go_ret
      exact ⟨rfl, hbw3⟩
end Go.Proofs.YtpbiohnmmngccaaGreatDoor

namespace Go.Proofs.YtpbiohnmmngccaaGreatDoor
open Go Go.RowKit Go.Proofs.YtpbiohnmmngccaaGreatDoorW.PrintWords
open RtS
/-- what the reference tells of a next step -/
def refNext (x : CS × Next) (r : RS) : Array Value := match x.2 with
  | .none => out0
  | .send d a => outC d 1 x.1.num (.slice r.aA x.1.args.length r.ac) a true 0 0 ⟨#[]⟩ (.slice none 0 0) false
  | .done k i t l => outC 0 0 0 (.slice none 0 0) 0 false k i t l true
def RefPost (x : CS × Next) (Ps : List (Option Addr × List ByteArray)) (w : World) (e : Ending) (w' : World) : Prop := ∃ r', e = .returned (.tuple #[.agg (rcC x.1 r'), .agg (refNext x r')]) ∧ RefOk w' x.1 r' ∧ Below w.heap.size w w' ∧ (r'.aA, x.1.args) ∈ Ps

theorem three_boxes (w : World) (X : Array Value) : Two w (w.heap.size + 1) (w.heap.size + 1 + 1) X #[.int .i64 0, .slice none 0 0, .slice none 0 0, .int .i64 0, .int .i64 0] #[.int .i64 0, .int .i64 0, .int .i64 0, .int .i64 0, .int .i64 0, .string ⟨#[]⟩, .string ⟨#[]⟩, .slice none 0 0, .int .i64 0, .int .i64 0, .string ⟨#[]⟩, .slice none 0 0, .bool false, .int .i64 0, .bool false, .int .i64 0, .int .i64 0, .string ⟨#[]⟩, .slice none 0 0, .bool false] w.heap.size (((w.alloc (.cells X 28)).alloc (.cells #[.int .i64 0, .slice none 0 0, .slice none 0 0, .int .i64 0, .int .i64 0] 28)).alloc (.cells #[.int .i64 0, .int .i64 0, .int .i64 0, .int .i64 0, .int .i64 0, .string ⟨#[]⟩, .string ⟨#[]⟩, .slice none 0 0, .int .i64 0, .int .i64 0, .string ⟨#[]⟩, .slice none 0 0, .bool false, .int .i64 0, .bool false, .int .i64 0, .int .i64 0, .string ⟨#[]⟩, .slice none 0 0, .bool false] 40)) := by
  have hb2 : Below (w.heap.size + 1 + 1) ((w.alloc (.cells X 28)).alloc (.cells #[.int .i64 0, .slice none 0 0, .slice none 0 0, .int .i64 0, .int .i64 0] 28)) (((w.alloc (.cells X 28)).alloc (.cells #[.int .i64 0, .slice none 0 0, .slice none 0 0, .int .i64 0, .int .i64 0] 28)).alloc (.cells #[.int .i64 0, .int .i64 0, .int .i64 0, .int .i64 0, .int .i64 0, .string ⟨#[]⟩, .string ⟨#[]⟩, .slice none 0 0, .int .i64 0, .int .i64 0, .string ⟨#[]⟩, .slice none 0 0, .bool false, .int .i64 0, .bool false, .int .i64 0, .int .i64 0, .string ⟨#[]⟩, .slice none 0 0, .bool false] 40)) := by
    have := below_alloc (Below.refl ((w.alloc (.cells X 28)).alloc (.cells #[.int .i64 0, .slice none 0 0, .slice none 0 0, .int .i64 0, .int .i64 0] 28)).heap.size _) (.cells #[.int .i64 0, .int .i64 0, .int .i64 0, .int .i64 0, .int .i64 0, .string ⟨#[]⟩, .string ⟨#[]⟩, .slice none 0 0, .int .i64 0, .int .i64 0, .string ⟨#[]⟩, .slice none 0 0, .bool false, .int .i64 0, .bool false, .int .i64 0, .int .i64 0, .string ⟨#[]⟩, .slice none 0 0, .bool false] 40)
    rwa [World.size_alloc, World.size_alloc] at this
  refine ⟨(hb2.block _ (by omega)).trans (heap0 _ _ _), (hb2.block _ (by omega)).trans (heap1 _ _ _), ?_, below_alloc (below_alloc (below_alloc (Below.refl _ _) _) _) _⟩
  have := heap_alloc_new ((w.alloc (.cells X 28)).alloc (.cells #[.int .i64 0, .slice none 0 0, .slice none 0 0, .int .i64 0, .int .i64 0] 28)) (.cells #[.int .i64 0, .int .i64 0, .int .i64 0, .int .i64 0, .int .i64 0, .string ⟨#[]⟩, .string ⟨#[]⟩, .slice none 0 0, .int .i64 0, .int .i64 0, .string ⟨#[]⟩, .slice none 0 0, .bool false, .int .i64 0, .bool false, .int .i64 0, .int .i64 0, .string ⟨#[]⟩, .slice none 0 0, .bool false] 40)
  rwa [World.size_alloc, World.size_alloc] at this
set_option maxHeartbeats 8000000 in
set_option maxRecDepth 100000 in
theorem refBegin_calls (s : CS) (r : RS) (A : Option Addr) (c : Nat) (args : List ByteArray) (hn : 0 ≤ s.num ∧ s.num ≤ 1000000000) (hl : args.length ≤ 64) (hbig : ∀ x ∈ args, x.size ≤ 9223372036854775807) (w : World) (h : RefOk w s r) (hc9 : r.kl.length ≤ 1000000) (hr : Kd.string.C w A args.length args) (hc : args.length ≤ c) (hE : Env w) :
    Calls Tryz.prog 8 #[.agg (rcC s r), .slice A args.length c] w (RefPost (beginV s args) [(r.aA, s.args), (A, args)] w) := by
  by_cases hbusy : 0 < s.args.length
  · have d1 : decide (0 < s.args.length) = true := decide_eq_true hbusy
    have d2 : decide ((0 : Int) < (s.args.length : Int)) = true := decide_eq_true (by omega)
    have hv : beginV s args = (s, .none) := by unfold beginV; rw [if_pos (by first | exact Or.inl hbusy | exact Or.inr ha)]
    rw [hv]
    have hT : Two w (w.heap.size + 1) (w.heap.size + 1 + 1) #[.int .i64 s.home, .slice r.kA r.kl.length r.kc, .slice r.aA s.args.length r.ac, .int .i64 s.num, .int .i64 s.bud] #[.int .i64 0, .slice none 0 0, .slice none 0 0, .int .i64 0, .int .i64 0] #[.int .i64 0, .int .i64 0, .int .i64 0, .int .i64 0, .int .i64 0, .string ⟨#[]⟩, .string ⟨#[]⟩, .slice none 0 0, .int .i64 0, .int .i64 0, .string ⟨#[]⟩, .slice none 0 0, .bool false, .int .i64 0, .bool false, .int .i64 0, .int .i64 0, .string ⟨#[]⟩, .slice none 0 0, .bool false] w.heap.size (((w.alloc (.cells #[.int .i64 s.home, .slice r.kA r.kl.length r.kc, .slice r.aA s.args.length r.ac, .int .i64 s.num, .int .i64 s.bud] 28)).alloc (.cells #[.int .i64 0, .slice none 0 0, .slice none 0 0, .int .i64 0, .int .i64 0] 28)).alloc (.cells #[.int .i64 0, .int .i64 0, .int .i64 0, .int .i64 0, .int .i64 0, .string ⟨#[]⟩, .string ⟨#[]⟩, .slice none 0 0, .int .i64 0, .int .i64 0, .string ⟨#[]⟩, .slice none 0 0, .bool false, .int .i64 0, .bool false, .int .i64 0, .int .i64 0, .string ⟨#[]⟩, .slice none 0 0, .bool false] 40)) := three_boxes w _
    obtain ⟨W2, hW2⟩ : ∃ W2, W2 = World.setRow (((w.alloc (.cells #[.int .i64 s.home, .slice r.kA r.kl.length r.kc, .slice r.aA s.args.length r.ac, .int .i64 s.num, .int .i64 s.bud] 28)).alloc (.cells #[.int .i64 0, .slice none 0 0, .slice none 0 0, .int .i64 0, .int .i64 0] 28)).alloc (.cells #[.int .i64 0, .int .i64 0, .int .i64 0, .int .i64 0, .int .i64 0, .string ⟨#[]⟩, .string ⟨#[]⟩, .slice none 0 0, .int .i64 0, .int .i64 0, .string ⟨#[]⟩, .slice none 0 0, .bool false, .int .i64 0, .bool false, .int .i64 0, .int .i64 0, .string ⟨#[]⟩, .slice none 0 0, .bool false] 40)) (w.heap.size + 1) #[.int .i64 s.home, .slice r.kA r.kl.length r.kc, .slice r.aA s.args.length r.ac, .int .i64 s.num, .int .i64 s.bud] := ⟨_, rfl⟩
    have h1 : W2.heap[w.heap.size + 1]? = some (.cells #[.int .i64 s.home, .slice r.kA r.kl.length r.kc, .slice r.aA s.args.length r.ac, .int .i64 s.num, .int .i64 s.bud] 28 (0, 0)) := by rw [hW2]; exact setRow_heap _ _ _ _ _ _ hT.one
    have h2 : W2.heap[w.heap.size + 1 + 1]? = some (.cells #[.int .i64 0, .int .i64 0, .int .i64 0, .int .i64 0, .int .i64 0, .string ⟨#[]⟩, .string ⟨#[]⟩, .slice none 0 0, .int .i64 0, .int .i64 0, .string ⟨#[]⟩, .slice none 0 0, .bool false, .int .i64 0, .bool false, .int .i64 0, .int .i64 0, .string ⟨#[]⟩, .slice none 0 0, .bool false] 40 (0, 0)) := by rw [hW2]; exact (setRow_other _ _ _ _ (by omega)).trans hT.two
    have hbb : Below w.heap.size w W2 := by rw [hW2]; exact below_setRow hT.below (Nat.le_succ _) _
    have hoo : out0.all (·.oneCell') = true := out_one _ _ _ _ _ _ _ _ _ _ _ _ _ _ _
    replace hT := Lib.hid hT
    replace hW2 := Lib.hid hW2
    replace h1 := Lib.hid h1
    replace h2 := Lib.hid h2
    replace hbb := Lib.hid hbb
    replace hoo := Lib.hid hoo
    replace h := Lib.hid h
    unfold rcC
    go_enter Tryz.func8, Tryz.ntmps8
    go_wp2_with (first | ((with_reducible refine store_at (ty := 28) (x := .tmp 4) (y := .tmp 15) ?_); refine ⟨w.heap.size + 1, #[.int .i64 s.home, .slice r.kA r.kl.length r.kc, .slice r.aA s.args.length r.ac, .int .i64 s.num, .int .i64 s.bud], 28, #[.int .i64 0, .slice none 0 0, .slice none 0 0, .int .i64 0, .int .i64 0], rfl, rfl, hT.out.one, infoR, rfl, rc_one _ _ _ _ _ _ _ _ _, ?_⟩; rw [← hW2.out]) | ((with_reducible refine store_at (ty := 40) (x := .tmp 5) (y := .tmp 16) ?_); refine ⟨w.heap.size + 1 + 1, out0, 40, #[.int .i64 0, .int .i64 0, .int .i64 0, .int .i64 0, .int .i64 0, .string ⟨#[]⟩, .string ⟨#[]⟩, .slice none 0 0, .int .i64 0, .int .i64 0, .string ⟨#[]⟩, .slice none 0 0, .bool false, .int .i64 0, .bool false, .int .i64 0, .int .i64 0, .string ⟨#[]⟩, .slice none 0 0, .bool false], rfl, rfl, h2.out, infoRO, rfl, hoo.out, ?_⟩))
    refine bodyPost_ret (results_two Tryz.results8 _ _ (w.heap.size + 1) (w.heap.size + 1 + 1) #[.int .i64 s.home, .slice r.kA r.kl.length r.kc, .slice r.aA s.args.length r.ac, .int .i64 s.num, .int .i64 s.bud] out0 28 40 _ _ rfl rfl ((setRow_other _ _ _ _ (by omega)).trans h1.out) (setRow_heap _ _ _ _ _ _ h2.out) Tryz.underlying28 rfl infoR Tryz.underlying40 rfl infoRO) rfl ⟨r, rfl, h.out.below (below_setRow hbb.out (by omega) _), below_setRow hbb.out (by omega) _, List.mem_cons_self ..⟩
  have d1 : decide (0 < s.args.length) = false := decide_eq_false hbusy
  have d2 : decide ((0 : Int) < (s.args.length : Int)) = false := decide_eq_false (by omega)
  by_cases ha : args.length = 0
  · have d3 : ((args.length : Int) == 0) = true := by rw [beq_iff_eq]; omega
    have hv : beginV s args = (s, .none) := by unfold beginV; rw [if_pos (by first | exact Or.inl hbusy | exact Or.inr ha)]
    rw [hv]
    have hT : Two w (w.heap.size + 1) (w.heap.size + 1 + 1) #[.int .i64 s.home, .slice r.kA r.kl.length r.kc, .slice r.aA s.args.length r.ac, .int .i64 s.num, .int .i64 s.bud] #[.int .i64 0, .slice none 0 0, .slice none 0 0, .int .i64 0, .int .i64 0] #[.int .i64 0, .int .i64 0, .int .i64 0, .int .i64 0, .int .i64 0, .string ⟨#[]⟩, .string ⟨#[]⟩, .slice none 0 0, .int .i64 0, .int .i64 0, .string ⟨#[]⟩, .slice none 0 0, .bool false, .int .i64 0, .bool false, .int .i64 0, .int .i64 0, .string ⟨#[]⟩, .slice none 0 0, .bool false] w.heap.size (((w.alloc (.cells #[.int .i64 s.home, .slice r.kA r.kl.length r.kc, .slice r.aA s.args.length r.ac, .int .i64 s.num, .int .i64 s.bud] 28)).alloc (.cells #[.int .i64 0, .slice none 0 0, .slice none 0 0, .int .i64 0, .int .i64 0] 28)).alloc (.cells #[.int .i64 0, .int .i64 0, .int .i64 0, .int .i64 0, .int .i64 0, .string ⟨#[]⟩, .string ⟨#[]⟩, .slice none 0 0, .int .i64 0, .int .i64 0, .string ⟨#[]⟩, .slice none 0 0, .bool false, .int .i64 0, .bool false, .int .i64 0, .int .i64 0, .string ⟨#[]⟩, .slice none 0 0, .bool false] 40)) := three_boxes w _
    obtain ⟨W2, hW2⟩ : ∃ W2, W2 = World.setRow (((w.alloc (.cells #[.int .i64 s.home, .slice r.kA r.kl.length r.kc, .slice r.aA s.args.length r.ac, .int .i64 s.num, .int .i64 s.bud] 28)).alloc (.cells #[.int .i64 0, .slice none 0 0, .slice none 0 0, .int .i64 0, .int .i64 0] 28)).alloc (.cells #[.int .i64 0, .int .i64 0, .int .i64 0, .int .i64 0, .int .i64 0, .string ⟨#[]⟩, .string ⟨#[]⟩, .slice none 0 0, .int .i64 0, .int .i64 0, .string ⟨#[]⟩, .slice none 0 0, .bool false, .int .i64 0, .bool false, .int .i64 0, .int .i64 0, .string ⟨#[]⟩, .slice none 0 0, .bool false] 40)) (w.heap.size + 1) #[.int .i64 s.home, .slice r.kA r.kl.length r.kc, .slice r.aA s.args.length r.ac, .int .i64 s.num, .int .i64 s.bud] := ⟨_, rfl⟩
    have h1 : W2.heap[w.heap.size + 1]? = some (.cells #[.int .i64 s.home, .slice r.kA r.kl.length r.kc, .slice r.aA s.args.length r.ac, .int .i64 s.num, .int .i64 s.bud] 28 (0, 0)) := by rw [hW2]; exact setRow_heap _ _ _ _ _ _ hT.one
    have h2 : W2.heap[w.heap.size + 1 + 1]? = some (.cells #[.int .i64 0, .int .i64 0, .int .i64 0, .int .i64 0, .int .i64 0, .string ⟨#[]⟩, .string ⟨#[]⟩, .slice none 0 0, .int .i64 0, .int .i64 0, .string ⟨#[]⟩, .slice none 0 0, .bool false, .int .i64 0, .bool false, .int .i64 0, .int .i64 0, .string ⟨#[]⟩, .slice none 0 0, .bool false] 40 (0, 0)) := by rw [hW2]; exact (setRow_other _ _ _ _ (by omega)).trans hT.two
    have hbb : Below w.heap.size w W2 := by rw [hW2]; exact below_setRow hT.below (Nat.le_succ _) _
    have hoo : out0.all (·.oneCell') = true := out_one _ _ _ _ _ _ _ _ _ _ _ _ _ _ _
    replace hT := Lib.hid hT
    replace hW2 := Lib.hid hW2
    replace h1 := Lib.hid h1
    replace h2 := Lib.hid h2
    replace hbb := Lib.hid hbb
    replace hoo := Lib.hid hoo
    replace h := Lib.hid h
    unfold rcC
    go_enter Tryz.func8, Tryz.ntmps8
    go_wp2_with (first | ((with_reducible refine store_at (ty := 28) (x := .tmp 4) (y := .tmp 15) ?_); refine ⟨w.heap.size + 1, #[.int .i64 s.home, .slice r.kA r.kl.length r.kc, .slice r.aA s.args.length r.ac, .int .i64 s.num, .int .i64 s.bud], 28, #[.int .i64 0, .slice none 0 0, .slice none 0 0, .int .i64 0, .int .i64 0], rfl, rfl, hT.out.one, infoR, rfl, rc_one _ _ _ _ _ _ _ _ _, ?_⟩; rw [← hW2.out]) | ((with_reducible refine store_at (ty := 40) (x := .tmp 5) (y := .tmp 16) ?_); refine ⟨w.heap.size + 1 + 1, out0, 40, #[.int .i64 0, .int .i64 0, .int .i64 0, .int .i64 0, .int .i64 0, .string ⟨#[]⟩, .string ⟨#[]⟩, .slice none 0 0, .int .i64 0, .int .i64 0, .string ⟨#[]⟩, .slice none 0 0, .bool false, .int .i64 0, .bool false, .int .i64 0, .int .i64 0, .string ⟨#[]⟩, .slice none 0 0, .bool false], rfl, rfl, h2.out, infoRO, rfl, hoo.out, ?_⟩))
    refine bodyPost_ret (results_two Tryz.results8 _ _ (w.heap.size + 1) (w.heap.size + 1 + 1) #[.int .i64 s.home, .slice r.kA r.kl.length r.kc, .slice r.aA s.args.length r.ac, .int .i64 s.num, .int .i64 s.bud] out0 28 40 _ _ rfl rfl ((setRow_other _ _ _ _ (by omega)).trans h1.out) (setRow_heap _ _ _ _ _ _ h2.out) Tryz.underlying28 rfl infoR Tryz.underlying40 rfl infoRO) rfl ⟨r, rfl, h.out.below (below_setRow hbb.out (by omega) _), below_setRow hbb.out (by omega) _, List.mem_cons_self ..⟩
  have d3 : ((args.length : Int) == 0) = false := by rw [beq_eq_false_iff_ne]; omega
  have hv : beginV s args = ({ begun s args with num := s.num + 1 }, .send (ownerV (begun s args)) 0) := by unfold beginV; rw [if_neg (by rintro (h | h); exact hbusy h; exact ha h)]
  rw [hv]
  obtain ⟨r2, hr2⟩ : ∃ r2 : RS, r2 = ⟨r.kA, r.kc, r.kl, A, c⟩ := ⟨_, rfl⟩
  have hok2 : RefOk w (begun s args) r2 := by rw [hr2]; exact ⟨h.known, hr, hc, fun k => h.same k, h.few⟩
  have hok3 : RefOk w { begun s args with num := s.num + 1 } r2 := by rw [hr2]; exact ⟨h.known, hr, hc, fun k => h.same k, h.few⟩
  have hkl : r2.kl.length ≤ 1000000 := by rw [hr2]; exact hc9
  have hrA : r2.aA = A := by rw [hr2]
  have hOw := fun W (hb : Below w.heap.size w W) => refOwner_calls (begun s args) r2 hbig (by show args.length ≤ 1000; omega) W (hok2.below hb) hkl (hE.below hb)
  have hSe := fun d W => refSend_calls (begun s args) r2 d 0 hn W
  have eX : rcC (begun s args) r2 = #[.int .i64 s.home, .slice r.kA r.kl.length r.kc, .slice A args.length c, .int .i64 s.num, .int .i64 16] := by rw [hr2]; rfl
  have eXN : rcC { begun s args with num := s.num + 1 } r2 = #[.int .i64 s.home, .slice r.kA r.kl.length r.kc, .slice A args.length c, .int .i64 (s.num + 1), .int .i64 16] := by rw [hr2]; rfl
  have eOut : ∀ d, refOutC (begun s args) r2 d 0 = outC d 1 (s.num + 1) (.slice A args.length c) 0 true 0 0 ⟨#[]⟩ (.slice none 0 0) false := fun d => by rw [hr2]; rfl
  have eNx : ∀ d, refNext ({ begun s args with num := s.num + 1 }, .send d 0) r2 = outC d 1 (s.num + 1) (.slice A args.length c) 0 true 0 0 ⟨#[]⟩ (.slice none 0 0) false := fun d => by rw [hr2]; rfl
  rw [eX] at hOw
  generalize ownerV (begun s args) = ow at *
  have hT : Two w (w.heap.size + 1) (w.heap.size + 1 + 1) #[.int .i64 s.home, .slice r.kA r.kl.length r.kc, .slice A args.length c, .int .i64 s.num, .int .i64 16] #[.int .i64 0, .slice none 0 0, .slice none 0 0, .int .i64 0, .int .i64 0] #[.int .i64 0, .int .i64 0, .int .i64 0, .int .i64 0, .int .i64 0, .string ⟨#[]⟩, .string ⟨#[]⟩, .slice none 0 0, .int .i64 0, .int .i64 0, .string ⟨#[]⟩, .slice none 0 0, .bool false, .int .i64 0, .bool false, .int .i64 0, .int .i64 0, .string ⟨#[]⟩, .slice none 0 0, .bool false] w.heap.size (((w.alloc (.cells #[.int .i64 s.home, .slice r.kA r.kl.length r.kc, .slice A args.length c, .int .i64 s.num, .int .i64 16] 28)).alloc (.cells #[.int .i64 0, .slice none 0 0, .slice none 0 0, .int .i64 0, .int .i64 0] 28)).alloc (.cells #[.int .i64 0, .int .i64 0, .int .i64 0, .int .i64 0, .int .i64 0, .string ⟨#[]⟩, .string ⟨#[]⟩, .slice none 0 0, .int .i64 0, .int .i64 0, .string ⟨#[]⟩, .slice none 0 0, .bool false, .int .i64 0, .bool false, .int .i64 0, .int .i64 0, .string ⟨#[]⟩, .slice none 0 0, .bool false] 40)) := three_boxes w _
  replace hT := Lib.hid hT
  replace hok3 := Lib.hid hok3
  replace hOw := Lib.hid hOw
  replace hSe := Lib.hid hSe
  replace eX := Lib.hid eX
  replace eXN := Lib.hid eXN
  replace eOut := Lib.hid eOut
  replace eNx := Lib.hid eNx
  clear hok2 h hr2 hv
  unfold rcC
  go_enter Tryz.func8, Tryz.ntmps8
  go_wp2_with fail
  have hT0 := hT.out
  obtain ⟨W1, hW1⟩ : ∃ W1, W1 = ((w.alloc (.cells #[.int .i64 s.home, .slice r.kA r.kl.length r.kc, .slice A args.length c, .int .i64 s.num, .int .i64 16] 28)).alloc (.cells #[.int .i64 0, .slice none 0 0, .slice none 0 0, .int .i64 0, .int .i64 0] 28)).alloc (.cells #[.int .i64 0, .int .i64 0, .int .i64 0, .int .i64 0, .int .i64 0, .string ⟨#[]⟩, .string ⟨#[]⟩, .slice none 0 0, .int .i64 0, .int .i64 0, .string ⟨#[]⟩, .slice none 0 0, .bool false, .int .i64 0, .bool false, .int .i64 0, .int .i64 0, .string ⟨#[]⟩, .slice none 0 0, .bool false] 40) := ⟨_, rfl⟩
  rw [← hW1] at hT0 ⊢
  clear hW1 hT
  have hS : Two w (w.heap.size + 1) (w.heap.size + 1 + 1) #[.int .i64 s.home, .slice r.kA r.kl.length r.kc, .slice A args.length c, .int .i64 s.num, .int .i64 16] #[.int .i64 0, .slice none 0 0, .slice none 0 0, .int .i64 0, .int .i64 0] #[.int .i64 0, .int .i64 0, .int .i64 0, .int .i64 0, .int .i64 0, .string ⟨#[]⟩, .string ⟨#[]⟩, .slice none 0 0, .int .i64 0, .int .i64 0, .string ⟨#[]⟩, .slice none 0 0, .bool false, .int .i64 0, .bool false, .int .i64 0, .int .i64 0, .string ⟨#[]⟩, .slice none 0 0, .bool false] w.heap.size W1.drew := hT0.step ⟨rfl, rfl, rfl, Nat.le_refl _, fun _ _ => rfl⟩
  clear hT0
  refine wp_region_last (S := fun W9 => ∃ Y, Two w (w.heap.size + 1) (w.heap.size + 1 + 1) #[.int .i64 s.home, .slice r.kA r.kl.length r.kc, .slice A args.length c, .int .i64 s.num, .int .i64 16] Y #[.int .i64 0, .int .i64 0, .int .i64 0, .int .i64 0, .int .i64 0, .string ⟨#[]⟩, .string ⟨#[]⟩, .slice none 0 0, .int .i64 0, .int .i64 0, .string ⟨#[]⟩, .slice none 0 0, .bool false, .int .i64 0, .bool false, .int .i64 0, .int .i64 0, .string ⟨#[]⟩, .slice none 0 0, .bool false] w.heap.size W9) 7 (by kernel_rfl) ?_
  refine wpAnyT_take (i := 0) (oi := ⟨some 20, _, _, _, _, _⟩) (v := .agg #[.int .i64 s.home, .slice r.kA r.kl.length r.kc, .slice A args.length c, .int .i64 s.num, .int .i64 16]) rfl (by kernel_rfl) (by kernel_rfl) (by kernel_rfl) (by kernel_rfl) (fun _ _ _ h => h) (Or.inl ⟨by rfl, fun W9 hW => by obtain ⟨Y, hW⟩ := hW; have q0 := cell_of_box hW.own 0; have q1 := cell_of_box hW.own 1; have q2 := cell_of_box hW.own 2; have q3 := cell_of_box hW.own 3; have q4 := cell_of_box hW.own 4; go_simp⟩) ⟨_, hS⟩ ?_
  try simp only [Act.put, List.setIfInBounds_toArray, List.set_cons_zero, List.set_cons_succ]
  refine wpAnyT_take (i := 1) (oi := ⟨some 21, _, _, _, _, _⟩) (v := .agg #[.int .i64 s.home, .slice r.kA r.kl.length r.kc, .slice A args.length c, .int .i64 s.num, .int .i64 16]) rfl (by kernel_rfl) (by kernel_rfl) (by kernel_rfl) (by kernel_rfl) (fun _ _ _ h => h) (Or.inl ⟨by rfl, fun W9 hW => by obtain ⟨Y, hW⟩ := hW; have q0 := cell_of_box hW.own 0; have q1 := cell_of_box hW.own 1; have q2 := cell_of_box hW.own 2; have q3 := cell_of_box hW.own 3; have q4 := cell_of_box hW.own 4; go_simp⟩) ⟨_, hS⟩ ?_
  try simp only [Act.put, List.setIfInBounds_toArray, List.set_cons_zero, List.set_cons_succ]
  refine wpAnyT_one (i := 2) (o := ⟨some 22, _, _, _, _, _⟩) (by kernel_rfl) rfl (fun K hK => ?_)
  go_simp
  refine (hOw.out _ hS.below).mono ?_
  rintro e w5 ⟨rfl, hb5⟩
  have hS5 := hS.step hb5
  refine hK.out _ _ (fun _ => ⟨_, hS5⟩) ?_
  clear hK K hS
  try simp only [Act.put, List.setIfInBounds_toArray, List.set_cons_zero, List.set_cons_succ]
  refine wpAnyT_one (i := 3) (o := ⟨some 23, _, _, _, _, _⟩) (by kernel_rfl) rfl (fun K hK => ?_)
  go_simp
  rw [← eX.out]
  refine (hSe.out _ w5).mono ?_
  rintro e w6 ⟨rfl, hb6⟩
  rw [eOut.out]
  have hS := hS5.step hb6
  clear hS5
  rw [show rcC { begun s args with num := (begun s args).num + 1 } r2 = #[.int .i64 s.home, .slice r.kA r.kl.length r.kc, .slice A args.length c, .int .i64 (s.num + 1), .int .i64 16] from eXN.out]
  refine hK.out _ _ (fun _ => ⟨_, hS⟩) ?_
  clear hK K hb5 hb6
  try simp only [Act.put, List.setIfInBounds_toArray, List.set_cons_zero, List.set_cons_succ]
  refine wpAnyT_take (i := 4) (oi := ⟨some 24, _, _, _, _, _⟩) (v := .agg #[.int .i64 s.home, .slice r.kA r.kl.length r.kc, .slice A args.length c, .int .i64 (s.num + 1), .int .i64 16]) rfl (by kernel_rfl) (by kernel_rfl) (by kernel_rfl) (by kernel_rfl) (fun _ _ _ h => h) (Or.inl ⟨by rfl, fun W9 hW => by go_simp⟩) ⟨_, hS⟩ ?_
  try simp only [Act.put, List.setIfInBounds_toArray, List.set_cons_zero, List.set_cons_succ]
  refine wpAnyT_take (i := 5) (oi := ⟨some 25, _, _, _, _, _⟩) (v := .agg (outC ow 1 (s.num + 1) (.slice A args.length c) 0 true 0 0 ⟨#[]⟩ (.slice none 0 0) false)) rfl (by kernel_rfl) (by kernel_rfl) (by kernel_rfl) (by kernel_rfl) (fun _ _ _ h => h) (Or.inl ⟨by rfl, fun W9 hW => by go_simp⟩) ⟨_, hS⟩ ?_
  try simp only [Act.put, List.setIfInBounds_toArray, List.set_cons_zero, List.set_cons_succ]
  refine wpAnyT_one (i := 6) (o := ⟨none, _, _, _, _, _⟩) (by kernel_rfl) rfl (fun K hK => ?_)
  have hlt : w.heap.size + 1 ≠ w.heap.size + 1 + 1 := by omega
  refine wp_store_row 28 _ _ rfl (w.heap.size + 1) #[.int .i64 s.home, .slice r.kA r.kl.length r.kc, .slice A args.length c, .int .i64 (s.num + 1), .int .i64 16] rfl rfl 28 #[.int .i64 0, .slice none 0 0, .slice none 0 0, .int .i64 0, .int .i64 0] hS.one infoR rfl (rc_one _ _ _ _ _ _ _ _ _) (hK.out _ _ (fun _ => ?hs) ?_)
  case hs => exact ⟨_, ⟨(setRow_other _ _ _ _ (by omega)).trans hS.own, setRow_heap _ _ _ _ _ _ hS.one, (setRow_other _ _ _ _ (by omega)).trans hS.two, below_setRow hS.below (by omega) _⟩⟩
  clear hK K
  try simp only [Act.put, List.setIfInBounds_toArray, List.set_cons_zero, List.set_cons_succ]
  have h1 := setRow_heap _ _ _ #[.int .i64 s.home, .slice r.kA r.kl.length r.kc, .slice A args.length c, .int .i64 (s.num + 1), .int .i64 16] _ _ hS.one
  have h2 := (setRow_other _ (w.heap.size + 1) (w.heap.size + 1 + 1) #[.int .i64 s.home, .slice r.kA r.kl.length r.kc, .slice A args.length c, .int .i64 (s.num + 1), .int .i64 16] (by omega)).trans hS.two
  have hbb := below_setRow hS.below (Nat.le_succ _) #[.int .i64 s.home, .slice r.kA r.kl.length r.kc, .slice A args.length c, .int .i64 (s.num + 1), .int .i64 16]
  generalize World.setRow w6 (w.heap.size + 1) #[.int .i64 s.home, .slice r.kA r.kl.length r.kc, .slice A args.length c, .int .i64 (s.num + 1), .int .i64 16] = W2 at *
  refine wpAnyT_one (i := 7) (o := ⟨none, _, _, _, _, _⟩) (by kernel_rfl) rfl (fun K hK => ?_)
  refine wp_store_row 40 _ _ rfl (w.heap.size + 1 + 1) (outC ow 1 (s.num + 1) (.slice A args.length c) 0 true 0 0 ⟨#[]⟩ (.slice none 0 0) false) rfl rfl 40 #[.int .i64 0, .int .i64 0, .int .i64 0, .int .i64 0, .int .i64 0, .string ⟨#[]⟩, .string ⟨#[]⟩, .slice none 0 0, .int .i64 0, .int .i64 0, .string ⟨#[]⟩, .slice none 0 0, .bool false, .int .i64 0, .bool false, .int .i64 0, .int .i64 0, .string ⟨#[]⟩, .slice none 0 0, .bool false] h2 infoRO rfl (out_one _ _ _ _ _ _ _ _ _ _ _ _ _ _ _) (hK.out _ _ (fun h => absurd rfl h) ?_)
  clear hK K
  try simp only [Act.put, List.setIfInBounds_toArray, List.set_cons_zero, List.set_cons_succ]
  refine wpAnyT_done (by kernel_rfl) ?_ _
  go_wp2_with fail
  refine bodyPost_ret (results_two Tryz.results8 _ _ (w.heap.size + 1) (w.heap.size + 1 + 1) #[.int .i64 s.home, .slice r.kA r.kl.length r.kc, .slice A args.length c, .int .i64 (s.num + 1), .int .i64 16] (outC ow 1 (s.num + 1) (.slice A args.length c) 0 true 0 0 ⟨#[]⟩ (.slice none 0 0) false) 28 40 _ _ rfl rfl ((setRow_other _ _ _ _ (by omega)).trans h1) (setRow_heap _ _ _ _ _ _ h2) Tryz.underlying28 rfl infoR Tryz.underlying40 rfl infoRO) rfl ⟨r2, by rw [eNx.out, eXN.out], hok3.out.below (below_setRow hbb (by omega) _), below_setRow hbb (by omega) _, by rw [hrA]; exact List.mem_cons_of_mem _ (List.mem_cons_self ..)⟩
end Go.Proofs.YtpbiohnmmngccaaGreatDoor

namespace Go.Proofs.YtpbiohnmmngccaaGreatDoor
open Go Go.RowKit Go.Proofs.YtpbiohnmmngccaaGreatDoorW.PrintWords
open RAl
theorem same06_l0 (l : List ByteArray) (hl : l.length ≤ 1000000) : ∀ (d i k : Nat), d = l.length - i → d + 1 ≤ k → marshalyardref06_Same.l0 k l l (i : Int) = some true := by
  intro d
  induction d with
  | zero =>
    intro i k hd hk
    obtain ⟨k, rfl⟩ : ∃ k', k = k' + 1 := ⟨k - 1, by omega⟩
    rw [marshalyardref06_Same.l0, if_neg (by omega)]
  | succ d ih =>
    intro i k hd hk
    obtain ⟨k, rfl⟩ : ∃ k', k = k' + 1 := ⟨k - 1, by omega⟩
    have hrec := ih (i + 1) k (by omega) (by omega)
    have hw : wrap64 ((i : Int) + 1) = ((i + 1 : Nat) : Int) := by rw [wsm (by omega) (by omega)]; rfl
    rw [marshalyardref06_Same.l0, if_pos (by omega), hw]
    repeat' split
    all_goals first | exact hrec | (exfalso; omega) | (exfalso; simp_all; done)
theorem same06_calls (A B : Option Addr) (c e : Nat) (l : List ByteArray) (hl : l.length ≤ 1000000) (w : World) (hA : Kd.string.C w A l.length l) (hc : l.length ≤ c) (hB : Kd.string.C w B l.length l) (he : l.length ≤ e) :
    Calls Tryz.prog 36 #[.slice A l.length c, .slice B l.length e] w fun e w' => e = .returned (.bool true) ∧ Below w.heap.size w w' :=
  (marshalyardref06_Same.calls (l.length + 1) A c l B e l true w hA hc hB he (by unfold marshalyardref06_Same.f; rw [if_pos rfl]; exact same06_l0 l hl l.length 0 _ rfl (by omega))).mono fun e w' ⟨h, hd⟩ => ⟨h, hd.below⟩
set_option maxHeartbeats 8000000 in
set_option maxRecDepth 100000 in
theorem same18_calls (k num ask : Int) (A B : Option Addr) (c e : Nat) (l : List ByteArray) (hl : l.length ≤ 1000000) (w : World) (hA : Kd.string.C w A l.length l) (hc : l.length ≤ c) (hB : Kd.string.C w B l.length l) (he : l.length ≤ e) :
    Calls Tryz.prog 24 #[.agg #[.int .i64 k, .int .i64 num, .int .i64 0, .int .i64 0, .string ⟨#[]⟩, .string ⟨#[]⟩, .slice A l.length c, .int .i64 0, .int .i64 0, .string ⟨#[]⟩, .slice none 0 0, .bool false, .int .i64 ask], .agg #[.int .i64 k, .int .i64 num, .int .i64 0, .int .i64 0, .string ⟨#[]⟩, .string ⟨#[]⟩, .slice B l.length e, .int .i64 0, .int .i64 0, .string ⟨#[]⟩, .slice none 0 0, .bool false, .int .i64 ask]] w fun e w' => e = .returned (.bool true) ∧ Below w.heap.size w w' := by
  have hb2 : Below w.heap.size w ((w.alloc (.cells #[.int .i64 k, .int .i64 num, .int .i64 0, .int .i64 0, .string ⟨#[]⟩, .string ⟨#[]⟩, .slice A l.length c, .int .i64 0, .int .i64 0, .string ⟨#[]⟩, .slice none 0 0, .bool false, .int .i64 ask] 35)).alloc (.cells #[.int .i64 k, .int .i64 num, .int .i64 0, .int .i64 0, .string ⟨#[]⟩, .string ⟨#[]⟩, .slice B l.length e, .int .i64 0, .int .i64 0, .string ⟨#[]⟩, .slice none 0 0, .bool false, .int .i64 ask] 35)) := below_alloc (below_alloc (Below.refl _ _) _) _
  have hx0 := heap0 w (.cells #[.int .i64 k, .int .i64 num, .int .i64 0, .int .i64 0, .string ⟨#[]⟩, .string ⟨#[]⟩, .slice A l.length c, .int .i64 0, .int .i64 0, .string ⟨#[]⟩, .slice none 0 0, .bool false, .int .i64 ask] 35) (.cells #[.int .i64 k, .int .i64 num, .int .i64 0, .int .i64 0, .string ⟨#[]⟩, .string ⟨#[]⟩, .slice B l.length e, .int .i64 0, .int .i64 0, .string ⟨#[]⟩, .slice none 0 0, .bool false, .int .i64 ask] 35)
  have hx1 := heap1 w (.cells #[.int .i64 k, .int .i64 num, .int .i64 0, .int .i64 0, .string ⟨#[]⟩, .string ⟨#[]⟩, .slice A l.length c, .int .i64 0, .int .i64 0, .string ⟨#[]⟩, .slice none 0 0, .bool false, .int .i64 ask] 35) (.cells #[.int .i64 k, .int .i64 num, .int .i64 0, .int .i64 0, .string ⟨#[]⟩, .string ⟨#[]⟩, .slice B l.length e, .int .i64 0, .int .i64 0, .string ⟨#[]⟩, .slice none 0 0, .bool false, .int .i64 ask] 35)
  obtain ⟨w2, hw2⟩ : ∃ w2, w2 = (w.alloc (.cells #[.int .i64 k, .int .i64 num, .int .i64 0, .int .i64 0, .string ⟨#[]⟩, .string ⟨#[]⟩, .slice A l.length c, .int .i64 0, .int .i64 0, .string ⟨#[]⟩, .slice none 0 0, .bool false, .int .i64 ask] 35)).alloc (.cells #[.int .i64 k, .int .i64 num, .int .i64 0, .int .i64 0, .string ⟨#[]⟩, .string ⟨#[]⟩, .slice B l.length e, .int .i64 0, .int .i64 0, .string ⟨#[]⟩, .slice none 0 0, .bool false, .int .i64 ask] 35) := ⟨_, rfl⟩
  rw [← hw2] at hb2 hx0 hx1
  have hlt0 : w.heap.size < w2.heap.size := (Array.getElem?_eq_some_iff.1 hx0).1
  have hlt1 : w.heap.size + 1 < w2.heap.size := (Array.getElem?_eq_some_iff.1 hx1).1
  have a0_7 : w2.cell? ⟨w.heap.size, 7, none⟩ = some (.int .i64 0) := by rw [cell_of_box hx0]; rfl
  have a0_8 : w2.cell? ⟨w.heap.size, 8, none⟩ = some (.int .i64 0) := by rw [cell_of_box hx0]; rfl
  have a0_9 : w2.cell? ⟨w.heap.size, 9, none⟩ = some (.string ⟨#[]⟩) := by rw [cell_of_box hx0]; rfl
  have a0_10 : w2.cell? ⟨w.heap.size, 10, none⟩ = some (.slice none 0 0) := by rw [cell_of_box hx0]; rfl
  have a1_7 : w2.cell? ⟨w.heap.size + 1, 7, none⟩ = some (.int .i64 0) := by rw [cell_of_box hx1]; rfl
  have a1_8 : w2.cell? ⟨w.heap.size + 1, 8, none⟩ = some (.int .i64 0) := by rw [cell_of_box hx1]; rfl
  have a1_9 : w2.cell? ⟨w.heap.size + 1, 9, none⟩ = some (.string ⟨#[]⟩) := by rw [cell_of_box hx1]; rfl
  have a1_10 : w2.cell? ⟨w.heap.size + 1, 10, none⟩ = some (.slice none 0 0) := by rw [cell_of_box hx1]; rfl
  replace hw2 := Lib.hid hw2
  replace hb2 := Lib.hid hb2
  go_enter Tryz.func24, Tryz.ntmps24
  go_wp2_with fail
  rw [← hw2.out]
  go_wp2_with fail
  refine (Same_refl 0 0 0 ⟨#[]⟩ none 0 0 w2 (reps_nil w2 0)).mono ?_
  rintro e0 w3 ⟨rfl, hb3⟩
  clear a0_7 a0_8 a0_9 a0_10 a1_7 a1_8 a1_9 a1_10
  have hy0 := (hb3.block _ hlt0).trans hx0
  have hy1 := (hb3.block _ hlt1).trans hx1
  have hbw3 := hb2.out.trans (hb3.mono hb2.out.size)
  have hlt3 := hb3.size
  have b0_6 : w3.cell? ⟨w.heap.size, 6, none⟩ = some (.slice A l.length c) := by rw [cell_of_box hy0]; rfl
  have b1_6 : w3.cell? ⟨w.heap.size + 1, 6, none⟩ = some (.slice B l.length e) := by rw [cell_of_box hy1]; rfl
  have hS := same06_calls A B c e l hl w3 (Kd.C_below hA hbw3) hc (Kd.C_below hB hbw3) he
  replace hbw3 := Lib.hid hbw3
  go_wp2_with fail
  refine hS.mono ?_
  rintro e0 w4 ⟨rfl, hb4⟩
  clear hS b0_6 b1_6
  have hz0 := (hb4.block _ (Nat.lt_of_lt_of_le hlt0 hlt3)).trans hy0
  have hz1 := (hb4.block _ (Nat.lt_of_lt_of_le hlt1 hlt3)).trans hy1
  have hbw4 := hbw3.out.trans (hb4.mono hbw3.out.size)
  have c0_0 : w4.cell? ⟨w.heap.size, 0, none⟩ = some (.int .i64 k) := by rw [cell_of_box hz0]; rfl
  have c0_1 : w4.cell? ⟨w.heap.size, 1, none⟩ = some (.int .i64 num) := by rw [cell_of_box hz0]; rfl
  have c0_2 : w4.cell? ⟨w.heap.size, 2, none⟩ = some (.int .i64 0) := by rw [cell_of_box hz0]; rfl
  have c0_3 : w4.cell? ⟨w.heap.size, 3, none⟩ = some (.int .i64 0) := by rw [cell_of_box hz0]; rfl
  have c0_4 : w4.cell? ⟨w.heap.size, 4, none⟩ = some (.string ⟨#[]⟩) := by rw [cell_of_box hz0]; rfl
  have c0_5 : w4.cell? ⟨w.heap.size, 5, none⟩ = some (.string ⟨#[]⟩) := by rw [cell_of_box hz0]; rfl
  have c0_11 : w4.cell? ⟨w.heap.size, 11, none⟩ = some (.bool false) := by rw [cell_of_box hz0]; rfl
  have c0_12 : w4.cell? ⟨w.heap.size, 12, none⟩ = some (.int .i64 ask) := by rw [cell_of_box hz0]; rfl
  have c1_0 : w4.cell? ⟨w.heap.size + 1, 0, none⟩ = some (.int .i64 k) := by rw [cell_of_box hz1]; rfl
  have c1_1 : w4.cell? ⟨w.heap.size + 1, 1, none⟩ = some (.int .i64 num) := by rw [cell_of_box hz1]; rfl
  have c1_2 : w4.cell? ⟨w.heap.size + 1, 2, none⟩ = some (.int .i64 0) := by rw [cell_of_box hz1]; rfl
  have c1_3 : w4.cell? ⟨w.heap.size + 1, 3, none⟩ = some (.int .i64 0) := by rw [cell_of_box hz1]; rfl
  have c1_4 : w4.cell? ⟨w.heap.size + 1, 4, none⟩ = some (.string ⟨#[]⟩) := by rw [cell_of_box hz1]; rfl
  have c1_5 : w4.cell? ⟨w.heap.size + 1, 5, none⟩ = some (.string ⟨#[]⟩) := by rw [cell_of_box hz1]; rfl
  have c1_11 : w4.cell? ⟨w.heap.size + 1, 11, none⟩ = some (.bool false) := by rw [cell_of_box hz1]; rfl
  have c1_12 : w4.cell? ⟨w.heap.size + 1, 12, none⟩ = some (.int .i64 ask) := by rw [cell_of_box hz1]; rfl
  replace hbw4 := Lib.hid hbw4
  clear hx0 hx1 hy0 hy1 hz0 hz1
  go_wp2_with fail
  go_ret
  exact ⟨rfl, hbw4.out⟩
set_option maxHeartbeats 8000000 in
set_option maxRecDepth 100000 in
theorem same_calls (d k num ask rk ri : Int) (send done : Bool) (rt : ByteArray) (rl : Option Addr × Nat × Nat) (nn : Nat) (A B : Option Addr) (c e : Nat) (l : List ByteArray) (hl : l.length ≤ 1000000) (w : World) (hA : Kd.string.C w A l.length l) (hc : l.length ≤ c) (hB : Kd.string.C w B l.length l) (he : l.length ≤ e) (hrl : RepsOk w nn rl) :
    Calls Tryz.prog 11 #[.agg #[.int .i64 d, .int .i64 k, .int .i64 num, .int .i64 0, .int .i64 0, .string ⟨#[]⟩, .string ⟨#[]⟩, .slice A l.length c, .int .i64 0, .int .i64 0, .string ⟨#[]⟩, .slice none 0 0, .bool false, .int .i64 ask, .bool send, .int .i64 rk, .int .i64 ri, .string rt, .slice rl.1 rl.2.1 rl.2.2, .bool done], .agg #[.int .i64 d, .int .i64 k, .int .i64 num, .int .i64 0, .int .i64 0, .string ⟨#[]⟩, .string ⟨#[]⟩, .slice B l.length e, .int .i64 0, .int .i64 0, .string ⟨#[]⟩, .slice none 0 0, .bool false, .int .i64 ask, .bool send, .int .i64 rk, .int .i64 ri, .string rt, .slice rl.1 rl.2.1 rl.2.2, .bool done]] w fun e w' => e = .returned (.bool true) ∧ Below w.heap.size w w' := by
  have hb2 : Below w.heap.size w ((w.alloc (.cells #[.int .i64 d, .int .i64 k, .int .i64 num, .int .i64 0, .int .i64 0, .string ⟨#[]⟩, .string ⟨#[]⟩, .slice A l.length c, .int .i64 0, .int .i64 0, .string ⟨#[]⟩, .slice none 0 0, .bool false, .int .i64 ask, .bool send, .int .i64 rk, .int .i64 ri, .string rt, .slice rl.1 rl.2.1 rl.2.2, .bool done] 39)).alloc (.cells #[.int .i64 d, .int .i64 k, .int .i64 num, .int .i64 0, .int .i64 0, .string ⟨#[]⟩, .string ⟨#[]⟩, .slice B l.length e, .int .i64 0, .int .i64 0, .string ⟨#[]⟩, .slice none 0 0, .bool false, .int .i64 ask, .bool send, .int .i64 rk, .int .i64 ri, .string rt, .slice rl.1 rl.2.1 rl.2.2, .bool done] 40)) := below_alloc (below_alloc (Below.refl _ _) _) _
  have hx0 := heap0 w (.cells #[.int .i64 d, .int .i64 k, .int .i64 num, .int .i64 0, .int .i64 0, .string ⟨#[]⟩, .string ⟨#[]⟩, .slice A l.length c, .int .i64 0, .int .i64 0, .string ⟨#[]⟩, .slice none 0 0, .bool false, .int .i64 ask, .bool send, .int .i64 rk, .int .i64 ri, .string rt, .slice rl.1 rl.2.1 rl.2.2, .bool done] 39) (.cells #[.int .i64 d, .int .i64 k, .int .i64 num, .int .i64 0, .int .i64 0, .string ⟨#[]⟩, .string ⟨#[]⟩, .slice B l.length e, .int .i64 0, .int .i64 0, .string ⟨#[]⟩, .slice none 0 0, .bool false, .int .i64 ask, .bool send, .int .i64 rk, .int .i64 ri, .string rt, .slice rl.1 rl.2.1 rl.2.2, .bool done] 40)
  have hx1 := heap1 w (.cells #[.int .i64 d, .int .i64 k, .int .i64 num, .int .i64 0, .int .i64 0, .string ⟨#[]⟩, .string ⟨#[]⟩, .slice A l.length c, .int .i64 0, .int .i64 0, .string ⟨#[]⟩, .slice none 0 0, .bool false, .int .i64 ask, .bool send, .int .i64 rk, .int .i64 ri, .string rt, .slice rl.1 rl.2.1 rl.2.2, .bool done] 39) (.cells #[.int .i64 d, .int .i64 k, .int .i64 num, .int .i64 0, .int .i64 0, .string ⟨#[]⟩, .string ⟨#[]⟩, .slice B l.length e, .int .i64 0, .int .i64 0, .string ⟨#[]⟩, .slice none 0 0, .bool false, .int .i64 ask, .bool send, .int .i64 rk, .int .i64 ri, .string rt, .slice rl.1 rl.2.1 rl.2.2, .bool done] 40)
  obtain ⟨w2, hw2⟩ : ∃ w2, w2 = (w.alloc (.cells #[.int .i64 d, .int .i64 k, .int .i64 num, .int .i64 0, .int .i64 0, .string ⟨#[]⟩, .string ⟨#[]⟩, .slice A l.length c, .int .i64 0, .int .i64 0, .string ⟨#[]⟩, .slice none 0 0, .bool false, .int .i64 ask, .bool send, .int .i64 rk, .int .i64 ri, .string rt, .slice rl.1 rl.2.1 rl.2.2, .bool done] 39)).alloc (.cells #[.int .i64 d, .int .i64 k, .int .i64 num, .int .i64 0, .int .i64 0, .string ⟨#[]⟩, .string ⟨#[]⟩, .slice B l.length e, .int .i64 0, .int .i64 0, .string ⟨#[]⟩, .slice none 0 0, .bool false, .int .i64 ask, .bool send, .int .i64 rk, .int .i64 ri, .string rt, .slice rl.1 rl.2.1 rl.2.2, .bool done] 40) := ⟨_, rfl⟩
  rw [← hw2] at hb2 hx0 hx1
  have hlt0 : w.heap.size < w2.heap.size := (Array.getElem?_eq_some_iff.1 hx0).1
  have hlt1 : w.heap.size + 1 < w2.heap.size := (Array.getElem?_eq_some_iff.1 hx1).1
  have a0_0 : w2.cell? ⟨w.heap.size, 0, none⟩ = some (.int .i64 d) := by rw [cell_of_box hx0]; rfl
  have a0_1 : w2.cell? ⟨w.heap.size, 1, none⟩ = some (.int .i64 k) := by rw [cell_of_box hx0]; rfl
  have a0_2 : w2.cell? ⟨w.heap.size, 2, none⟩ = some (.int .i64 num) := by rw [cell_of_box hx0]; rfl
  have a0_3 : w2.cell? ⟨w.heap.size, 3, none⟩ = some (.int .i64 0) := by rw [cell_of_box hx0]; rfl
  have a0_4 : w2.cell? ⟨w.heap.size, 4, none⟩ = some (.int .i64 0) := by rw [cell_of_box hx0]; rfl
  have a0_5 : w2.cell? ⟨w.heap.size, 5, none⟩ = some (.string ⟨#[]⟩) := by rw [cell_of_box hx0]; rfl
  have a0_6 : w2.cell? ⟨w.heap.size, 6, none⟩ = some (.string ⟨#[]⟩) := by rw [cell_of_box hx0]; rfl
  have a0_7 : w2.cell? ⟨w.heap.size, 7, none⟩ = some (.slice A l.length c) := by rw [cell_of_box hx0]; rfl
  have a0_8 : w2.cell? ⟨w.heap.size, 8, none⟩ = some (.int .i64 0) := by rw [cell_of_box hx0]; rfl
  have a0_9 : w2.cell? ⟨w.heap.size, 9, none⟩ = some (.int .i64 0) := by rw [cell_of_box hx0]; rfl
  have a0_10 : w2.cell? ⟨w.heap.size, 10, none⟩ = some (.string ⟨#[]⟩) := by rw [cell_of_box hx0]; rfl
  have a0_11 : w2.cell? ⟨w.heap.size, 11, none⟩ = some (.slice none 0 0) := by rw [cell_of_box hx0]; rfl
  have a0_12 : w2.cell? ⟨w.heap.size, 12, none⟩ = some (.bool false) := by rw [cell_of_box hx0]; rfl
  have a0_13 : w2.cell? ⟨w.heap.size, 13, none⟩ = some (.int .i64 ask) := by rw [cell_of_box hx0]; rfl
  have a0_14 : w2.cell? ⟨w.heap.size, 14, none⟩ = some (.bool send) := by rw [cell_of_box hx0]; rfl
  have a0_19 : w2.cell? ⟨w.heap.size, 19, none⟩ = some (.bool done) := by rw [cell_of_box hx0]; rfl
  have a1_0 : w2.cell? ⟨w.heap.size + 1, 0, none⟩ = some (.int .i64 d) := by rw [cell_of_box hx1]; rfl
  have a1_1 : w2.cell? ⟨w.heap.size + 1, 1, none⟩ = some (.int .i64 k) := by rw [cell_of_box hx1]; rfl
  have a1_2 : w2.cell? ⟨w.heap.size + 1, 2, none⟩ = some (.int .i64 num) := by rw [cell_of_box hx1]; rfl
  have a1_3 : w2.cell? ⟨w.heap.size + 1, 3, none⟩ = some (.int .i64 0) := by rw [cell_of_box hx1]; rfl
  have a1_4 : w2.cell? ⟨w.heap.size + 1, 4, none⟩ = some (.int .i64 0) := by rw [cell_of_box hx1]; rfl
  have a1_5 : w2.cell? ⟨w.heap.size + 1, 5, none⟩ = some (.string ⟨#[]⟩) := by rw [cell_of_box hx1]; rfl
  have a1_6 : w2.cell? ⟨w.heap.size + 1, 6, none⟩ = some (.string ⟨#[]⟩) := by rw [cell_of_box hx1]; rfl
  have a1_7 : w2.cell? ⟨w.heap.size + 1, 7, none⟩ = some (.slice B l.length e) := by rw [cell_of_box hx1]; rfl
  have a1_8 : w2.cell? ⟨w.heap.size + 1, 8, none⟩ = some (.int .i64 0) := by rw [cell_of_box hx1]; rfl
  have a1_9 : w2.cell? ⟨w.heap.size + 1, 9, none⟩ = some (.int .i64 0) := by rw [cell_of_box hx1]; rfl
  have a1_10 : w2.cell? ⟨w.heap.size + 1, 10, none⟩ = some (.string ⟨#[]⟩) := by rw [cell_of_box hx1]; rfl
  have a1_11 : w2.cell? ⟨w.heap.size + 1, 11, none⟩ = some (.slice none 0 0) := by rw [cell_of_box hx1]; rfl
  have a1_12 : w2.cell? ⟨w.heap.size + 1, 12, none⟩ = some (.bool false) := by rw [cell_of_box hx1]; rfl
  have a1_13 : w2.cell? ⟨w.heap.size + 1, 13, none⟩ = some (.int .i64 ask) := by rw [cell_of_box hx1]; rfl
  have a1_14 : w2.cell? ⟨w.heap.size + 1, 14, none⟩ = some (.bool send) := by rw [cell_of_box hx1]; rfl
  have a1_19 : w2.cell? ⟨w.heap.size + 1, 19, none⟩ = some (.bool done) := by rw [cell_of_box hx1]; rfl
  have hS := same18_calls k num ask A B c e l hl w2 (Kd.C_below hA hb2) hc (Kd.C_below hB hb2) he
  replace hw2 := Lib.hid hw2
  replace hb2 := Lib.hid hb2
  go_enter Tryz.func11, Tryz.ntmps11
  go_wp2_with fail
  rw [← hw2.out]
  go_wp2_with fail
  refine hS.mono ?_
  rintro e0 w3 ⟨rfl, hb3⟩
  clear hS a0_0 a0_1 a0_2 a0_3 a0_4 a0_5 a0_6 a0_7 a0_8 a0_9 a0_10 a0_11 a0_12 a0_13 a0_14 a0_19 a1_0 a1_1 a1_2 a1_3 a1_4 a1_5 a1_6 a1_7 a1_8 a1_9 a1_10 a1_11 a1_12 a1_13 a1_14 a1_19
  have hy0 := (hb3.block _ hlt0).trans hx0
  have hy1 := (hb3.block _ hlt1).trans hx1
  have hbw3 := hb2.out.trans (hb3.mono hb2.out.size)
  have b0_15 : w3.cell? ⟨w.heap.size, 15, none⟩ = some (.int .i64 rk) := by rw [cell_of_box hy0]; rfl
  have b0_16 : w3.cell? ⟨w.heap.size, 16, none⟩ = some (.int .i64 ri) := by rw [cell_of_box hy0]; rfl
  have b0_17 : w3.cell? ⟨w.heap.size, 17, none⟩ = some (.string rt) := by rw [cell_of_box hy0]; rfl
  have b0_18 : w3.cell? ⟨w.heap.size, 18, none⟩ = some (.slice rl.1 rl.2.1 rl.2.2) := by rw [cell_of_box hy0]; rfl
  have b1_15 : w3.cell? ⟨w.heap.size + 1, 15, none⟩ = some (.int .i64 rk) := by rw [cell_of_box hy1]; rfl
  have b1_16 : w3.cell? ⟨w.heap.size + 1, 16, none⟩ = some (.int .i64 ri) := by rw [cell_of_box hy1]; rfl
  have b1_17 : w3.cell? ⟨w.heap.size + 1, 17, none⟩ = some (.string rt) := by rw [cell_of_box hy1]; rfl
  have b1_18 : w3.cell? ⟨w.heap.size + 1, 18, none⟩ = some (.slice rl.1 rl.2.1 rl.2.2) := by rw [cell_of_box hy1]; rfl
  have hS := Same_refl nn rk ri rt rl.1 rl.2.1 rl.2.2 w3 (RepsOk.below hbw3 nn _ hrl)
  replace hbw3 := Lib.hid hbw3
  go_wp2_with fail
  refine hS.mono ?_
  rintro e0 w4 ⟨rfl, hb4⟩
  have hbw4 := hbw3.out.trans (hb4.mono hbw3.out.size)
  go_wp2_with fail
  go_ret
  exact ⟨rfl, hbw4⟩
end Go.Proofs.YtpbiohnmmngccaaGreatDoor
