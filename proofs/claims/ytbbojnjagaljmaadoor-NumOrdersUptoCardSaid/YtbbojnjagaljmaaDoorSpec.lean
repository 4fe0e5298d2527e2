/- Plain functions on bytes: the parts of a path, clean paths, joined texts; and what holds of them. -/
import Derived.Lib.IndexLaws
import Derived.Lib.Bytes
import Derived.Lib.Join
import Derived.Lib.IndexAny
namespace Go.Proofs.YtbbojnjagaljmaaDoor.Sp
open Go Go.Lib

def mk (l : List UInt8) : ByteArray := ⟨l.toArray⟩
@[simp] theorem mk_data (l : List UInt8) : (mk l).data.toList = l := by simp [mk]
theorem mk_toList (l : List UInt8) : (mk l).toList = l := by rw [toList_data, mk_data]
theorem mk_of (s : ByteArray) : mk s.data.toList = s := by
  apply ByteArray.ext
  simp [mk]
theorem mk_size (l : List UInt8) : (mk l).size = l.length := by simp [mk, ByteArray.size]
theorem size_eq (s : ByteArray) : s.size = s.data.toList.length := by rw [Array.length_toList]; rfl
theorem mk_cons (c : UInt8) (l : List UInt8) : mk (c :: l) = ⟨#[c]⟩ ++ mk l := by
  apply ByteArray.ext
  simp [mk]
theorem mk_append (a b : List UInt8) : mk (a ++ b) = mk a ++ mk b := by
  apply ByteArray.ext
  simp [mk]
theorem mk_inj {a b : List UInt8} (h : mk a = mk b) : a = b := by
  have := congrArg (fun x : ByteArray => x.data.toList) h
  simpa using this

/-- A part that counts is kept. -/
def keep (now : List UInt8) (r : List (List UInt8)) : List (List UInt8) := if now = [] ∨ now = [46] then r else now :: r
def go (now : List UInt8) : List UInt8 → List (List UInt8)
  | [] => keep now []
  | c :: l => if c = 47 then keep now (go [] l) else go (now ++ [c]) l
def parts (s : List UInt8) : List (List UInt8) := go [] s
def climb (out : List (List UInt8)) (p : List UInt8) : List (List UInt8) := if p = [46, 46] then out.dropLast else out ++ [p]
def climbs (l : List (List UInt8)) : List (List UInt8) := l.foldl climb []
def text (l : List (List UInt8)) : List UInt8 := 47 :: Lib.join l [47]
def clean (s : List UInt8) : List UInt8 := text (climbs (parts s))

theorem go_none (now l : List UInt8) (h : ∀ k : Nat, l[k]? ≠ some (47 : UInt8)) : go now l = keep (now ++ l) [] := by
  induction l generalizing now with
  | nil => simp [go]
  | cons c l ih =>
    have hc : c ≠ 47 := fun e => h 0 (by simp [e])
    rw [go, if_neg hc, ih _ (fun k => by simpa using h (k + 1))]
    simp
theorem go_at (now : List UInt8) (o : Nat) (l : List UInt8) (h : l[o]? = some (47 : UInt8)) (hb : ∀ k : Nat, k < o → l[k]? ≠ some (47 : UInt8)) : go now l = keep (now ++ l.take o) (go [] (l.drop (o + 1))) := by
  induction o generalizing now l with
  | zero =>
    cases l with
    | nil => simp at h
    | cons c l =>
      obtain rfl : c = 47 := by simpa using h
      rw [go, if_pos rfl]
      simp
  | succ o ih =>
    cases l with
    | nil => simp at h
    | cons c l =>
      have hc : c ≠ 47 := fun e => hb 0 (by omega) (by simp [e])
      rw [go, if_neg hc, ih _ _ (by simpa using h) (fun k hk => by simpa using hb (k + 1) (by omega))]
      simp
theorem parts_none (s : List UInt8) (h : indexByte s 47 = -1) : parts s = keep s [] := by
  rw [parts, go_none _ _ (indexByte_none h), List.nil_append]
theorem parts_at (s : List UInt8) (o : Nat) (h : indexByte s 47 = o) : parts s = keep (s.take o) (parts (s.drop (o + 1))) := by
  obtain ⟨h1, h2⟩ := indexByte_some h
  rw [parts, go_at _ o _ h1 h2, List.nil_append, parts]
@[simp] theorem parts_nil : parts [] = [] := by simp [parts, go, keep]
theorem keep_app (now : List UInt8) (r : List (List UInt8)) : keep now r = keep now [] ++ r := by unfold keep; split <;> simp
theorem keep_one (now : List UInt8) : (keep now []).length ≤ 1 := by unfold keep; split <;> simp
theorem keep_len (now : List UInt8) (r : List (List UInt8)) : (keep now r).length ≤ now.length + r.length := by
  unfold keep
  split
  · omega
  · rename_i h
    cases now with
    | nil => simp at h
    | cons c l => simp; omega
theorem go_len (now l : List UInt8) : (go now l).length ≤ now.length + l.length := by
  induction l generalizing now with
  | nil => rw [go]; have := keep_len now []; simpa using this
  | cons c l ih =>
    rw [go]
    split
    · have h1 := keep_len now (go [] l)
      have h2 := ih []
      simp at h2 ⊢
      omega
    · have := ih (now ++ [c])
      simp at this ⊢
      omega
theorem parts_len (s : List UInt8) : (parts s).length ≤ s.length := by have := go_len [] s; simpa [parts] using this

/-- How much room parts take, each with a slash. -/
def room (l : List (List UInt8)) : Nat := (l.map fun x => x.length + 1).sum
@[simp] theorem room_nil : room [] = 0 := rfl
@[simp] theorem room_cons (x : List UInt8) (l : List (List UInt8)) : room (x :: l) = x.length + 1 + room l := by simp [room]
theorem room_append (l m : List (List UInt8)) : room (l ++ m) = room l + room m := by simp [room]
theorem keep_room (now : List UInt8) (r : List (List UInt8)) : room (keep now r) ≤ now.length + 1 + room r := by
  unfold keep
  split
  · omega
  · simp
theorem go_room (now l : List UInt8) : room (go now l) ≤ now.length + l.length + 1 := by
  induction l generalizing now with
  | nil => rw [go]; have := keep_room now []; simpa using this
  | cons c l ih =>
    rw [go]
    split
    · have h1 := keep_room now (go [] l)
      have h2 := ih []
      simp at h2 ⊢
      omega
    · have := ih (now ++ [c])
      simp at this ⊢
      omega
theorem parts_room (s : List UInt8) : room (parts s) ≤ s.length + 1 := by have := go_room [] s; simpa [parts] using this
theorem dropLast_room (l : List (List UInt8)) : room l.dropLast ≤ room l := by
  rcases List.eq_nil_or_concat l with h | ⟨a, b, rfl⟩
  · subst h; simp
  · rw [List.concat_eq_append, List.dropLast_concat, room_append]; omega
theorem climb_room (out : List (List UInt8)) (p : List UInt8) : room (climb out p) ≤ room out + (p.length + 1) := by
  unfold climb
  split
  · have := dropLast_room out; omega
  · rw [room_append]; simp
theorem foldl_room (l out : List (List UInt8)) : room (l.foldl climb out) ≤ room out + room l := by
  induction l generalizing out with
  | nil => simp
  | cons p l ih =>
    have h1 := ih (climb out p)
    have h2 := climb_room out p
    simp at h1 ⊢
    omega
theorem climbs_room (l : List (List UInt8)) : room (climbs l) ≤ room l := by have := foldl_room l []; simpa [climbs] using this
theorem climbs_snoc (l : List (List UInt8)) (p : List UInt8) : climbs (l ++ [p]) = climb (climbs l) p := by simp [climbs]
theorem climb_len (out : List (List UInt8)) (p : List UInt8) : (climb out p).length ≤ out.length + 1 := by
  unfold climb
  split <;> simp
  omega
theorem foldl_len (l out : List (List UInt8)) : (l.foldl climb out).length ≤ out.length + l.length := by
  induction l generalizing out with
  | nil => simp
  | cons p l ih =>
    have h1 := ih (climb out p)
    have h2 := climb_len out p
    simp at h1 ⊢
    omega
theorem climbs_len (l : List (List UInt8)) : (climbs l).length ≤ l.length := by have := foldl_len l []; simpa [climbs] using this
theorem tail_room (l : List (List UInt8)) : (Lib.joinTail [47] l).length = room l := by
  induction l with
  | nil => rfl
  | cons x l ih => simp [Lib.joinTail] at ih ⊢; rw [ih]; omega
theorem join_room (l : List (List UInt8)) : (Lib.join l [47]).length ≤ room l := by
  cases l with
  | nil => simp [Lib.join_nil]
  | cons x l =>
    rw [Lib.join_cons, List.length_append, tail_room, room_cons]
    omega

theorem mem_room {x : List UInt8} {l : List (List UInt8)} (h : x ∈ l) : x.length + 1 ≤ room l := by
  induction l with
  | nil => cases h
  | cons y l ih =>
    rw [room_cons]
    rcases List.mem_cons.1 h with rfl | h
    · omega
    · have := ih h; omega
theorem len_room (l : List (List UInt8)) : l.length ≤ room l := by
  induction l with
  | nil => simp
  | cons y l ih => rw [room_cons, List.length_cons]; omega
/-- What is wrong with a name. -/
def check (s : List UInt8) : Int := if s = [] then 5 else if 64 < s.length ∨ (47 ∈ s ∨ 0 ∈ s) then 11 else if s = [46] ∨ s = [46, 46] then 6 else 0
def right (s : List UInt8) : Bool := decide (check s = 0)
theorem containsAny_iff (s chars : List UInt8) : Lib.containsAny s chars = true ↔ ∃ b ∈ s, b ∈ chars := by
  rw [Lib.containsAny, decide_eq_true_eq]
  induction s with
  | nil => simp [Lib.indexAny]
  | cons b l ih =>
    have hge := Lib.indexAny_ge chars l
    unfold Lib.indexAny
    by_cases h : chars.contains b = true
    · rw [if_pos h]
      exact ⟨fun _ => ⟨b, by simp, by simpa using h⟩, fun _ => Int.le_refl _⟩
    · rw [if_neg h]
      have hb : b ∉ chars := by simpa using h
      by_cases h2 : (Lib.indexAny l chars == -1) = true
      · rw [if_pos h2]
        have h3 : Lib.indexAny l chars = -1 := by simpa using h2
        constructor
        · intro h4; omega
        · rintro ⟨x, hx, hc⟩
          rcases List.mem_cons.1 hx with rfl | hx
          · exact absurd hc hb
          · have := ih.2 ⟨x, hx, hc⟩; omega
      · rw [if_neg h2]
        have h3 : Lib.indexAny l chars ≠ -1 := by simpa using h2
        constructor
        · intro _
          obtain ⟨x, hx, hc⟩ := ih.1 (by omega)
          exact ⟨x, List.mem_cons_of_mem _ hx, hc⟩
        · intro _; omega

end Go.Proofs.YtbbojnjagaljmaaDoor.Sp
