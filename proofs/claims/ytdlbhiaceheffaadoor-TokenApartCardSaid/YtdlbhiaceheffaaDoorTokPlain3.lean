/- Plain facts: the tokens of a scan stand apart. -/
import Derived.Test.YtdlbhiaceheffaaDoorTokPlain2
namespace Go.Proofs.YtdlbhiaceheffaaDoor
namespace Tok
theorem stop_not (p : UInt8 → Bool) (s : ByteArray) (k : Nat) (hk : k ≤ s.size) (h : stop p s k < s.size) : p (byte s (stop p s k)) = false := by
  obtain ⟨d, hd⟩ : ∃ d, s.size - k = d := ⟨_, rfl⟩
  induction d generalizing k with
  | zero => have := stop_ge p s k; omega
  | succ d ih =>
    have hlt : k < s.size := by omega
    cases hp : p s[k]
    · rw [stop_here hlt hp, byte_eq s k hlt]; exact hp
    · rw [← stop_step hlt hp] at h ⊢
      exact ih (k + 1) (by omega) h (by omega)
/-- Where a token ends. -/
def ends (t : Tk) : Nat := t.pos + t.text.size + if t.kind = 4 then 2 else 0
def plainKind (k : Nat) : Bool := decide (k = 1) || decide (k = 2) || decide (k = 3)
/-- A token that stands wrongly right behind another one. -/
def bad (pk : Nat) (t : Tk) (a : Nat) : Bool := plainKind t.kind && decide (t.pos = a) && plainKind pk && !(decide (pk = 3) && !decide (t.kind = 3))
def apart (s : ByteArray) : Nat → Nat → List Tk → Prop
  | a, pk, [] => a = s.size ∧ pk = 6
  | a, pk, t :: r => a ≤ t.pos ∧ t.pos ≤ s.size ∧ (∀ k, a ≤ k → k < t.pos → byte s k = 32 ∨ byte s k = 10) ∧ bad pk t a = false ∧ ends t ≤ s.size ∧ apart s (ends t) t.kind r
/-- What may not stand behind a token of a kind. -/
def shut (s : ByteArray) (a pk : Nat) : Prop := a < s.size → ((pk = 1 ∨ pk = 2) → isPart (byte s a) = false) ∧ (pk = 3 → isDigit (byte s a) = false)
theorem next_apart (s : ByteArray) (k : Nat) (h : k < s.size) (_hok : (next s k).2.2 = true) :
    (next s k).1.pos = k ∧ ends (next s k).1 = k + (next s k).2.1 ∧ shut s (k + (next s k).2.1) (next s k).1.kind ∧
    (((next s k).1.kind = 1 ∨ (next s k).1.kind = 2) → isLetter (byte s k) = true) ∧ ((next s k).1.kind = 3 → isDigit (byte s k) = true) := by
  unfold next
  by_cases hl : isLetter (byte s k) = true
  · simp only [hl, if_true]
    have h1 := stop_le isPart s k (by omega)
    have h2 := stop_ge isPart s k
    have h3 := stop_not isPart s k (by omega)
    refine ⟨trivial, ?_, ?_, fun _ => trivial, ?_⟩
    · unfold ends
      simp only [ByteArray.size_extract]
      rw [if_neg (by split <;> omega)]
      omega
    · intro hlt
      have e : k + (stop isPart s k - k) = stop isPart s k := by omega
      rw [e] at hlt ⊢
      refine ⟨fun _ => h3 hlt, fun hh => ?_⟩
      split at hh <;> omega
    · intro hh; split at hh <;> omega
  · by_cases hd : isDigit (byte s k) = true
    · simp only [hl, hd, if_true, if_false, Bool.false_eq_true]
      have h1 := stop_le isDigit s k (by omega)
      have h2 := stop_ge isDigit s k
      have h3 := stop_not isDigit s k (by omega)
      refine ⟨trivial, ?_, ?_, ?_, fun _ => trivial⟩
      · unfold ends; simp only [ByteArray.size_extract]; simp; omega
      · intro hlt
        have e : k + (stop isDigit s k - k) = stop isDigit s k := by omega
        rw [e] at hlt ⊢
        exact ⟨by omega, fun _ => h3 hlt⟩
      · omega
    · by_cases hq : byte s k = 34
      · simp only [hl, hd, if_false, Bool.false_eq_true]
        rw [if_pos hq]
        have h1 := stop_le isPlain s (k + 1) (by omega)
        have h2 := stop_ge isPlain s (k + 1)
        refine ⟨rfl, ?_, fun _ => ⟨by simp, by simp⟩, by simp, by simp⟩
        unfold ends; simp only [ByteArray.size_extract]; simp; omega
      · by_cases ht : two s k = true
        · simp only [hl, hd, hq, ht, if_true, if_false, Bool.false_eq_true]
          have := two_size s k ht
          refine ⟨trivial, ?_, fun _ => ⟨by simp, by simp⟩, by simp, by simp⟩
          unfold ends; simp only [ByteArray.size_extract]; simp; omega
        · simp only [hl, hd, hq, ht, if_false, Bool.false_eq_true]
          refine ⟨trivial, ?_, fun _ => ⟨by simp, by simp⟩, by simp, by simp⟩
          unfold ends; simp only [ByteArray.size_extract]; simp; omega
theorem scanFrom_apart (s : ByteArray) : ∀ (f k : Nat) (o l : List Tk), k ≤ s.size → s.size < k + f → scanFrom s f k o = .ok l →
    ∃ r, l = o ++ r ∧ ∀ a pk, a ≤ k → (∀ j, a ≤ j → j < k → byte s j = 32 ∨ byte s j = 10) → shut s a pk → apart s a pk r := by
  intro f
  induction f with
  | zero => intro k o l hk hf; omega
  | succ f ih =>
    intro k o l hk hf h
    rw [scanFrom] at h
    by_cases hlt : k < s.size
    · rw [if_pos hlt] at h
      by_cases hb : byte s k = 32 ∨ byte s k = 10
      · rw [if_pos hb] at h
        obtain ⟨r, hr, hap⟩ := ih (k + 1) o l (by omega) (by omega) h
        refine ⟨r, hr, fun a pk ha hbl hsh => hap a pk (by omega) (fun j h1 h2 => ?_) hsh⟩
        by_cases hj : j = k
        · subst hj; exact hb
        · exact hbl j h1 (by omega)
      · rw [if_neg hb] at h
        by_cases hok : (next s k).2.2 = false
        · rw [if_pos hok] at h; cases h
        · rw [if_neg hok] at h
          by_cases hl : o.length = 1000
          · rw [if_pos hl] at h; cases h
          · rw [if_neg hl] at h
            have hok' : (next s k).2.2 = true := by simpa using hok
            have hn := next_bound s k hlt hok'
            have hx := next_apart s k hlt hok'
            obtain ⟨r, hr, hap⟩ := ih _ _ l (by omega) (by omega) h
            refine ⟨(next s k).1 :: r, by rw [hr]; simp, fun a pk ha hbl hsh => ?_⟩
            obtain ⟨x1, x2, x3, x4, x5⟩ := hx
            refine ⟨by rw [x1]; exact ha, by rw [x1]; omega, by rw [x1]; exact hbl, ?_, by rw [x2]; exact hn.2, ?_⟩
            · cases hbad : bad pk (next s k).1 a
              · rfl
              · exfalso
                unfold bad at hbad
                simp only [Bool.and_eq_true, decide_eq_true_eq, x1] at hbad
                obtain ⟨⟨⟨h1, rfl⟩, h3⟩, h4⟩ := hbad
                have hs := hsh hlt
                unfold plainKind at h1 h3
                simp only [Bool.or_eq_true, decide_eq_true_eq] at h1 h3
                have hletter : isLetter (byte s k) = true → isPart (byte s k) = true := fun h => by unfold isPart; rw [h]; rfl
                have hdigit : isDigit (byte s k) = true → isPart (byte s k) = true := fun h => by unfold isPart; rw [h]; simp
                rcases h1 with h1 | h1
                · have hL := x4 h1
                  rcases h3 with h3 | h3
                  · exact absurd (hletter hL) (by rw [hs.1 h3]; simp)
                  · subst h3
                    have : (next s k).1.kind ≠ 3 := by omega
                    simp [this] at h4
                · have hD := x5 h1
                  rcases h3 with h3 | h3
                  · exact absurd (hdigit hD) (by rw [hs.1 h3]; simp)
                  · exact absurd hD (by rw [hs.2 h3]; simp)
            · rw [x2]
              exact hap _ _ (Nat.le_refl _) (fun j h1 h2 => by omega) x3
    · rw [if_neg hlt] at h
      obtain rfl := Except.ok.inj h
      refine ⟨[⟨6, ⟨#[]⟩, s.size⟩], rfl, fun a pk ha hbl hsh => ?_⟩
      have : k = s.size := by omega
      subst this
      exact ⟨ha, Nat.le_refl _, hbl, by simp [bad, plainKind], Nat.le_refl _, rfl, rfl⟩
theorem scan_apart (s : ByteArray) (l : List Tk) (h : scan s = .ok l) : apart s 0 0 l := by
  have hs := (scan_ok s l h).2.2
  unfold scan at h
  rw [if_neg (by omega)] at h
  obtain ⟨r, hr, hap⟩ := scanFrom_apart s (s.size + 1) 0 [] l (by omega) (by omega) h
  rw [hr]
  exact hap 0 0 (Nat.le_refl _) (fun j _ h => by omega) (fun _ => ⟨by omega, by omega⟩)
theorem scanFrom_err (s : ByteArray) : ∀ (f k : Nat) (o : List Tk) (e p : Nat), scanFrom s f k o = .error (e, p) → e = 1 ∨ e = 2 := by
  intro f
  induction f with
  | zero => intro k o e p h; cases h
  | succ f ih =>
    intro k o e p h
    rw [scanFrom] at h
    by_cases hlt : k < s.size
    · rw [if_pos hlt] at h
      by_cases hb : byte s k = 32 ∨ byte s k = 10
      · rw [if_pos hb] at h; exact ih _ _ _ _ h
      · rw [if_neg hb] at h
        by_cases hok : (next s k).2.2 = false
        · rw [if_pos hok] at h
          have := Except.error.inj h
          simp only [Prod.mk.injEq] at this; omega
        · rw [if_neg hok] at h
          by_cases hl : o.length = 1000
          · rw [if_pos hl] at h
            have := Except.error.inj h
            simp only [Prod.mk.injEq] at this; omega
          · rw [if_neg hl] at h; exact ih _ _ _ _ h
    · rw [if_neg hlt] at h; cases h
theorem scan_err (s : ByteArray) (e p : Nat) (h : scan s = .error (e, p)) : e = 1 ∨ e = 2 := by
  unfold scan at h
  by_cases hs : 4000 < s.size
  · rw [if_pos hs] at h
    have := Except.error.inj h
    simp only [Prod.mk.injEq] at this; omega
  · rw [if_neg hs] at h; exact scanFrom_err s _ _ _ e p h
end Tok
end Go.Proofs.YtdlbhiaceheffaaDoor
