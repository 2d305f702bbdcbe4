namespace Go.Proofs.Ytccehnjckfploaa
set_option linter.unusedVariables false
set_option linter.unusedSimpArgs false

/-- Two numbers, added in a ring. -/
def ringI (a b : Int) : Int := if 65536 ≤ a + b then a + b - 65535 else a + b

theorem ringI_bd (a b : Int) (ha : 0 ≤ a ∧ a ≤ 65535) (hb : 0 ≤ b ∧ b ≤ 65535) : 0 ≤ ringI a b ∧ ringI a b ≤ 65535 := by
  unfold ringI; split <;> omega

theorem ringI_alt (a b : Int) (ha : 0 ≤ a ∧ a ≤ 65535) (hb : 0 ≤ b ∧ b ≤ 65535) : (a + b) / 65536 + (a + b) % 65536 = ringI a b := by
  unfold ringI; split <;> omega

/-- The ring's sum of a row, from n on. -/
def inetL : Int → List UInt8 → Int
  | n, a :: b :: l => inetL (ringI n (a.toNat * 256 + b.toNat)) l
  | n, [a] => ringI n (a.toNat * 256)
  | n, [] => n

theorem bytes_bd (a : UInt8) : 0 ≤ (a.toNat : Int) ∧ (a.toNat : Int) ≤ 255 := by
  have := a.toNat_lt; omega

theorem inetL_bd (l : List UInt8) : ∀ n : Int, 0 ≤ n ∧ n ≤ 65535 → 0 ≤ inetL n l ∧ inetL n l ≤ 65535 := by
  intro n hn
  fun_induction inetL n l with
  | case1 n a b l ih =>
    have ha := bytes_bd a
    have hb := bytes_bd b
    exact ih (ringI_bd _ _ hn (by omega))
  | case2 n a => have ha := bytes_bd a; exact ringI_bd _ _ hn (by omega)
  | case3 n => exact hn

/-- The low half of a sum behind a row, and the high one. -/
def loL : Int → List UInt8 → Int
  | l, [] => l
  | l, b :: t => loL ((l + b.toNat) % 65521) t
def hiL : Int → Int → List UInt8 → Int
  | _, h, [] => h
  | l, h, b :: t => hiL ((l + b.toNat) % 65521) ((h + (l + b.toNat) % 65521) % 65521) t

theorem loL_bd (t : List UInt8) : ∀ l : Int, 0 ≤ l ∧ l ≤ 65520 → 0 ≤ loL l t ∧ loL l t ≤ 65520 := by
  induction t with
  | nil => intro l h; exact h
  | cons b t ih => intro l h; exact ih _ (by omega)
theorem hiL_bd (t : List UInt8) : ∀ l h : Int, 0 ≤ h ∧ h ≤ 65520 → 0 ≤ hiL l h t ∧ hiL l h t ≤ 65520 := by
  induction t with
  | nil => intro l h hh; exact hh
  | cons b t ih => intro l h hh; exact ih _ _ (by omega)

/-- A sum of a row, from a sum on. -/
def moreL (n : Int) (t : List UInt8) : Int := hiL (n % 65536 % 65521) (n / 65536 % 65521) t * 65536 + loL (n % 65536 % 65521) t

theorem moreL_bd (n : Int) (h : 0 ≤ n) (t : List UInt8) : 0 ≤ moreL n t ∧ moreL n t ≤ 4294967295 := by
  have h1 := loL_bd t (n % 65536 % 65521) (by omega)
  have h2 := hiL_bd t (n % 65536 % 65521) (n / 65536 % 65521) (by omega)
  unfold moreL; omega

/-- The sum of parts, from a sum on. -/
def ofL : Int → List ByteArray → Int
  | n, [] => n
  | n, s :: t => ofL (moreL n s.data.toList) t
theorem ofL_bd (t : List ByteArray) : ∀ n : Int, 0 ≤ n ∧ n ≤ 4294967295 → 0 ≤ ofL n t ∧ ofL n t ≤ 4294967295 := by
  induction t with
  | nil => intro n h; exact h
  | cons s t ih => intro n h; exact ih _ (moreL_bd _ h.1 _)

/-- The four bytes of a sum. -/
def four (n : Int) : List Int := [n / 16777216, n / 65536 % 256, n / 256 % 256, n % 256]

end Go.Proofs.Ytccehnjckfploaa
