/- THE LEXER AS A PLAIN FUNCTION: what lex.Lex, lex.Text, lex.Same and lex.Name compute, over lists of bytes. -/
import Derived.Test.YtomglbjcfcijkaaDoorPLxx0
namespace Go.Proofs.YtomglbjcfcijkaaDoor.PLx
open Go.RowKit Go.Proofs.YtomglbjcfcijkaaDoorW.PrintWords Go.Proofs.YtomglbjcfcijkaaDoorW.PrintLast Go.Proofs.YtomglbjcfcijkaaDoorW.PrintMore

abbrev Tok := S35
/-- The signs. -/
def signBytes : List Int := [123, 125, 40, 41, 59, 44, 61, 35, 47, 60, 33, 45, 46]
/-- The class of a byte: 0 other, 1 space, 2 letter, 3 digit, 4 sign, 5 line. -/
def cls (c : Int) : Int :=
  if 97 ≤ c ∧ c ≤ 122 ∨ 65 ≤ c ∧ c ≤ 90 then 2 else if 48 ≤ c ∧ c ≤ 57 then 3 else if c = 95 then 5 else if c = 32 ∨ c = 9 ∨ c = 10 ∨ c = 13 then 1
  else if c ∈ signBytes then 4 else 0
def kl (c : UInt8) : Int := cls (c.toNat : Int)
def isPart (c : UInt8) : Bool := kl c == 2 || kl c == 3 || kl c == 5
def isDig (c : UInt8) : Bool := kl c == 3
def bs (l : List UInt8) : ByteArray := ⟨l.toArray⟩
/-- A name. -/
def isName (l : List UInt8) : Bool :=
  match l with
  | [] => false
  | c :: cs => decide (cs.length < 32) && kl c == 2 && cs.all isPart
/-- The number that some digits denote. -/
def numVal (l : List UInt8) : Nat := l.foldl (fun n c => 10 * n + (c.toNat - 48)) 0
def okNum (l : List UInt8) : Bool := (l.length == 1 || l.head? != some 48) && decide (numVal l ≤ 1099511627776)
def cons1 (t : Tok) : Except Nat (List Tok) → Except Nat (List Tok)
  | .ok l => .ok (t :: l)
  | .error p => .error p
/-- The tokens of what is left of a source, from the place p on; or the place of an error. The number counts rounds. -/
def lexL : Nat → List UInt8 → Nat → Except Nat (List Tok)
  | 0, _, _ => .ok []
  | _ + 1, [], _ => .ok []
  | n + 1, c :: cs, p =>
    if kl c = 1 then lexL n cs (p + 1)
    else if kl c = 2 then
      if (cs.takeWhile isPart).length < 32 then cons1 ⟨1, bs (c :: cs.takeWhile isPart), 0, p⟩ (lexL n (cs.dropWhile isPart) (p + 1 + (cs.takeWhile isPart).length))
      else .error p
    else if kl c = 3 then
      if okNum (c :: cs.takeWhile isDig) = true then cons1 ⟨2, bs [], numVal (c :: cs.takeWhile isDig), p⟩ (lexL n (cs.dropWhile isDig) (p + 1 + (cs.takeWhile isDig).length))
      else .error p
    else if kl c = 4 then
      if c = 47 ∧ cs.head? = some 47 then lexL n (cs.dropWhile fun b => b != 10) (p + 1 + (cs.takeWhile fun b => b != 10).length)
      else cons1 ⟨3, bs [c], 0, p⟩ (lexL n cs (p + 1))
    else .error p
def lexOf (l : List UInt8) : Except Nat (List Tok) := lexL (l.length + 1) l 0
/-- lex.Lex. -/
def lex_Lex.f (a0 : ByteArray) : Option (List Tok × Int × Int) :=
  if 65536 < a0.size then some ([], 0, 2)
  else match lexOf a0.data.toList with
    | .ok l => some (l, 0, 0)
    | .error p => some ([], p, 90)
/-- A number's digits; k: at most so many. -/
def digs : Nat → Nat → List UInt8
  | 0, _ => []
  | k + 1, u => if u < 10 then [UInt8.ofNat (48 + u)] else digs k (u / 10) ++ [UInt8.ofNat (48 + u % 10)]
/-- Is a token valid? -/
def validT (t : Tok) : Bool :=
  if t.f0 = 1 then isName t.f1.data.toList && t.f2 == 0
  else if t.f0 = 2 then t.f1.data.toList.isEmpty && decide (0 ≤ t.f2) && decide (t.f2 ≤ 1099511627776)
  else if t.f0 = 3 then
    (match t.f1.data.toList with
    | [c] => kl c == 4
    | _ => false) && t.f2 == 0
  else false
/-- A token's text. -/
def wordOf (t : Tok) : List UInt8 := if t.f0 = 2 then digs 20 t.f2.toNat else t.f1.data.toList
/-- Words, with one space between two. -/
def joinW : List (List UInt8) → List UInt8
  | [] => []
  | [x] => x
  | x :: y :: r => x ++ 32 :: joinW (y :: r)
def textOf (l : List Tok) : List UInt8 := joinW (l.map wordOf)
/-- How long what is joined may be, that memory bears it (far beyond what the statements ask). -/
def textMost : Nat := 1099511627776
/-- lex.Text. -/
def lex_Text.f (l : List Tok) : Option (ByteArray × Int) :=
  if textMost < l.length then none
  else if l.all validT = true then (if (textOf l).length ≤ textMost then some (bs (textOf l), 0) else none)
  else some (bs [], 90)
/-- lex.Same. -/
def sameTok (x y : Tok) : Bool := x.f0 == y.f0 && x.f1.data.toList == y.f1.data.toList && x.f2 == y.f2
def sameToks : List Tok → List Tok → Bool
  | [], [] => true
  | x :: xs, y :: ys => sameTok x y && sameToks xs ys
  | _, _ => false
def lex_Same.f (a b : List Tok) : Option Bool := some (sameToks a b)
end Go.Proofs.YtomglbjcfcijkaaDoor.PLx
