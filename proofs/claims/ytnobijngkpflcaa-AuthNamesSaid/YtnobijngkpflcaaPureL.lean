/-
  Authorities out of objects.
-/
import Derived.Test.YtnobijngkpflcaaEngO
namespace Go.Eng
def idsP (x : V) (e : Int) : List ByteArray := if tkB x e ⟨#[107, 101, 121, 105, 100, 115]⟩ (textsE 16) then textsL 16 (getV x ⟨#[107, 101, 121, 105, 100, 115]⟩) else []
def e1P (x : V) (e : Int) : Int := tkE x e ⟨#[107, 101, 121, 105, 100, 115]⟩ (textsE 16)
def e2P (x : V) (e : Int) : Int := if (idsP x e).length = 0 then failK x.k (e1P x e) 4 else e1P x e
def e3P (x : V) (e : Int) : Int := failK x.k (e2P x e) (wrongE [] (idsP x e))
def partE (x : V) (e : Int) : Int := tkE x (e3P x e) ⟨#[116, 104, 114, 101, 115, 104, 111, 108, 100]⟩ (numE 1 (idsP x e).length)
def partM (x : V) (A : As) (e : Int) : As := tkA x (tkA x A e ⟨#[107, 101, 121, 105, 100, 115]⟩ (textsE 16)) (e3P x e) ⟨#[116, 104, 114, 101, 115, 104, 111, 108, 100]⟩ (numE 1 (idsP x e).length)
def thP (x : V) (e : Int) : Int := if tkB x (e3P x e) ⟨#[116, 104, 114, 101, 115, 104, 111, 108, 100]⟩ (numE 1 (idsP x e).length) then numV 1 (idsP x e).length (getV x ⟨#[116, 104, 114, 101, 115, 104, 111, 108, 100]⟩) else 0
def partA (x : V) (e : Int) : Au := if errK x.k (partE x e) ≠ 0 then ⟨0, []⟩ else ⟨thP x e, idsP x e⟩
def ofAE (x : V) : Int := if mayB x = false then 3 else if ofE x ≠ 0 then ofE x else doneE x (partM x [] 0) (partE x 0)
def ofAV (x : V) : Au := if ofAE x = 0 then partA x 0 else ⟨0, []⟩
theorem ofE_dead {x : V} (h : ofE x ≠ 0) : errK 0 (ofE x) = ofE x := by rw [errK, if_neg (by simp [h])]
end Go.Eng
