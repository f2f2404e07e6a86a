/- The rows' closed facts, part by part. -/
import Derived.Test.YtcgagmojgjbfpaaDoorRows
import Derived.ProofKit
import Derived.Below
import Derived.OpenShut
import Derived.ChangeOld
import Derived.ShutString
namespace Go.Proofs.YtcgagmojgjbfpaaDoor
open Go
theorem j_laid : laidOutB Tryd.prog = true := by kernel_rfl
theorem j_own : ownKnob Tryd.prog.godebug = none := by kernel_rfl
theorem j_maps : mapsRowed Tryd.prog = true := by kernel_rfl
theorem j_stops : Tryd.prog.stops = [] := by kernel_rfl
theorem j_knobs : Tryd.prog.stopKnobs = [] := by kernel_rfl
theorem j_heard : Tryd.prog.stopsHeard = true := by kernel_rfl
theorem words_cut (a b : List Char) (ha : (a.all fun c => !(c == Char.ofNat 32)) = true) : wordsSigns (a ++ Char.ofNat 32 :: b) = a :: wordsSigns b := by
  induction a with
  | nil => rfl
  | cons c a ih =>
    simp only [List.all_cons, Bool.and_eq_true, Bool.not_eq_true', beq_eq_false_iff_ne, ne_eq] at ha
    rw [List.cons_append, wordsSigns]
    · rw [ih ha.2]
    · exact fun h => ha.1 h
theorem words_head {P : Program} {h s c b : List Char} (hl : P.initOrder.toList = h ++ Char.ofNat 32 :: (s ++ Char.ofNat 32 :: (c ++ Char.ofNat 32 :: b))) (hh : h = "harness".toList) (hs : isSumSigns s = true)
    (h0 : (h.all fun c => !(c == Char.ofNat 32)) = true) (s0 : (s.all fun c => !(c == Char.ofNat 32)) = true) (c0 : (c.all fun c => !(c == Char.ofNat 32)) = true) : behindMainWord (wordsSigns P.initOrder.toList) = c :: wordsSigns b := by
  rw [hl, words_cut _ _ h0, words_cut _ _ s0, words_cut _ _ c0]
  unfold behindMainWord
  dsimp only
  rw [hs, hh, beq_self_eq_true]
  simp
theorem lifts_cut (l : List String) (w : List Char) (ws : List (List Char)) (h : (l.all fun o => !(w == o.toList)) = true) : stripLifts l (w :: ws) = ([], w :: ws) := by
  induction l with
  | nil => rfl
  | cons o l ih =>
    simp only [List.all_cons, Bool.and_eq_true, Bool.not_eq_true'] at h
    rw [stripLifts, h.1]
    simp only [Bool.false_eq_true, if_false]
    exact ih h.2
theorem enter_cut {P : Program} {c : List Char} {ws : List (List Char)} (h : behindMainWord (wordsSigns P.initOrder.toList) = c :: ws) (hc : c = "cut".toList) (hl : (liftWords.all fun o => !(c == o.toList)) = true) (h1 : P.laysLater = false) (h2 : P.bearsReflect = false) (h3 : P.doorFits [] = true) : P.mayEnter = true := by
  unfold Program.mayEnter
  rw [h]
  dsimp only
  rw [lifts_cut _ _ _ hl]
  subst hc
  simp only [h1, h2, h3, List.head?_cons, beq_self_eq_true, Bool.not_false, Bool.or_true, Bool.and_true, List.contains_nil]
theorem lifted_cut {P : Program} {c : List Char} {ws : List (List Char)} (h : behindMainWord (wordsSigns P.initOrder.toList) = c :: ws) (hc : c = "cut".toList) (hl : (liftWords.all fun o => !(c == o.toList)) = true) (hr : (c == "carried".toList) = false) : P.liftsFinal = false := by
  unfold Program.liftsFinal Program.headLifts
  rw [h]
  dsimp only
  rw [lifts_cut _ _ _ hl]
  simp only [List.head?_cons]
  have e : (some c == some "carried".toList) = false := hr
  rw [e]
  subst hc
  simp
theorem make_cut {P : Program} {c : List Char} {ws : List (List Char)} (h : behindMainWord (wordsSigns P.initOrder.toList) = c :: ws) (hc : c = "cut".toList) (hg : (c == "gc".toList || c == "spec".toList) = false) : P.make = some .cut := by
  unfold Program.make
  rw [h]
  dsimp only
  rw [hg, hc]
  simp
def j_h : List Char := [Char.ofNat 104, Char.ofNat 97, Char.ofNat 114, Char.ofNat 110, Char.ofNat 101, Char.ofNat 115, Char.ofNat 115]
def j_s : List Char := [Char.ofNat 53, Char.ofNat 100, Char.ofNat 53, Char.ofNat 55, Char.ofNat 100, Char.ofNat 100, Char.ofNat 57, Char.ofNat 100, Char.ofNat 97, Char.ofNat 97, Char.ofNat 48, Char.ofNat 100, Char.ofNat 50, Char.ofNat 102, Char.ofNat 52, Char.ofNat 53, Char.ofNat 49, Char.ofNat 50, Char.ofNat 52, Char.ofNat 48, Char.ofNat 52, Char.ofNat 56, Char.ofNat 100, Char.ofNat 56, Char.ofNat 50, Char.ofNat 49, Char.ofNat 49, Char.ofNat 97, Char.ofNat 50, Char.ofNat 51, Char.ofNat 52, Char.ofNat 52, Char.ofNat 51, Char.ofNat 100, Char.ofNat 56, Char.ofNat 101, Char.ofNat 102, Char.ofNat 102, Char.ofNat 48, Char.ofNat 54, Char.ofNat 100, Char.ofNat 102, Char.ofNat 56, Char.ofNat 55, Char.ofNat 102, Char.ofNat 54, Char.ofNat 49, Char.ofNat 51, Char.ofNat 100, Char.ofNat 51, Char.ofNat 50, Char.ofNat 101, Char.ofNat 98, Char.ofNat 56, Char.ofNat 48, Char.ofNat 49, Char.ofNat 98, Char.ofNat 53, Char.ofNat 101, Char.ofNat 49, Char.ofNat 49, Char.ofNat 101, Char.ofNat 56, Char.ofNat 57]
def j_c : List Char := [Char.ofNat 99, Char.ofNat 117, Char.ofNat 116]
def j_b : List Char := [Char.ofNat 97, Char.ofNat 116, Char.ofNat 32, Char.ofNat 106, Char.ofNat 111, Char.ofNat 98, Char.ofNat 98, Char.ofNat 101, Char.ofNat 114, Char.ofNat 47, Char.ofNat 106, Char.ofNat 111, Char.ofNat 98, Char.ofNat 98, Char.ofNat 101, Char.ofNat 114, Char.ofNat 108, Char.ofNat 97, Char.ofNat 119, Char.ofNat 48, Char.ofNat 52, Char.ofNat 46, Char.ofNat 70, Char.ofNat 97, Char.ofNat 117, Char.ofNat 108, Char.ofNat 116, Char.ofNat 67, Char.ofNat 104, Char.ofNat 97, Char.ofNat 105, Char.ofNat 110, Char.ofNat 115, Char.ofNat 32, Char.ofNat 106, Char.ofNat 111, Char.ofNat 98, Char.ofNat 98, Char.ofNat 101, Char.ofNat 114, Char.ofNat 47, Char.ofNat 106, Char.ofNat 111, Char.ofNat 98, Char.ofNat 98, Char.ofNat 101, Char.ofNat 114, Char.ofNat 108, Char.ofNat 97, Char.ofNat 119, Char.ofNat 48, Char.ofNat 52, Char.ofNat 46, Char.ofNat 70, Char.ofNat 97, Char.ofNat 117, Char.ofNat 108, Char.ofNat 116, Char.ofNat 70, Char.ofNat 105, Char.ofNat 110, Char.ofNat 100, Char.ofNat 115, Char.ofNat 32, Char.ofNat 106, Char.ofNat 111, Char.ofNat 98, Char.ofNat 98, Char.ofNat 101, Char.ofNat 114, Char.ofNat 47, Char.ofNat 106, Char.ofNat 111, Char.ofNat 98, Char.ofNat 98, Char.ofNat 101, Char.ofNat 114, Char.ofNat 108, Char.ofNat 97, Char.ofNat 119, Char.ofNat 48, Char.ofNat 52, Char.ofNat 46, Char.ofNat 70, Char.ofNat 97, Char.ofNat 117, Char.ofNat 108, Char.ofNat 116, Char.ofNat 78, Char.ofNat 111, Char.ofNat 98, Char.ofNat 111, Char.ofNat 100, Char.ofNat 121, Char.ofNat 32, Char.ofNat 106, Char.ofNat 111, Char.ofNat 98, Char.ofNat 98, Char.ofNat 101, Char.ofNat 114, Char.ofNat 47, Char.ofNat 106, Char.ofNat 111, Char.ofNat 98, Char.ofNat 98, Char.ofNat 101, Char.ofNat 114, Char.ofNat 108, Char.ofNat 97, Char.ofNat 119, Char.ofNat 48, Char.ofNat 57, Char.ofNat 46, Char.ofNat 82, Char.ofNat 117, Char.ofNat 108, Char.ofNat 101, Char.ofNat 115, Char.ofNat 67, Char.ofNat 104, Char.ofNat 101, Char.ofNat 99, Char.ofNat 107, Char.ofNat 32, Char.ofNat 106, Char.ofNat 111, Char.ofNat 98, Char.ofNat 98, Char.ofNat 101, Char.ofNat 114, Char.ofNat 47, Char.ofNat 106, Char.ofNat 111, Char.ofNat 98, Char.ofNat 98, Char.ofNat 101, Char.ofNat 114, Char.ofNat 108, Char.ofNat 97, Char.ofNat 119, Char.ofNat 48, Char.ofNat 57, Char.ofNat 46, Char.ofNat 82, Char.ofNat 117, Char.ofNat 108, Char.ofNat 101, Char.ofNat 115, Char.ofNat 70, Char.ofNat 105, Char.ofNat 116, Char.ofNat 32, Char.ofNat 106, Char.ofNat 111, Char.ofNat 98, Char.ofNat 98, Char.ofNat 101, Char.ofNat 114, Char.ofNat 47, Char.ofNat 106, Char.ofNat 111, Char.ofNat 98, Char.ofNat 98, Char.ofNat 101, Char.ofNat 114, Char.ofNat 108, Char.ofNat 97, Char.ofNat 119, Char.ofNat 48, Char.ofNat 57, Char.ofNat 46, Char.ofNat 82, Char.ofNat 117, Char.ofNat 108, Char.ofNat 101, Char.ofNat 115, Char.ofNat 83, Char.ofNat 97, Char.ofNat 109, Char.ofNat 101, Char.ofNat 32, Char.ofNat 106, Char.ofNat 111, Char.ofNat 98, Char.ofNat 98, Char.ofNat 101, Char.ofNat 114, Char.ofNat 47, Char.ofNat 106, Char.ofNat 111, Char.ofNat 98, Char.ofNat 98, Char.ofNat 101, Char.ofNat 114, Char.ofNat 108, Char.ofNat 97, Char.ofNat 119, Char.ofNat 48, Char.ofNat 57, Char.ofNat 46, Char.ofNat 82, Char.ofNat 117, Char.ofNat 108, Char.ofNat 101, Char.ofNat 115, Char.ofNat 87, Char.ofNat 114, Char.ofNat 105, Char.ofNat 116, Char.ofNat 101, Char.ofNat 32, Char.ofNat 106, Char.ofNat 111, Char.ofNat 98, Char.ofNat 98, Char.ofNat 101, Char.ofNat 114, Char.ofNat 47, Char.ofNat 106, Char.ofNat 111, Char.ofNat 98, Char.ofNat 98, Char.ofNat 101, Char.ofNat 114, Char.ofNat 108, Char.ofNat 97, Char.ofNat 119, Char.ofNat 48, Char.ofNat 57, Char.ofNat 46, Char.ofNat 82, Char.ofNat 117, Char.ofNat 108, Char.ofNat 101, Char.ofNat 115, Char.ofNat 82, Char.ofNat 101, Char.ofNat 97, Char.ofNat 100]
def j_list : List Char := [Char.ofNat 104, Char.ofNat 97, Char.ofNat 114, Char.ofNat 110, Char.ofNat 101, Char.ofNat 115, Char.ofNat 115, Char.ofNat 32, Char.ofNat 53, Char.ofNat 100, Char.ofNat 53, Char.ofNat 55, Char.ofNat 100, Char.ofNat 100, Char.ofNat 57, Char.ofNat 100, Char.ofNat 97, Char.ofNat 97, Char.ofNat 48, Char.ofNat 100, Char.ofNat 50, Char.ofNat 102, Char.ofNat 52, Char.ofNat 53, Char.ofNat 49, Char.ofNat 50, Char.ofNat 52, Char.ofNat 48, Char.ofNat 52, Char.ofNat 56, Char.ofNat 100, Char.ofNat 56, Char.ofNat 50, Char.ofNat 49, Char.ofNat 49, Char.ofNat 97, Char.ofNat 50, Char.ofNat 51, Char.ofNat 52, Char.ofNat 52, Char.ofNat 51, Char.ofNat 100, Char.ofNat 56, Char.ofNat 101, Char.ofNat 102, Char.ofNat 102, Char.ofNat 48, Char.ofNat 54, Char.ofNat 100, Char.ofNat 102, Char.ofNat 56, Char.ofNat 55, Char.ofNat 102, Char.ofNat 54, Char.ofNat 49, Char.ofNat 51, Char.ofNat 100, Char.ofNat 51, Char.ofNat 50, Char.ofNat 101, Char.ofNat 98, Char.ofNat 56, Char.ofNat 48, Char.ofNat 49, Char.ofNat 98, Char.ofNat 53, Char.ofNat 101, Char.ofNat 49, Char.ofNat 49, Char.ofNat 101, Char.ofNat 56, Char.ofNat 57, Char.ofNat 32, Char.ofNat 99, Char.ofNat 117, Char.ofNat 116, Char.ofNat 32, Char.ofNat 97, Char.ofNat 116, Char.ofNat 32, Char.ofNat 106, Char.ofNat 111, Char.ofNat 98, Char.ofNat 98, Char.ofNat 101, Char.ofNat 114, Char.ofNat 47, Char.ofNat 106, Char.ofNat 111, Char.ofNat 98, Char.ofNat 98, Char.ofNat 101, Char.ofNat 114, Char.ofNat 108, Char.ofNat 97, Char.ofNat 119, Char.ofNat 48, Char.ofNat 52, Char.ofNat 46, Char.ofNat 70, Char.ofNat 97, Char.ofNat 117, Char.ofNat 108, Char.ofNat 116, Char.ofNat 67, Char.ofNat 104, Char.ofNat 97, Char.ofNat 105, Char.ofNat 110, Char.ofNat 115, Char.ofNat 32, Char.ofNat 106, Char.ofNat 111, Char.ofNat 98, Char.ofNat 98, Char.ofNat 101, Char.ofNat 114, Char.ofNat 47, Char.ofNat 106, Char.ofNat 111, Char.ofNat 98, Char.ofNat 98, Char.ofNat 101, Char.ofNat 114, Char.ofNat 108, Char.ofNat 97, Char.ofNat 119, Char.ofNat 48, Char.ofNat 52, Char.ofNat 46, Char.ofNat 70, Char.ofNat 97, Char.ofNat 117, Char.ofNat 108, Char.ofNat 116, Char.ofNat 70, Char.ofNat 105, Char.ofNat 110, Char.ofNat 100, Char.ofNat 115, Char.ofNat 32, Char.ofNat 106, Char.ofNat 111, Char.ofNat 98, Char.ofNat 98, Char.ofNat 101, Char.ofNat 114, Char.ofNat 47, Char.ofNat 106, Char.ofNat 111, Char.ofNat 98, Char.ofNat 98, Char.ofNat 101, Char.ofNat 114, Char.ofNat 108, Char.ofNat 97, Char.ofNat 119, Char.ofNat 48, Char.ofNat 52, Char.ofNat 46, Char.ofNat 70, Char.ofNat 97, Char.ofNat 117, Char.ofNat 108, Char.ofNat 116, Char.ofNat 78, Char.ofNat 111, Char.ofNat 98, Char.ofNat 111, Char.ofNat 100, Char.ofNat 121, Char.ofNat 32, Char.ofNat 106, Char.ofNat 111, Char.ofNat 98, Char.ofNat 98, Char.ofNat 101, Char.ofNat 114, Char.ofNat 47, Char.ofNat 106, Char.ofNat 111, Char.ofNat 98, Char.ofNat 98, Char.ofNat 101, Char.ofNat 114, Char.ofNat 108, Char.ofNat 97, Char.ofNat 119, Char.ofNat 48, Char.ofNat 57, Char.ofNat 46, Char.ofNat 82, Char.ofNat 117, Char.ofNat 108, Char.ofNat 101, Char.ofNat 115, Char.ofNat 67, Char.ofNat 104, Char.ofNat 101, Char.ofNat 99, Char.ofNat 107, Char.ofNat 32, Char.ofNat 106, Char.ofNat 111, Char.ofNat 98, Char.ofNat 98, Char.ofNat 101, Char.ofNat 114, Char.ofNat 47, Char.ofNat 106, Char.ofNat 111, Char.ofNat 98, Char.ofNat 98, Char.ofNat 101, Char.ofNat 114, Char.ofNat 108, Char.ofNat 97, Char.ofNat 119, Char.ofNat 48, Char.ofNat 57, Char.ofNat 46, Char.ofNat 82, Char.ofNat 117, Char.ofNat 108, Char.ofNat 101, Char.ofNat 115, Char.ofNat 70, Char.ofNat 105, Char.ofNat 116, Char.ofNat 32, Char.ofNat 106, Char.ofNat 111, Char.ofNat 98, Char.ofNat 98, Char.ofNat 101, Char.ofNat 114, Char.ofNat 47, Char.ofNat 106, Char.ofNat 111, Char.ofNat 98, Char.ofNat 98, Char.ofNat 101, Char.ofNat 114, Char.ofNat 108, Char.ofNat 97, Char.ofNat 119, Char.ofNat 48, Char.ofNat 57, Char.ofNat 46, Char.ofNat 82, Char.ofNat 117, Char.ofNat 108, Char.ofNat 101, Char.ofNat 115, Char.ofNat 83, Char.ofNat 97, Char.ofNat 109, Char.ofNat 101, Char.ofNat 32, Char.ofNat 106, Char.ofNat 111, Char.ofNat 98, Char.ofNat 98, Char.ofNat 101, Char.ofNat 114, Char.ofNat 47, Char.ofNat 106, Char.ofNat 111, Char.ofNat 98, Char.ofNat 98, Char.ofNat 101, Char.ofNat 114, Char.ofNat 108, Char.ofNat 97, Char.ofNat 119, Char.ofNat 48, Char.ofNat 57, Char.ofNat 46, Char.ofNat 82, Char.ofNat 117, Char.ofNat 108, Char.ofNat 101, Char.ofNat 115, Char.ofNat 87, Char.ofNat 114, Char.ofNat 105, Char.ofNat 116, Char.ofNat 101, Char.ofNat 32, Char.ofNat 106, Char.ofNat 111, Char.ofNat 98, Char.ofNat 98, Char.ofNat 101, Char.ofNat 114, Char.ofNat 47, Char.ofNat 106, Char.ofNat 111, Char.ofNat 98, Char.ofNat 98, Char.ofNat 101, Char.ofNat 114, Char.ofNat 108, Char.ofNat 97, Char.ofNat 119, Char.ofNat 48, Char.ofNat 57, Char.ofNat 46, Char.ofNat 82, Char.ofNat 117, Char.ofNat 108, Char.ofNat 101, Char.ofNat 115, Char.ofNat 82, Char.ofNat 101, Char.ofNat 97, Char.ofNat 100]
theorem j_text : Tryd.prog.initOrder = String.ofList j_list := by kernel_rfl
theorem j_split : j_list = j_h ++ Char.ofNat 32 :: (j_s ++ Char.ofNat 32 :: (j_c ++ Char.ofNat 32 :: j_b)) := by kernel_rfl
theorem j_order : Tryd.prog.initOrder.toList = j_h ++ Char.ofNat 32 :: (j_s ++ Char.ofNat 32 :: (j_c ++ Char.ofNat 32 :: j_b)) := by rw [j_text, String.toList_ofList, j_split]
theorem j_words : behindMainWord (wordsSigns Tryd.prog.initOrder.toList) = j_c :: wordsSigns j_b := words_head j_order (by kernel_rfl) (by kernel_rfl) (by kernel_rfl) (by kernel_rfl) (by kernel_rfl)
theorem j_enter : Tryd.prog.mayEnter = true := enter_cut j_words (by kernel_rfl) (by kernel_rfl) (by kernel_rfl) (by kernel_rfl) (by kernel_rfl)
theorem j_lifted : Tryd.prog.liftsFinal = false := lifted_cut j_words (by kernel_rfl) (by kernel_rfl) (by kernel_rfl)
theorem j_make : Tryd.prog.make = some .cut := make_cut j_words (by kernel_rfl) (by kernel_rfl)
theorem joined_of {P : Program} {f : FuncId} {fn : Func} {s : ChangeSpec} {c : OpenClaim} (h1 : c.wf (OpenSpec.ofChange s) = true) (h2 : laidOutB P = true) (h3 : mapsRowed P = true)
    (h4 : (fn.params.all (P.readableRec ·)) = true) (h5 : namedTie P c.named s.vars = true) (h6 : (c.stops == []) = true) (h7 : P.stops = []) (h8 : (c.knobs == []) = true) (h9 : P.stopKnobs = [])
    (h10 : (c.inPlace == P.inPlace f) = true) (h11 : (c.unfollowed == P.unfollowed f) = true) (h12 : (c.recurses == P.recurses f) = true) (h13 : (c.named == P.varsNamed f) = true)
    (h14 : (c.maps == (fn.params.toList ++ s.plain.varTypes P).any (P.mapsRec ·)) = true) (h15 : (c.ifaces == (fn.params.toList ++ s.plain.varTypes P).any (P.ifacesRec ·)) = true) (h16 : (c.mapsOut == P.mapsAmong fn.resultTypes.toList) = true)
    (h17 : (c.loops == (fn.params.toList ++ s.plain.varTypes P).any (P.loopsFrom ·)) = true) (h18 : (c.wideKeys == (fn.params.toList ++ s.plain.varTypes P ++ fn.resultTypes.toList).any (P.wideKeysFrom ·)) = true)
    (h19 : (s.vars.all (P.varReadable ·)) = true) (h20 : (fn.resultTypes.all (fun t => P.readableRec t && decide (t < P.types.size))) = true) (h21 : (c.ifacesOut == fn.resultTypes.toList.any (P.ifacesRec ·)) = true) (h22 : (c.loopsOut == fn.resultTypes.toList.any (P.loopsFrom ·)) = true)
    (h23 : (c.plainKeys == P.plainKeys) = true) (h24 : c.shortTexts.isNone = true) (h25 : P.stopsHeard = true) (h26 : P.mayEnter = true) (h27 : c.lifted = P.liftsFinal) (h28 : P.make = some c.make)
    (h29 : (c.kinds == (if c.domain.isEmpty then [] else fn.params.toList.map fun t => match P.underlying t with | some (.int k) => some k | _ => none)) = true) (h30 : (c.pinned == c.pinnedBy) = true)
    (h31 : (c.veiled == (fn.params.toList ++ s.plain.varTypes P ++ fn.resultTypes.toList).any (P.veiledRec ·)) = true) (h32 : c.veiledFits P fn.params.toList (fn.params.toList ++ s.plain.varTypes P ++ fn.resultTypes.toList) = true) : joinedFacts P f fn s c = true := by
  unfold joinedFacts
  have k7 : (P.stops == []) = true := by rw [h7]; rfl
  have k9 : (P.stopKnobs == []) = true := by rw [h9]; rfl
  have k27 : (c.lifted == P.liftsFinal) = true := by rw [h27]; exact beq_self_eq_true _
  have k28 : (P.make == some c.make) = true := by rw [h28]; exact beq_self_eq_true _
  simp only [h1, h2, h3, h4, h5, h6, k7, h8, k9, h10, h11, h12, h13, h14, h15, h16, h17, h18, h19, h20, h21, h22, h23, h24, h25, h26, k27, k28, h30, h31, h32, Bool.and_self, Bool.and_true, Bool.true_and]
  exact h29
end Go.Proofs.YtcgagmojgjbfpaaDoor
