/- How a contract is proved with the executor. -/
import Derived.Test.YtdognchniaojoaaVx12
set_option linter.all false
namespace Go.Vx
open Go.RowKit
section
variable {P : Program} {E : Env}

/-- A result answers what a contract says, nothing of the call's own memory left to be written. -/
def answers (al : Bool) (k : SV → List HO → Prop) (r : SV) (hp : List HO) : Prop :=
  ∃ r', k r' [] ∧ le 0 0 (expo hp r) r' ∧ (al = false → freshS r')

theorem cut_nil : Cut [] [] 0 0 := ⟨rfl, rfl, fun _ _ h => absurd h (Nat.not_lt_zero _), fun _ _ h => absurd h (Nat.not_lt_zero _)⟩

theorem hp_nil {w : World} {B : Nat} : Hp w [] B [] := ⟨rfl, fun i => .inr (by simp), fun _ _ _ _ _ _ _ h => by simp at h, fun _ _ _ _ h => by simp at h⟩

theorem XRepL.up {w : World} {bs : List BK} {B : Nat} {l : List SV} {vs : List Value} (h : XRepL w bs B l vs) : RepL w bs B l vs := h.rep

/-- A CONTRACT OUT OF A RUN. 'args': what the contract is asked at; the run begins with arguments that these cover. -/
theorem contract {f : FuncId} {fn : Func} {vf : VF} (hf : P.funcs[f]? = some fn) (hvf : vfunc P fn = some vf) (hE : EnvOk P E) (n : Nat) (c : Ctr)
    (h : ∀ (args : List SV) (k : SV → List HO → Prop), CSat (c.of args) k → ∃ args', leL 0 0 args args' ∧ run E (answers c.alias k) vf.res n [.code vf.body] { fr := padL vf.ntmps args', saved := [], hp := [] }) : c.ok P f := by
  intro args vs w k hx hc
  obtain ⟨args', hle, hrun⟩ := h args k hc
  have hx2 : RepL w [] w.heap.size args' vs := leL_ok cut_nil _ _ hle hx.rep
  obtain ⟨body, hbody, hcode, hres, hnt⟩ := vfunc_inv hvf
  refine calls_of_wd (n := 0) (in_frame (b := vf.body) hf hbody ?_)
  refine run_sound (w0 := w) (fn0 := fn) (R0 := fun e w' => ∃ r hs v bs, k r hs ∧ e = .returned v ∧ Rep w' bs w.heap.size r v ∧ Hp w' bs w.heap.size hs ∧ Below w.heap.size w w' ∧ (c.alias = false → freshS r ∧ freshH hs)) hE hres (by
    rintro r hp v w' bs ⟨r', hk, hle, hfr⟩ hr hH hb
    refine ⟨r', [], v, [], hk, rfl, le_ok cut_nil _ _ hle (.x _ _ (expo_ok hH hr)), hp_nil, hb, fun ha => ⟨hfr ha, trivial⟩⟩) n _ _ hrun [] [] none _
    { tmps := vs.toArray ++ Array.replicate (fn.ntmps - vs.toArray.size) undef, defers := [] } w (.code body vf.body [] [] [] none _ hcode .nil) ?_
  refine ⟨[], ?_, .nil, hp_nil, Below.refl _ _, ⟨fun _ h => (by cases h), .nil, [[]], rfl, by simp, fun _ h => (by simp at h)⟩⟩
  have := padL_ok (n := fn.ntmps) hx2
  rw [hnt]
  simpa using this

/-! ### Loops -/

def wrOps : List VOp → List Nat
  | [] => []
  | ⟨some d, _, _, _⟩ :: l => d :: wrOps l
  | ⟨none, _, _, _⟩ :: l => wrOps l

def wrAl : List (Nat × AL) → List Nat
  | [] => []
  | (d, _) :: l => d :: wrAl l

def wrDops : List DOp → List Nat
  | [] => []
  | ⟨⟨some d, _, _, _⟩, _⟩ :: l => d :: wrDops l
  | ⟨⟨none, _, _, _⟩, _⟩ :: l => wrDops l

/-- The slots that a piece of code writes. -/
def wrC : VC → List Nat
  | .region l => wrOps l
  | .draw al l => wrAl al ++ wrDops l
  | .seq a b => wrC a ++ wrC b
  | .cond _ a b => wrC a ++ wrC b
  | .block _ c => wrC c
  | .loop c => wrC c
  | _ => []

def junkAt : List SV → List Nat → List SV
  | fr, [] => fr
  | fr, n :: l => junkAt (setL fr n .junk) l

def putAll : List SV → List (Nat × SV) → List SV
  | fr, [] => fr
  | fr, (n, v) :: l => putAll (setL fr n v) l

def putHs : List HO → List (Nat × HO) → List HO
  | hp, [] => hp
  | hp, (n, v) :: l => putHs (setH hp n v) l

/-- The state at a loop's head: what the loop writes is told by 'slots' and 'blocks', or is anything. -/
def headOf (s : S) (body : VC) (ghosts : List HO) (slots : List (Nat × SV)) (blocks : List (Nat × HO)) : S :=
  { fr := putAll (junkAt s.fr (wrC body)) slots, saved := s.saved, hp := putHs (s.hp ++ ghosts) blocks }

theorem Loop.at {r : List It → S → Prop} {body : VC} {K : List It} {s : S} (σ : Type) (slots : σ → List (Nat × SV)) (blocks : σ → List (Nat × HO)) (ghosts : List HO) (inv : σ → Prop) (μ : σ → Nat)
    (h0 : ∃ x, inv x ∧ leS s (headOf s body ghosts (slots x) (blocks x)))
    (h : ∀ x, inv x → r (.code body :: .inLoop (fun s' => ∃ y, inv y ∧ μ y < μ x ∧ leS s' (headOf s body ghosts (slots y) (blocks y))) :: K) (headOf s body ghosts (slots x) (blocks x))) : Loop r body K s leS :=
  ⟨σ, fun x => headOf s body ghosts (slots x) (blocks x), inv, μ, h0, h⟩

/-- The slots that are kept, told by the gaps between them; the others may be anything. -/
def keepG : List Nat → List SV → List SV
  | [], l => junks l
  | _, [] => []
  | 0 :: ks, x :: l => x :: keepG ks l
  | (k + 1) :: ks, _ :: l => .junk :: keepG (k :: ks) l

def headK (s : S) (keep : List Nat) (ghosts : List HO) (slots : List (Nat × SV)) (blocks : List (Nat × HO)) : S :=
  { fr := putAll (keepG keep s.fr) slots, saved := s.saved, hp := putHs (s.hp ++ ghosts) blocks }

theorem Loop.keep {r : List It → S → Prop} {body : VC} {K : List It} {s : S} (keep : List Nat) (σ : Type) (slots : σ → List (Nat × SV)) (blocks : σ → List (Nat × HO)) (ghosts : List HO) (inv : σ → Prop) (μ : σ → Nat)
    (h0 : ∃ x, inv x ∧ leS s (headK s keep ghosts (slots x) (blocks x)))
    (h : ∀ x, inv x → r (.code body :: .inLoop (fun s' => ∃ y, inv y ∧ μ y < μ x ∧ leS s' (headK s keep ghosts (slots y) (blocks y))) :: K) (headK s keep ghosts (slots x) (blocks x))) : Loop r body K s leS :=
  ⟨σ, fun x => headK s keep ghosts (slots x) (blocks x), inv, μ, h0, h⟩

end
end Go.Vx
