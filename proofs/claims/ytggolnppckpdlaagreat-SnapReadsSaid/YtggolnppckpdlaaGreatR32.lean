/- Texts of ours, joined: the steps of the proof, or the claim's theorem. -/
import Derived.Test.YtggolnppckpdlaaGreatR28
import Derived.Test.YtggolnppckpdlaaGreatR31
set_option linter.unusedSimpArgs false
set_option linter.unusedVariables false
namespace Go.Proofs.YtggolnppckpdlaaGreat
open Go Go.Sk Go.RowKit
attribute [local irreducible] Go.Calls
def Sta.zero : Sta := ⟨0, 0, 0, 0, [], [], [], [], []⟩
def SPt.zero : SPt := ⟨none, 0, none, 0, none, 0, none, 0, none, 0, fun _ => (none, 0)⟩
def Vws.zero : Vws := ⟨[], [], [], []⟩
def VPt.zero : VPt := ⟨none, 0, none, 0, none, 0, none, 0⟩
theorem zDI {F : zI} {size cap : Nat} {a : Option Addr} {el : Nat → List Value} : SlA F size a 0 cap el := ⟨Nat.zero_le _, Nat.zero_le _, 0, 0, [], 0, (0, 0), fun h => absurd h (Nat.lt_irrefl 0)⟩
theorem StaM.zero {F : zI} : StaM F Sta.zero SPt.zero := ⟨zDI, zDI, zDI, zDI, zDI, fun j hj => absurd hj (Nat.not_lt_zero _)⟩
theorem VwM.zero {F : zI} : VwM F Vws.zero VPt.zero := ⟨zDI, zDI, zDI, zDI⟩
def RdOk (B : List Nat) (x : Sta) (y : Vws) : Prop := (∃ l m, zDd x l ∧ zEI y m ∧ B = l ++ m) ∧ zDb x = true ∧ zBP y = true
def RdW (B : List Nat) : Prop := ∀ x y l m, zDd x l → zEI y m → B = l ++ m → StaW x ∧ ∀ k, k < y.lins.length → (ln_ y.lins k).wf
def ReadA (B : List Nat) (x : Sta) (y : Vws) (e : Int) : Prop :=
 (e = 0 ∧ B.length ≤ 1048556 ∧ RdOk B x y) ∨ (e = 4 ∧ B.length ≤ 1048556 ∧ x = Sta.zero ∧ y = Vws.zero ∧ ∀ x y, ¬ RdOk B x y) ∨ (e = 40 ∧ 1048556 < B.length ∧ x = Sta.zero ∧ y = Vws.zero)
def zOL (B : List Nat) : zI → Value → Prop := fun N v => ∃ (x : Sta) (p : SPt) (y : Vws) (q : VPt) (e : Int), v = .tuple #[.agg (x.cells p).toArray, .agg (y.cells q).toArray, .int .i64 e] ∧ StaM N x p ∧ VwM N y q ∧ ReadA B x y e
theorem permR0 {a b c d : Nat × Obj} : (a :: b :: c :: d :: []).Perm (d :: a :: b :: c :: []) := List.perm_middle (l₁ := [a, b, c]) (l₂ := [])
theorem zOM {a b c d : Nat × Obj} (M : zI) : (a :: b :: (M ++ [c, d])).Perm (a :: b :: c :: d :: M) := ((List.perm_append_comm (l₁ := M) (l₂ := [c, d])).cons b).cons a
theorem zON {a b c d e : Nat × Obj} (M N : zI) : (a :: b :: (M ++ (c :: d :: e :: N))).Perm (a :: b :: c :: d :: e :: (M ++ N)) := ((List.perm_append_comm_assoc M [c, d, e] N).cons b).cons a
theorem zJ1 {B : List Nat} {x : Sta} {y : Vws} {p1 p2 : Rs} (h1 : Step B zDd ⟨0, 0, 0, false⟩ p1 x) (h2 : Step B zEI p1 p2 y) {n : Nat} (hn : B.length = n) :
  (((zHZ p2 n != 0) = true ∨ p2.bad = true) ∧ ∀ x' y', ¬ ∃ l m, zDd x' l ∧ zEI y' m ∧ B = l ++ m) ∨
  ((zHZ p2 n != 0) = false ∧ p2.bad = false ∧ (∃ l m, zDd x l ∧ zEI y m ∧ B = l ++ m) ∧ ∀ x' y', (∃ l m, zDd x' l ∧ zEI y' m ∧ B = l ++ m) → x' = x ∧ y' = y) := by
 subst hn
 have hu : ∀ x' y', (∃ l m, zDd x' l ∧ zEI y' m ∧ B = l ++ m) → (zHZ p2 B.length = 0 ∧ p2.bad = false) ∧ x' = x ∧ y' = y := by
  rintro x' y' ⟨l, m, hl, hm, hB⟩
  obtain ⟨c1, rfl, c3⟩ := h1.cpl ⟨rfl, rfl⟩ x' l m hl (by simpa using hB)
  obtain ⟨d1, rfl, d3⟩ := h2.cpl c1 y' m [] hm (by rw [c3, List.append_nil])
  refine ⟨⟨?_, d1.2⟩, rfl, rfl⟩
  have := congrArg List.length d3
  rw [List.length_drop, List.length_nil] at this
  unfold zHZ
  rw [if_neg (by omega)]
  exact d1.1
 by_cases he : zHZ p2 B.length = 0 ∧ p2.bad = false
 ·refine .inr ⟨by simp [he.1], he.2, ?_, fun x' y' h => (hu x' y' h).2⟩
  have hp := h2.inv
  have he0 : p2.e = 0 ∧ p2.pos = B.length := by
   have := he.1
   unfold zHZ at this
   split at this
   ·cases this
   ·constructor
    ·exact this
    ·have h' : p2.e = 0 := this
     omega
  obtain ⟨a1, m, a2, a3⟩ := h2.snd ⟨he0.1, he.2⟩
  obtain ⟨b1, l, b2, b3⟩ := h1.snd a1
  refine ⟨l, m, b2, a2, ?_⟩
  rw [he0.2, List.drop_length, List.append_nil] at a3
  rw [a3] at b3
  simpa using b3
 ·refine .inl ⟨?_, fun x' y' h => he (hu x' y' h).1⟩
  by_cases h : zHZ p2 B.length = 0
  ·right; cases hb : p2.bad
   ·exact absurd ⟨h, hb⟩ he
   ·rfl
  ·left; simp [h]
set_option maxHeartbeats 2000000 in
theorem zHu (s : ByteArray) (hs : s.size ≤ 140737488355328) (hW : RdW (zN s)) (w0 : World) :
  Calls Tryz.prog 16 [.string s].toArray w0 (zf (fun N v => zOL (zN s) N v ∧ Fz N) w0) := by
 have hlen := zP s
 by_cases hbig : s.size > 1048556
 ·have hd : decide ((s.size : Int) > 1048556) = true := decide_eq_true (by omega)
  refine enter [.cell 2 29, .cell 3 35, .tmp 4] Tryz.func16 rfl Tryz.ntmps16 rfl rfl ?_
  have H := zH w0
  repeat' (first | refine y1 sg ?_ | refine y3 ?_ | (refine y10 sg H ?_; intro b w H) | (refine y11 sg H ?_; intro w H) | (with_reducible first | apply zB | apply zD | apply zC | apply zF | apply zO) | refine zA ?_ | (refine y23 ?_ ?_; all_goals (intro h; try (exfalso; first | ((rw [hd] at h; cases h); done)))) | fail)
  refine zU (vs := [_, _, _]) ⟨zAF sg rfl H.mem (by repeat (first | exact List.Mem.head _ | exact List.mem_append_right _ (List.Mem.head _) | refine List.Mem.tail _ ?_)) rfl rfl, zAF sg rfl H.mem (by repeat (first | exact List.Mem.head _ | exact List.mem_append_right _ (List.Mem.head _) | refine List.Mem.tail _ ?_)) rfl rfl, zZ rfl, trivial⟩ H ⟨⟨Sta.zero, SPt.zero, Vws.zero, VPt.zero, 40, rfl, StaM.zero, VwM.zero, .inr (.inr ⟨rfl, by omega, rfl, rfl⟩)⟩, (by repeat (first | exact Fz.nil | exact hz1 | exact hz2 | exact hz | refine Fz.cons ?_ | refine Fz.app ?_ ?_))⟩
 ·have hd : decide ((s.size : Int) > 1048556) = false := decide_eq_false (by omega)
  refine enter [.cell 2 29, .cell 3 35, .tmp 4] Tryz.func16 rfl Tryz.ntmps16 rfl rfl ?_
  have H := zH w0
  have hs' : s.size ≤ 16777216 := by omega
  repeat' (first | refine y1 sg ?_ | refine y3 ?_ | refine y5 sg ?_ | refine y7 sg H ?_ | (refine y9 H ?_; intro b w H) | (refine y10 sg H ?_; intro b w H) | (refine y11 sg H ?_; intro w H) | (refine' y32 ent45 ?_ ?_; rotate_left; exact zNQ s; intro v M w hR hS; replace H := H.addR hS; clear hS; (try simp only [List.cons_append, List.nil_append] at H); obtain ⟨pr, rfl, rfl⟩ := hR) | (refine' y33 ent61 ?_ ?_; rotate_left 2; exact c_get (p := ⟨0, 0, 0, false⟩) (Nat.zero_le _) hs' (H.perm permR0); rintro v N w ⟨x, pt, p1, M, rfl, rfl, hM, hS1, hz1⟩ H; replace H := H.perm (zOM M)) | (refine' y33 ent62 ?_ ?_; rotate_left 2; exact zOK (Nat.le_trans hS1.inv (Nat.le_of_eq hlen)) hs' (H.perm (zh _)); rintro v N w ⟨y, qt, p2, M2, rfl, rfl, hM2, hS2, hz2⟩ H; replace H := H.perm (zON M2 M); rcases zJ1 hS1 hS2 hlen with ⟨hde, hno⟩|⟨hen, hbd, hrd, huq⟩) | (refine' y30 ent63 ?_ ?_; rotate_left; exact c_Rend (Nat.le_trans hS2.inv (Nat.le_of_eq hlen)) (by omega) H.mem (by repeat (first | exact List.Mem.head _ | exact List.mem_append_right _ (List.Mem.head _) | refine List.Mem.tail _ ?_)); intro w hcl; replace H := H.ext hcl; clear hcl) | (refine' y30 zKp ?_ ?_; rotate_left; exact zLA x pt (by obtain ⟨l, m, h1, h2, h3⟩ := hrd; exact (hW x y l m h1 h2 h3).1) _ H.mem (hM.mono (by intro p hp; simp [hp])); intro w hcl; replace H := H.ext hcl; clear hcl) | (refine' y30 zKq ?_ ?_; rotate_left; exact zOB y qt (by obtain ⟨l, m, h1, h2, h3⟩ := hrd; exact (hW x y l m h1 h2 h3).2) _ H.mem (hM2.mono (by intro p hp; simp [hp])); intro w hcl; replace H := H.ext hcl; clear hcl) | (refine zw mixed 5 ?_ ?_; exact rfl; intro w hcl; replace H := H.ext hcl; clear hcl) | ((with_reducible apply zBD); decide +kernel) | (refine' z8 4 ?_ ?_; rotate_left; first | exact z9 sg) | refine z10 0 ?_ | refine z10 1 ?_ | refine z10 2 ?_ | refine z10 3 ?_ | refine z11 0 1 ?_ ?_ | refine z11 1 2 ?_ ?_ | refine y13 ?_ | refine y14 ?_ | (refine y17 ?_ ?_; all_goals (intro h; try (exfalso; first | ((rw [hd] at h; cases h); done) | ((simp_all; done); done)))) | (with_reducible first | apply zB | apply zD | apply zC | apply zF | apply zG | apply zO) | refine zA ?_ | refine y21 ?_ | (refine y23 ?_ ?_; all_goals (intro h; try (exfalso; first | ((rw [hd] at h; cases h); done) | ((simp_all; done); done)))) | fail)
  all_goals first
   | exact zU (vs := [_, _, _]) ⟨zAF sg rfl H.mem (by repeat (first | exact List.Mem.head _ | exact List.mem_append_right _ (List.Mem.head _) | refine List.Mem.tail _ ?_)) rfl rfl, zAF sg rfl H.mem (by repeat (first | exact List.Mem.head _ | exact List.mem_append_right _ (List.Mem.head _) | refine List.Mem.tail _ ?_)) rfl rfl, zZ rfl, trivial⟩ H ⟨⟨Sta.zero, SPt.zero, Vws.zero, VPt.zero, 4, rfl, StaM.zero, VwM.zero, .inr (.inl ⟨rfl, by omega, rfl, rfl, fun x' y' hr => hno x' y' hr.1⟩)⟩, (by repeat (first | exact Fz.nil | exact hz1 | exact hz2 | exact hz | refine Fz.cons ?_ | refine Fz.app ?_ ?_))⟩
   | exact zU (vs := [_, _, _]) ⟨zAF sg rfl H.mem (by repeat (first | exact List.Mem.head _ | exact List.mem_append_right _ (List.Mem.head _) | refine List.Mem.tail _ ?_)) rfl rfl, zAF sg rfl H.mem (by repeat (first | exact List.Mem.head _ | exact List.mem_append_right _ (List.Mem.head _) | refine List.Mem.tail _ ?_)) rfl rfl, zZ rfl, trivial⟩ H ⟨⟨Sta.zero, SPt.zero, Vws.zero, VPt.zero, 4, rfl, StaM.zero, VwM.zero, .inr (.inl ⟨rfl, by omega, rfl, rfl, fun x' y' hr => by obtain ⟨rfl, rfl⟩ := huq x' y' hr.1; have h1 := hr.2.1; have h2 := hr.2.2; simp_all⟩)⟩, (by repeat (first | exact Fz.nil | exact hz1 | exact hz2 | exact hz | refine Fz.cons ?_ | refine Fz.app ?_ ?_))⟩
   | exact zU (vs := [_, _, _]) ⟨zAF sg rfl H.mem (by repeat (first | exact List.Mem.head _ | exact List.mem_append_right _ (List.Mem.head _) | refine List.Mem.tail _ ?_)) rfl rfl, zAF sg rfl H.mem (by repeat (first | exact List.Mem.head _ | exact List.mem_append_right _ (List.Mem.head _) | refine List.Mem.tail _ ?_)) rfl rfl, zZ rfl, trivial⟩ H ⟨⟨x, pt, y, qt, 0, rfl, hM.mono (by intro p hp; simp [hp]), hM2.mono (by intro p hp; simp [hp]), .inl ⟨rfl, by omega, hrd, by simp_all, by simp_all⟩⟩, (by repeat (first | exact Fz.nil | exact hz1 | exact hz2 | exact hz | refine Fz.cons ?_ | refine Fz.app ?_ ?_))⟩
theorem zOO (s : ByteArray) (hs : s.size ≤ 140737488355328) (hW : RdW (zN s)) (w0 : World) : Calls Tryz.prog 16 [.string s].toArray w0 (zf (zOL (zN s)) w0) :=
 (zHu s hs hW w0).mono fun _ _ ⟨v, M, h1, h2, h3⟩ => ⟨v, M, h1, h2.1, h3⟩
end Go.Proofs.YtggolnppckpdlaaGreat
