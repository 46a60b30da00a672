/- Many rows of numbers. -/
import Derived.Test.YtlcglefbhlhcpaaKv
namespace Go.Proofs.Ytlcglefbhlhcpaa.K
open Go.RowKit
set_option linter.unusedVariables false
section
variable {F : List Nat} {w0 w : World} {hp r : List Ck}
theorem St.addRows (s : St F w0 w hp) : St F w0 w (.rows [] :: hp) :=
  ⟨s.chg, fun c hc => by rcases List.mem_cons.1 hc with rfl | hc; exact (fun r hr => by cases hr); exact s.all c hc, by simpa [fps, Ck.fp] using s.nodup, by simpa [fps, Ck.fp] using s.fresh⟩
/-- A row goes to the others. -/
theorem St.rowsSnoc {A : Option Addr} {c n : Nat} {xs : List Int} {H : List IRow} (s : St F w0 w (.row (.slice A n c) 3 1 n (ints xs) :: .rows H :: r)) (hn : xs.length = n) : St F w0 w (.rows (H ++ [⟨A, c, xs⟩]) :: r) := by
  subst hn
  have hfp : (fps (Ck.row (.slice A xs.length c) 3 1 xs.length (ints xs) :: .rows H :: r)).Perm (fps (Ck.rows (H ++ [⟨A, c, xs⟩]) :: r)) := by
    simp only [fps, List.flatMap_cons, Ck.fp, List.flatMap_append, List.flatMap_nil, List.append_nil, IRow.fp, IRow.hdr]
    rw [← List.append_assoc]
    exact List.Perm.append_right _ (List.perm_append_comm)
  refine ⟨s.chg, fun c' hc => ?_, hfp.nodup_iff.1 s.nodup, fun b hb => s.fresh b (hfp.mem_iff.2 hb)⟩
  rcases List.mem_cons.1 hc with rfl | hc
  · intro q hq
    rcases List.mem_append.1 hq with hq | hq
    · exact (s.all (.rows H) (by simp)) q hq
    · rw [List.mem_singleton.1 hq]
      exact s.all _ List.mem_cons_self
  · exact s.all c' (List.mem_cons_of_mem _ (List.mem_cons_of_mem _ hc))
theorem flat_sub {α β : Type} (f : α → List β) {l l' : List α} (h : l.Sublist l') : (l.flatMap f).Sublist (l'.flatMap f) := by
  induction h with
  | slnil => exact List.Sublist.refl _
  | cons a _ ih => rw [List.flatMap_cons]; exact ih.trans (List.sublist_append_right _ _)
  | cons_cons a _ ih => rw [List.flatMap_cons, List.flatMap_cons]; exact List.Sublist.append (List.Sublist.refl _) ih
/-- Fewer rows. -/
theorem St.rowsSub {H H' : List IRow} (s : St F w0 w (.rows H :: r)) (h : H'.Sublist H) : St F w0 w (.rows H' :: r) := by
  have hs : (fps (Ck.rows H' :: r)).Sublist (fps (Ck.rows H :: r)) := by
    simp only [fps, List.flatMap_cons, Ck.fp]
    exact List.Sublist.append (flat_sub _ h) (List.Sublist.refl _)
  refine ⟨s.chg, fun c hc => ?_, hs.nodup s.nodup, fun b hb => s.fresh b (hs.subset hb)⟩
  rcases List.mem_cons.1 hc with rfl | hc
  · exact fun q hq => (s.all (.rows H) (by simp)) q (h.subset hq)
  · exact s.all c (List.mem_cons_of_mem _ hc)
theorem St.rowsTake {H : List IRow} (s : St F w0 w (.rows H :: r)) (k : Nat) : St F w0 w (.rows (H.take k) :: r) := s.rowsSub (List.take_sublist _ _)
/-- One of them is read. -/
theorem St.rowsRd {H : List IRow} {q : IRow} (s : St F w0 w hp) (i : Nat) (hi : hp[i]? = some (.rows H)) (hq : q ∈ H) : Rd w q.A q.xs.length 1 (ints q.xs) :=
  Rd.of_row (c := q.c) (e := 3) (show (Ck.row (.slice q.A q.xs.length q.c) 3 1 q.xs.length (ints q.xs)).holds w from (s.all _ (List.mem_of_getElem? hi)) q hq)
end
end Go.Proofs.Ytlcglefbhlhcpaa.K
