/- The law NumOnce of the numbers: what is decoded is encoded as the same bytes. For any bytes and any place. -/
import Derived.Test.YtfdmkedpjbjfgaaNumAwake
import Derived.Test.YtfdmkedpjbjfgaaNumMore
import Derived.Test.YtfdmkedpjbjfgaaPx4
namespace Go.Proofs.Ytfdmkedpjbjfgaa.Pure
open Go.RowKit Go.Proofs.Ytfdmkedpjbjfgaa.P Go.Proofs.YtfdmkedpjbjfgaaW.PrintWords Go.Proofs.YtfdmkedpjbjfgaaW.PrintLast Go.Proofs.YtfdmkedpjbjfgaaW.PrintMore Go.Proofs.Ytfdmkedpjbjfgaa.Num
theorem NumOnce : remoralaw01_NumOnce.Pure := by
  intro l a hm hl hb _
  have hb' := byt_of hb
  have hl' : l.length ≤ 140737488355328 := by omega
  refine ⟨41, ?_⟩
  unfold remoralaw01_NumOnce.f
  rw [get_f 41 _ _ (by omega) hb' hl', Option.bind_some, getInt_f 41 _ _ (by omega) hb' hl', Option.bind_some]
  unfold getIntS
  rcases getS_range l a hb' with ⟨h, he⟩ | ⟨h, x, hx, hle, h0, hn, hlen, hat⟩
  · rw [if_neg h]
    rw [he] at h ⊢
    simp only at h ⊢
    generalize (getS l a).2.2 = e at *
    have := awake_f 40 (by omega)
    simp [remoralaw01_NumOnce.j0, h, this]
  · rw [if_pos h]
    generalize getS l a = r at *
    obtain ⟨v, nx, e⟩ := r
    simp only at hx hn h ⊢
    subst hx hn h
    have h1 := enc_pos x
    have hz := zag_le hle
    have hzz : clI (zag (x : Int)) = zag (x : Int) := by unfold clI mn mx; split <;> split <;> omega
    have hcut : (l.take (a + ((enc x).length : Int)).toNat).drop a.toNat = enc x := by
      rw [List.drop_take, show (a + ((enc x).length : Int)).toNat - a.toNat = (enc x).length by omega]; exact hat
    have hs : ∀ q, remoralaw01_same.f q q = some true := by intro q; simp [remoralaw01_same.f]
    have main : remoralaw01_NumOnce.j0 41 l a (x : Int) (a + ((enc x).length : Int)) 0 (zag (x : Int)) false = some true := by
      simp only [remoralaw01_NumOnce.j0]
      simp only [if_true]
      rw [if_neg (by simp), if_pos (by omega), if_pos (by omega), if_pos (by omega), put_f 40 _ _ (by omega) (by simp), Option.bind_some, if_pos (by omega), if_pos (by omega), cl_nat _ hle, hcut, List.nil_append, hs, Option.bind_some, if_pos rfl,
        putInt_f 40 _ _ (by omega) (by simp), Option.bind_some, hzz, zig_zag, List.nil_append, hs, Option.bind_some, if_pos rfl, size_f 40 _ (by omega), Option.bind_some, cl_nat _ hle, w64 (n := a + ((enc x).length : Int) - a) (by omega) (by omega), if_pos (by omega)]
      exact awake_end 40 (by omega)
    simpa using main
end Go.Proofs.Ytfdmkedpjbjfgaa.Pure
