/-
  The contracts at sizes that are written out.
-/
import Derived.Test.YtmfhicbbhncddaaRef2
set_option linter.unusedVariables false
set_option linter.unusedSimpArgs false
set_option maxRecDepth 100000
namespace Go.V
open Go.Proofs
theorem c_wuint1 {h : List Ch} {K : KT} {t : Nat} {xs : List UInt8} {n : Nat} (H : K (.ptr t 0) (h.set t (.pack (Wr (xs ++ be n 1))))) (o : hth h t = .pack (Wr xs)) (s3 : xs.length ≤ 1099511627776) : Does Try.prog 26 [.ptr t 0, .int .u64 n, .int .i64 1] h K :=
  c_wuint (size := 1) H o (by decide) (by decide) s3
abbrev i_wuint1 := Ctr.mk (i := 0) (g := 26) @c_wuint1
attribute [instance] i_wuint1
theorem c_ruint1 {h : List Ch} {K : KT} {t : Nat} {r : Option (List UInt8)} {n : Nat} {r' : Option (List UInt8)} (H : K (.int .u64 n) (h.set t (.pack (Rd r')))) (o : hth h t = .pack (Rd r)) (e : uintR r 1 = (n, r')) : Does Try.prog 36 [.ptr t 0, .int .i64 1] h K :=
  c_ruint (size := 1) H o e (by decide) (by decide)
abbrev i_ruint1 := Ctr.mk (i := 0) (g := 36) @c_ruint1
attribute [instance] i_ruint1
theorem c_fuint1 {h : List Ch} {K : KT} {n : Nat} (H : K (.sl h.length .byte 0 1) (h ++ [.rows .byte (be n 1)])) (s1 : n < 18446744073709551616) : Does Try.prog 32 [.int .u64 n, .int .i64 1] h K :=
  c_fuint (size := 1) H s1 (by decide) (by decide)
abbrev i_fuint1 := Ctr.mk (i := 0) (g := 32) @c_fuint1
attribute [instance] i_fuint1
theorem c_fruint1 {h : List Ch} {K : KT} {t : Nat} {r : Option (List UInt8)} {n : Nat} {r' : Option (List UInt8)} (H : K (.int .u64 n) (h.set t (.pack (Fd r')))) (o : hth h t = .pack (Fd r)) (e : uintR r 1 = (n, r')) : Does Try.prog 41 [.ptr t 0, .int .i64 1] h K :=
  c_fruint (size := 1) H o e (by decide) (by decide)
abbrev i_fruint1 := Ctr.mk (i := 0) (g := 41) @c_fruint1
attribute [instance] i_fruint1
theorem c_wuint2 {h : List Ch} {K : KT} {t : Nat} {xs : List UInt8} {n : Nat} (H : K (.ptr t 0) (h.set t (.pack (Wr (xs ++ be n 2))))) (o : hth h t = .pack (Wr xs)) (s3 : xs.length ≤ 1099511627776) : Does Try.prog 26 [.ptr t 0, .int .u64 n, .int .i64 2] h K :=
  c_wuint (size := 2) H o (by decide) (by decide) s3
abbrev i_wuint2 := Ctr.mk (i := 1) (g := 26) @c_wuint2
attribute [instance] i_wuint2
theorem c_ruint2 {h : List Ch} {K : KT} {t : Nat} {r : Option (List UInt8)} {n : Nat} {r' : Option (List UInt8)} (H : K (.int .u64 n) (h.set t (.pack (Rd r')))) (o : hth h t = .pack (Rd r)) (e : uintR r 2 = (n, r')) : Does Try.prog 36 [.ptr t 0, .int .i64 2] h K :=
  c_ruint (size := 2) H o e (by decide) (by decide)
abbrev i_ruint2 := Ctr.mk (i := 1) (g := 36) @c_ruint2
attribute [instance] i_ruint2
theorem c_fuint2 {h : List Ch} {K : KT} {n : Nat} (H : K (.sl h.length .byte 0 2) (h ++ [.rows .byte (be n 2)])) (s1 : n < 18446744073709551616) : Does Try.prog 32 [.int .u64 n, .int .i64 2] h K :=
  c_fuint (size := 2) H s1 (by decide) (by decide)
abbrev i_fuint2 := Ctr.mk (i := 1) (g := 32) @c_fuint2
attribute [instance] i_fuint2
theorem c_fruint2 {h : List Ch} {K : KT} {t : Nat} {r : Option (List UInt8)} {n : Nat} {r' : Option (List UInt8)} (H : K (.int .u64 n) (h.set t (.pack (Fd r')))) (o : hth h t = .pack (Fd r)) (e : uintR r 2 = (n, r')) : Does Try.prog 41 [.ptr t 0, .int .i64 2] h K :=
  c_fruint (size := 2) H o e (by decide) (by decide)
abbrev i_fruint2 := Ctr.mk (i := 1) (g := 41) @c_fruint2
attribute [instance] i_fruint2
theorem c_wuint3 {h : List Ch} {K : KT} {t : Nat} {xs : List UInt8} {n : Nat} (H : K (.ptr t 0) (h.set t (.pack (Wr (xs ++ be n 3))))) (o : hth h t = .pack (Wr xs)) (s3 : xs.length ≤ 1099511627776) : Does Try.prog 26 [.ptr t 0, .int .u64 n, .int .i64 3] h K :=
  c_wuint (size := 3) H o (by decide) (by decide) s3
abbrev i_wuint3 := Ctr.mk (i := 2) (g := 26) @c_wuint3
attribute [instance] i_wuint3
theorem c_ruint3 {h : List Ch} {K : KT} {t : Nat} {r : Option (List UInt8)} {n : Nat} {r' : Option (List UInt8)} (H : K (.int .u64 n) (h.set t (.pack (Rd r')))) (o : hth h t = .pack (Rd r)) (e : uintR r 3 = (n, r')) : Does Try.prog 36 [.ptr t 0, .int .i64 3] h K :=
  c_ruint (size := 3) H o e (by decide) (by decide)
abbrev i_ruint3 := Ctr.mk (i := 2) (g := 36) @c_ruint3
attribute [instance] i_ruint3
theorem c_fuint3 {h : List Ch} {K : KT} {n : Nat} (H : K (.sl h.length .byte 0 3) (h ++ [.rows .byte (be n 3)])) (s1 : n < 18446744073709551616) : Does Try.prog 32 [.int .u64 n, .int .i64 3] h K :=
  c_fuint (size := 3) H s1 (by decide) (by decide)
abbrev i_fuint3 := Ctr.mk (i := 2) (g := 32) @c_fuint3
attribute [instance] i_fuint3
theorem c_fruint3 {h : List Ch} {K : KT} {t : Nat} {r : Option (List UInt8)} {n : Nat} {r' : Option (List UInt8)} (H : K (.int .u64 n) (h.set t (.pack (Fd r')))) (o : hth h t = .pack (Fd r)) (e : uintR r 3 = (n, r')) : Does Try.prog 41 [.ptr t 0, .int .i64 3] h K :=
  c_fruint (size := 3) H o e (by decide) (by decide)
abbrev i_fruint3 := Ctr.mk (i := 2) (g := 41) @c_fruint3
attribute [instance] i_fruint3
theorem c_wuint4 {h : List Ch} {K : KT} {t : Nat} {xs : List UInt8} {n : Nat} (H : K (.ptr t 0) (h.set t (.pack (Wr (xs ++ be n 4))))) (o : hth h t = .pack (Wr xs)) (s3 : xs.length ≤ 1099511627776) : Does Try.prog 26 [.ptr t 0, .int .u64 n, .int .i64 4] h K :=
  c_wuint (size := 4) H o (by decide) (by decide) s3
abbrev i_wuint4 := Ctr.mk (i := 3) (g := 26) @c_wuint4
attribute [instance] i_wuint4
theorem c_ruint4 {h : List Ch} {K : KT} {t : Nat} {r : Option (List UInt8)} {n : Nat} {r' : Option (List UInt8)} (H : K (.int .u64 n) (h.set t (.pack (Rd r')))) (o : hth h t = .pack (Rd r)) (e : uintR r 4 = (n, r')) : Does Try.prog 36 [.ptr t 0, .int .i64 4] h K :=
  c_ruint (size := 4) H o e (by decide) (by decide)
abbrev i_ruint4 := Ctr.mk (i := 3) (g := 36) @c_ruint4
attribute [instance] i_ruint4
theorem c_fuint4 {h : List Ch} {K : KT} {n : Nat} (H : K (.sl h.length .byte 0 4) (h ++ [.rows .byte (be n 4)])) (s1 : n < 18446744073709551616) : Does Try.prog 32 [.int .u64 n, .int .i64 4] h K :=
  c_fuint (size := 4) H s1 (by decide) (by decide)
abbrev i_fuint4 := Ctr.mk (i := 3) (g := 32) @c_fuint4
attribute [instance] i_fuint4
theorem c_fruint4 {h : List Ch} {K : KT} {t : Nat} {r : Option (List UInt8)} {n : Nat} {r' : Option (List UInt8)} (H : K (.int .u64 n) (h.set t (.pack (Fd r')))) (o : hth h t = .pack (Fd r)) (e : uintR r 4 = (n, r')) : Does Try.prog 41 [.ptr t 0, .int .i64 4] h K :=
  c_fruint (size := 4) H o e (by decide) (by decide)
abbrev i_fruint4 := Ctr.mk (i := 3) (g := 41) @c_fruint4
attribute [instance] i_fruint4
theorem c_wuint8 {h : List Ch} {K : KT} {t : Nat} {xs : List UInt8} {n : Nat} (H : K (.ptr t 0) (h.set t (.pack (Wr (xs ++ be n 8))))) (o : hth h t = .pack (Wr xs)) (s3 : xs.length ≤ 1099511627776) : Does Try.prog 26 [.ptr t 0, .int .u64 n, .int .i64 8] h K :=
  c_wuint (size := 8) H o (by decide) (by decide) s3
abbrev i_wuint8 := Ctr.mk (i := 4) (g := 26) @c_wuint8
attribute [instance] i_wuint8
theorem c_ruint8 {h : List Ch} {K : KT} {t : Nat} {r : Option (List UInt8)} {n : Nat} {r' : Option (List UInt8)} (H : K (.int .u64 n) (h.set t (.pack (Rd r')))) (o : hth h t = .pack (Rd r)) (e : uintR r 8 = (n, r')) : Does Try.prog 36 [.ptr t 0, .int .i64 8] h K :=
  c_ruint (size := 8) H o e (by decide) (by decide)
abbrev i_ruint8 := Ctr.mk (i := 4) (g := 36) @c_ruint8
attribute [instance] i_ruint8
theorem c_fuint8 {h : List Ch} {K : KT} {n : Nat} (H : K (.sl h.length .byte 0 8) (h ++ [.rows .byte (be n 8)])) (s1 : n < 18446744073709551616) : Does Try.prog 32 [.int .u64 n, .int .i64 8] h K :=
  c_fuint (size := 8) H s1 (by decide) (by decide)
abbrev i_fuint8 := Ctr.mk (i := 4) (g := 32) @c_fuint8
attribute [instance] i_fuint8
theorem c_fruint8 {h : List Ch} {K : KT} {t : Nat} {r : Option (List UInt8)} {n : Nat} {r' : Option (List UInt8)} (H : K (.int .u64 n) (h.set t (.pack (Fd r')))) (o : hth h t = .pack (Fd r)) (e : uintR r 8 = (n, r')) : Does Try.prog 41 [.ptr t 0, .int .i64 8] h K :=
  c_fruint (size := 8) H o e (by decide) (by decide)
abbrev i_fruint8 := Ctr.mk (i := 4) (g := 41) @c_fruint8
attribute [instance] i_fruint8
end Go.V
