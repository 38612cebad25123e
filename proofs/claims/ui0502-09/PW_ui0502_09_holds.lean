import PyProof.Rows.All
import Wide.All
import OpenK.AllK
import Wide.FinOn
import PySem.Challenge.RW_ui0502_09
open PySem PySem.W PySem.W.X PyProof.Rows
set_option Elab.async false
set_option maxRecDepth 100000 in
set_option maxHeartbeats 0 in
theorem PySem.Challenge.cw_ui0502_09_holds : PySem.Challenge.rw_ui0502_09.Holds := by
  open_z
#print axioms PySem.Challenge.cw_ui0502_09_holds
