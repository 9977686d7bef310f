/- What is proved in the end: SolverParts returns true whatever the input, and its input reads as it did; no condition.
This text: . -/
import Derived.Test.YtldnfpgemlgbmaaGreatM12

